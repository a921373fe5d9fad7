/- row.Sum of any rows: the walk of rows that may not all be, and of none. stamp.Cmp, with the world behind it told to the block. delta.order: the order of updates. The plain law of delta.Sum: same rows and times put together, sorted. delta.At: the bag that updates come to at a time. What comes in at chapter 10: lists of updates. slices.insertionSortCmpFunc at updates: it sorts, those that are alike in their order. slices.IndexFunc, DeleteFunc at updates, by 'none of them'. slices.DeleteFunc at updates, by 'none of them': the walk. delta.Sum: the loop's relation. slices.Clone at updates. delta.copied: an update with a row and counters of its own. Two elements of a list of updates change places. slices.swapRangeCmpFunc at updates: two parts of one length change places. slices.rotateCmpFunc at updates: two parts, side by side, change places. The plain law of a symmetric merge: where two sorted lists are cut. slices.symMergeCmpFunc at updates: one element, merged with a sorted list behind it. Conditions: each theorem states its own. -/
import Derived.Test.YtdgbkpoickbidaaGreatDoorDt4
import Derived.Test.YtdgbkpoickbidaaGreatDoorDt2
import Derived.Sort.Grow
import Derived.Test.YtdgbkpoickbidaaGreatDoorDt3
import Derived.Deep.LoopGhost
import Derived.Deep.Strs
import Derived.Lib.SliceRun
import Derived.Test.YtdgbkpoickbidaaGreatDoorDt1
namespace Go.Proofs.YtdgbkpoickbidaaGreatDoor
open Go.RowKit Go.Maps

/-- the loop's relation, of rows that may not all be -/
structure SumO (w : World) (g gm n : Nat) (L : List Ct) (wr : World) (i : Nat) (O : List Ct) : Prop where
  at_ : SumAt w g gm n wr O
  vals : O.map valC = (L.take i).map valC
  len : O.length = i
theorem SumO.mono {w wr wz : World} {g gm n i : Nat} {L O : List Ct} (h : SumO w g gm n L wr i O) (x : Ext wr wz) : SumO w g gm n L wz i O := ⟨h.at_.mono x, h.vals, h.len⟩
theorem SumO.start {w w0 : World} {n : Nat} (L : List Ct) (h0 : 0 < n) (hn : n ≤ 1000000000) (hw : w0 = (w.alloc (madeCts n)).alloc (.map #[] 0)) : SumO w w.heap.size (w.heap.size + 1) n L w0 0 [] := by
  subst hw
  exact ⟨⟨(arr_made w n h0 hn).ext ((Ext.refl _).alloc _), fun x h => (nomatch h), List.Pairwise.nil, ((Ext.refl w).alloc _).alloc _, by simp⟩, rfl, rfl⟩
theorem SumO.new {w w1 w3 w4 : World} {g gm n i m : Nat} {L O : List Ct} {x : Ct} {A : Option Addr} {c nx : Nat} (h : SumO w g gm n L w1 i O) (hi : i < L.length) (hx : L.getD i Ct.zero = x) (hm : m = O.length) (hnx : nx = x.l.length) (x3 : Ext w1 w3)
    (o3 : Own w3 w1.heap.size 204 4 A nx c (rowC x.l)) (b3 : ∀ ad, A = some ad → w1.heap.size ≤ ad.block ∧ ad.block < w3.heap.size)
    (o4 : Own w4 w.heap.size 154 2 (some ⟨g, 0, none⟩) (m + 1) n (ctsC O ++ [.slice A nx c, .int .i64 x.k])) (g4 : w3.grownBy w4 (some g)) : SumO w g gm n L w4 (i + 1) (O ++ [⟨A, c, x.l, x.k⟩]) := by
  subst hnx hm
  have s3 := h.at_.mono x3
  have hg := h.at_.gg
  refine ⟨s3.push (x := ⟨A, c, x.l, x.k⟩) (Own.mono o3 (Nat.zero_le _)) (fun ad e => by have := b3 ad e; omega) (fun y hy a b e1 e2 => by have := (h.at_.rows y hy).2 a e1; have := b3 b e2; omega) o4 g4, ?_, by rw [List.length_append, h.len]; rfl⟩
  rw [take_snocC hi, hx, List.map_append, List.map_append, h.vals]
  rfl
theorem SumO.out {w wx : World} {g gm n : Nat} {L O : List Ct} (h : SumO w g gm n L wx n O) (hn : n = L.length) (hin : ∀ x ∈ L, InN (valC x)) : SumEnd w g gm n L O wx := by
  have e : O.map valC = L.map valC := by rw [h.vals, List.take_of_length_le (by omega)]
  refine ⟨h.at_, fun c => by rw [e], fun x hx => ?_⟩
  have : valC x ∈ O.map valC := List.mem_map.2 ⟨x, hx, rfl⟩
  rw [e] at this
  obtain ⟨y, hy, e2⟩ := List.mem_map.1 this
  rw [← e2]
  exact hin y hy
def okTo (L : List Ct) (i : Nat) : Prop := ∀ x ∈ L.take i, checkR x.l = 0
theorem okTo.step {L : List Ct} {i : Nat} {x : Ct} (hi : i < L.length) (hx : L.getD i Ct.zero = x) : okTo L (i + 1) ↔ okTo L i ∧ checkR x.l = 0 := by
  unfold okTo
  rw [take_snocC hi, hx]
  exact ⟨fun h => ⟨fun y hy => h y (List.mem_append_left _ hy), h x (by simp)⟩, fun h y hy => by
    rcases List.mem_append.1 hy with q | q
    · exact h.1 y q
    · rw [List.mem_singleton.1 q]; exact h.2⟩
/-- the first loop's answer -/
def Plain (L : List Ct) (i : Nat) (b : Bool) : Prop := b = true ↔ okTo L i
set_option maxRecDepth 100000 in
set_option maxHeartbeats 16000000 in
theorem sum_other (A : Option Addr) (c n : Nat) (L : List Ct) (w : World) (h0 : 0 < n) (hn : n = L.length) (h20 : n ≤ 100000000) (h : Ctin w A c L) (hin : ∀ x ∈ L, InC x) (hbad : ∃ x ∈ L, checkR x.l ≠ 0) (G : Good w) :
    Calls Tryz.prog 109 #[.slice A n c] w (SumRes w L) := by
  have HN := Lib.hid hn
  have H := Lib.hid h
  have HIN := Lib.hid hin
  have HBAD := Lib.hid hbad
  have hmk := make_cts n (by omega)
  have hmm := make_map (n : Int)
  clear hn h hin hbad
  go_enter Tryz.func109, Tryz.ntmps109
  go_upto_region 4 with fail
  obtain ⟨w0, hw0⟩ : ∃ x, x = (w.alloc (madeCts n)).alloc (.map #[] 0) := ⟨_, rfl⟩
  have X0 : Ext w w0 := hw0 ▸ ((Ext.refl w).alloc _).alloc _
  have HP0 : Hid (SumO w w.heap.size (w.heap.size + 1) n L w0 0 []) := Lib.hid (SumO.start L h0 (by omega) hw0)
  rw [← hw0]
  clear hw0 hmk hmm
  go_wp2
  go_loopw [5, 24] (fun u v wr => ∃ (i : Nat) (b : Bool), i ≤ n ∧ u = .bool b ∧ v = .int .i64 i ∧ Hid (Plain L i b) ∧ Ext w0 wr) (fun _ v _ => n - (intOf v).toNat)
  case atStart => exact ⟨0, true, Nat.zero_le _, rfl, rfl, Lib.hid ⟨fun _ x hx => by simp at hx, fun _ => rfl⟩, Ext.refl _⟩
  case round =>
    obtain ⟨i, b, hi, rfl, rfl, HB, er0⟩ := hrel
    by_cases hlt : i < n
    · have hil : i < L.length := by rw [← HN.out]; exact hlt
      have er := X0.trans er0
      obtain ⟨ad, rfl, p0, p1⟩ := (H.out.ext er).at hil
      have hm := getD_mem hil
      obtain ⟨x, hx⟩ : ∃ x, L.getD i Ct.zero = x := ⟨_, rfl⟩
      rw [hx] at p0 p1 hm
      obtain ⟨nx, hnx⟩ : ∃ nx, nx = x.l.length := ⟨_, rfl⟩
      rw [← hnx] at p0
      have hnx9 : nx ≤ 1000000000 := by have := (HIN.out x hm).len; omega
      have HT := Lib.hid (HIN.out x hm).txt
      have HI := Lib.hid (HIN.out x hm).int
      have HR := Lib.hid ((H.out.rows x hm).ext (er.alloc (.cells #[.slice x.A nx x.c, .int .i64 x.k] 154)))
      have GW := Lib.hid (G.ext (er.alloc (.cells #[.slice x.A nx x.c, .int .i64 x.k] 154)))
      have HNX := Lib.hid hnx
      have HX := Lib.hid hx
      have HIL := Lib.hid hil
      have HM := Lib.hid hm
      clear hil hm hx hnx
      cases b
      · have HB2 : Hid (Plain L (i + 1) false) := Lib.hid ⟨fun q => (nomatch q), fun q => absurd (HB.out.2 ((okTo.step HIL.out HX.out).1 q).1) (by decide)⟩
        clear HB
        go_wp2
        go_roundw
        case rel => exact ⟨i + 1, false, by omega, rfl, by go_num, HB2, er0.alloc _⟩
        case measure => simp [intOf]; omega
      · obtain ⟨v, hv⟩ : ∃ v, checkR x.l = v := ⟨_, rfl⟩
        have HV := Lib.hid hv
        by_cases hv0 : v = 0
        · subst hv0
          have HB2 : Hid (Plain L (i + 1) true) := Lib.hid ⟨fun _ => (okTo.step HIL.out HX.out).2 ⟨HB.out.1 rfl, HV.out⟩, fun _ => rfl⟩
          clear hv HB
          go_wp2_with (go_at_call 154; refine (rowCheck_lit x.A x.c nx x.l _ HV HNX HR HT GW.out).mono ?_; rintro e w1 ⟨rfl, x1⟩)
          go_roundw
          case rel => exact ⟨i + 1, true, by omega, rfl, by go_num, HB2, (er0.alloc _).trans x1⟩
          case measure => simp [intOf]; omega
        · have zv : (v == 0) = false := by simpa using hv0
          have HV0 := Lib.hid hv0
          have HB2 : Hid (Plain L (i + 1) false) := Lib.hid ⟨fun q => (nomatch q), fun q => absurd (HV.out.symm.trans ((okTo.step HIL.out HX.out).1 q).2) HV0.out⟩
          clear hv HB hv0
          go_wp2_with (go_at_call 154; refine (rowCheck_lit x.A x.c nx x.l _ HV HNX HR HT GW.out).mono ?_; rintro e w1 ⟨rfl, x1⟩)
          go_roundw
          case rel => exact ⟨i + 1, false, by omega, rfl, by go_num, HB2, (er0.alloc _).trans x1⟩
          case measure => simp [intOf]; omega
    · have hbf : b = false := by
        cases b with
        | false => rfl
        | true =>
          obtain ⟨x, hx, q⟩ := HBAD.out
          exact absurd (HB.out.1 rfl x (by rw [List.take_of_length_le (by rw [← HN.out]; omega)]; exact hx)) q
      subst hbf
      clear HB
      go_wp2
      go_loopg [3, 38] n (fun z u v wr => ∃ (i : Nat) (O : List Ct), z = n - i ∧ i ≤ n ∧ u = .slice (some ⟨w.heap.size, 0, none⟩) O.length n ∧ v = .int .i64 i ∧ Hid (SumO w w.heap.size (w.heap.size + 1) n L wr i O))
      case atStart => exact ⟨0, [], rfl, Nat.zero_le _, rfl, rfl, Lib.hid (HP0.out.mono er0)⟩
      case round =>
        clear hi hlt er0 HP0 X0
        obtain ⟨i, O, rfl, hi, rfl, rfl, HP⟩ := hrel
        by_cases hlt : i < n
        · have hil : i < L.length := by rw [← HN.out]; exact hlt
          have er := HP.out.at_.ext
          obtain ⟨ad, rfl, p0, p1⟩ := (H.out.ext er).at hil
          have hm := getD_mem hil
          obtain ⟨x, hx⟩ : ∃ x, L.getD i Ct.zero = x := ⟨_, rfl⟩
          rw [hx] at p0 p1 hm
          obtain ⟨nx, hnx⟩ : ∃ nx, nx = x.l.length := ⟨_, rfl⟩
          rw [← hnx] at p0
          have hnx9 : nx ≤ 1000000000 := by have := (HIN.out x hm).len; omega
          have HT := Lib.hid (HIN.out x hm).txt
          have HI := Lib.hid (HIN.out x hm).int
          have HR := Lib.hid ((H.out.rows x hm).ext (er.alloc (.cells #[.slice x.A nx x.c, .int .i64 x.k] 154)))
          have GW := Lib.hid (G.ext (er.alloc (.cells #[.slice x.A nx x.c, .int .i64 x.k] 154)))
          have HNX := Lib.hid hnx
          have HX := Lib.hid hx
          have HIL := Lib.hid hil
          have HM := Lib.hid hm
          have hbx : w.heap.size + 1 < wr.heap.size := HP.out.at_.gg.2.2
          obtain ⟨m, hmO⟩ : ∃ m, m = O.length := ⟨_, rfl⟩
          have hmi : m ≤ i := by rw [hmO, HP.out.len]; exact Nat.le_refl _
          rw [← hmO]
          have HMO := Lib.hid hmO
          clear hil hm hx hnx hmO
          have p0' := ((Ext.refl wr).alloc (.cells #[.slice x.A nx x.c, .int .i64 x.k] 154)).cell p0
          have p1' := ((Ext.refl wr).alloc (.cells #[.slice x.A nx x.c, .int .i64 x.k] 154)).cell p1
          obtain ⟨wb, hwb⟩ : ∃ z, z = wr.alloc (.cells #[.slice x.A nx x.c, .int .i64 x.k] 154) := ⟨_, rfl⟩
          have BX2 : Bk wb wr.heap.size 154 #[.slice x.A nx x.c, .int .i64 x.k] := by rw [hwb]; exact Bk.new _ _ _
          have HS2 : Hid (SumAt w w.heap.size (w.heap.size + 1) n wb O) := Lib.hid (by rw [hwb]; exact HP.out.at_.mono ((Ext.refl wr).alloc _))
          have HP2 : Hid (SumO w w.heap.size (w.heap.size + 1) n L wb i O) := Lib.hid (by rw [hwb]; exact HP.out.mono ((Ext.refl wr).alloc _))
          go_upto_region 19 with fail
          rw [← hwb] at ⊢
          clear hwb p0' p1'
          have X2 : Ext wb wb.drew := (Ext.refl wb).drew
          have HR2 := Lib.hid ((H.out.rows x HM.out).ext (HS2.out.ext.trans X2))
          have B0 : ∀ z : Xt wb.drew, z.W.cell? ⟨wr.heap.size, 0, none⟩ = some (.slice x.A nx x.c) := fun z => (X2.trans z.x).cell (BX2.cell 0)
          have B1 : ∀ z : Xt wb.drew, z.W.cell? ⟨wr.heap.size, 1, none⟩ = some (.int .i64 x.k) := fun z => (X2.trans z.x).cell (BX2.cell 1)
          go_simp
          refine wp_region_ord [0,0,2,6,0,16,62,126,255,511] (.pur [0] (.flo [1,2,4,5] (.ext 3 (.flo [6] (.one 7 (.one 8 (.flo [9] (.fin)))))))) (by kernel_rfl) (by kernel_rfl) (by intro _ _ d _ _ h; cases d <;> exact h) ?_
          (refine ord_pur (pick_cons rfl pick_nil) ?_; (repeat (go_big_quiet_step (fail))); refine wpQuiet_nil ?_; show ordWalk _ _ _ _ _ _ _)
          (refine ord_flo (pick_cons rfl (pick_cons rfl (pick_cons rfl (pick_cons rfl pick_nil)))) ?_; (repeat (go_big_quiet_step (fail))); refine wpQuiet_nil ?_; show ordWalk _ _ _ _ _ _ _)
          refine ord_ext (pick_cons rfl pick_nil) ?_; intro K_ hK_
          go_wp2_with (go_at_call 183; refine (clone_lit x.A x.c nx x.l _ HNX HR2 hnx9).mono ?_; rintro e w3 ⟨⟨A3, c3, rfl, o3, b3⟩, x3⟩)
          refine ordNext.mk x3 ?_
          have O3 := Lib.hid o3
          have HB3 := Lib.hid b3
          have X3 := Lib.hid (X2.trans x3)
          clear o3 b3
          (refine ord_flo (pick_cons rfl pick_nil) ?_; (repeat (go_big_quiet_step (fail))); refine wpQuiet_nil ?_; show ordWalk _ _ _ _ _ _ _)
          refine ord_one (pick_cons rfl pick_nil) ?_; intro K_ hK_
          go_wp2
          refine ord_one (pick_cons rfl pick_nil) ?_; intro K_ hK_
          have HS3 := Lib.hid (HS2.out.mono X3.out)
          go_wp2_with (at_builtin; refine wpList_append_stay _ elem_ct w.heap.size _ _ rfl rfl w.heap.size m n (ctsC O) rfl (by rw [HMO.out]; exact (HS3.out.arr.ext ((Ext.refl _).alloc _)).1) h0 ⟨w3.heap.size, 0, none⟩ 1 1 [.slice A3 nx c3, .int .i64 x.k] rfl (sl_ct _ _ _ _) (by decide) (by intro u hu; simp at hu; rcases hu with rfl | rfl <;> rfl) (by omega) ?_; intro w4 o4 g4)
          have O4 := Lib.hid o4
          have G4 := Lib.hid ((upd_ext ((Ext.refl w3).alloc (.cells #[.slice A3 nx c3, .int .i64 x.k] 154)) w.heap.size).trans g4)
          clear o4 g4
          go_simp
          (refine ord_flo (pick_cons rfl pick_nil) ?_; (repeat (go_big_quiet_step (fail))); refine wpQuiet_nil ?_; show ordWalk _ _ _ _ _ _ _)
          refine ord_fin ?_
          go_wp2
          go_roundg (n - (i + 1))
          case measure => omega
          case rel => exact ⟨i + 1, O ++ [⟨A3, c3, x.l, x.k⟩], rfl, by omega, by rw [HMO.out]; simp, by go_num, Lib.hid (HP2.out.new HIL.out HX.out HMO.out HNX.out X3.out (by have := O3.out; exact this) (fun ad e => by have := HB3.out ad e; have := X2.size; omega) O4.out G4.out)⟩
        · have hin' : i = n := by omega
          have HE : Hid (SumEnd w w.heap.size (w.heap.size + 1) n L O wr) := Lib.hid (by have := HP.out; rw [hin'] at this; exact this.out HN.out (fun x hx => (HIN.out x hx).num))
          have hmn : O.length ≤ n := arr_len HE.out.at_.arr
          obtain ⟨m, hmO⟩ : ∃ m, m = O.length := ⟨_, rfl⟩
          rw [← hmO] at hmn ⊢
          have HMO := Lib.hid hmO
          have HINV : Hid (∀ x ∈ L, InN (valC x)) := Lib.hid fun x hx => (HIN.out x hx).num
          have hg0 : w.heap.size + 1 < wr.heap.size := HE.out.at_.gg.2.2
          clear hmO hin' HP
          go_wp2_with (go_at_call 187; go_loud (refine (sortStable_any w.heap.size w.heap.size n m O _ HMO.out (by omega) HE.out.at_.arr HE.out.at_.off).mono ?_; rintro e w1 ⟨rfl, S, st, ar, up⟩; have HME := Lib.hid (MergeAt.start HE.out st ar up); have HST := Lib.hid st; have HSL : Hid (m = S.length) := Lib.hid (by rw [stable_len st]; exact HMO.out); clear st ar up))
          go_loopg [13, 82] m (fun z u v wr => ∃ (i q : Nat) (T M X R : List Ct), z = m - i ∧ i ≤ m ∧ q ≤ i ∧ u = .int .i64 q ∧ v = .int .i64 i ∧ Hid (q = M.length) ∧ Hid (MergeAt w w.heap.size (w.heap.size + 1) n S wr i T M X R))
          case atStart => exact ⟨0, 0, [], [], [], S, rfl, Nat.zero_le _, Nat.le_refl _, rfl, rfl, Lib.hid rfl, HME⟩
          case round =>
            clear HME
            obtain ⟨i, q, T, M, X, R, rfl, hi, hqi, rfl, rfl, HQ, HG⟩ := hrel
            have hbx : w.heap.size + 1 < wr.heap.size := HG.out.gg.2.2
            by_cases hlt : i < m
            · obtain ⟨x, R, rfl⟩ : ∃ x R', R = x :: R' := by
                cases R with
                | nil =>
                  have h1 := HG.out.spl
                  have h2 := HG.out.tl
                  have h3 := HSL.out
                  rw [h1, List.append_nil, h2] at h3
                  omega
                | cons x R => exact ⟨x, R, rfl⟩
              have hA := HG.out.arr
              have hxl : i < (M ++ (X ++ x :: R)).length := by have := HG.out.len; simp only [List.length_append, List.length_cons] at this ⊢; omega
              obtain ⟨p0, p1⟩ := hA.at hxl
              have e : (M ++ (X ++ x :: R)).getD i Ct.zero = x := by
                rw [← List.append_assoc, show i = (M ++ X).length by rw [List.length_append]; exact HG.out.len]
                exact getD_mid _ x R
              rw [e] at p0 p1
              obtain ⟨nx, hnx⟩ : ∃ nx, nx = x.l.length := ⟨_, rfl⟩
              rw [← hnx] at p0
              have HNX := Lib.hid hnx
              have hqm : q < m := by omega
              have XB : Ext wr (wr.alloc (.cells #[.slice x.A nx x.c, .int .i64 x.k] 154)) := (Ext.refl wr).alloc _
              have HG1 := Lib.hid (HG.out.mono XB)
              have BX := Bk.new wr 154 #[.slice x.A nx x.c, .int .i64 x.k]
              have f0 := HG1.out.arr.free (q * 2)
              have f1 := HG1.out.arr.free (q * 2 + 1)
              have hqn : q < n := by omega
              obtain ⟨u0, d0⟩ := Option.isSome_iff_exists.1 (HG1.out.arr.cells_past (j := q * 2) (by omega))
              obtain ⟨u1, d1⟩ := Option.isSome_iff_exists.1 (HG1.out.arr.cells_past (j := q * 2 + 1) (by omega))
              clear hA hxl e hnx
              rcases snoc_cases M with rfl | ⟨M, y, rfl⟩
              · have hq0 : q = 0 := HQ.out
                subst hq0
                have HK : Hid (mergeStep (([] : List Ct).map valC) (valC x) = ([] : List Ct).map valC ++ [valC x]) := Lib.hid rfl
                go_upto_region 26 with fail
                have X2 : Ext (wr.alloc (.cells #[.slice x.A nx x.c, .int .i64 x.k] 154)) (wr.alloc (.cells #[.slice x.A nx x.c, .int .i64 x.k] 154)).drew := (Ext.refl _).drew
                refine wp_region_ord [0,1,3,7,7,23,63,127,255,7,519,2047,4095,8191] (.flo [0,1,2,3,4,5,6,7,8,9,10] (.one 11 (.flo [12,13] (.fin)))) (by kernel_rfl) (by kernel_rfl) (by intro _ _ d _ _ h; cases d <;> exact h) ?_
                (refine ord_flo (pick_cons rfl (pick_cons rfl (pick_cons rfl (pick_cons rfl (pick_cons rfl (pick_cons rfl (pick_cons rfl (pick_cons rfl (pick_cons rfl (pick_cons rfl (pick_cons rfl pick_nil))))))))))) ?_; (repeat (go_big_quiet_step (fail))); refine wpQuiet_nil ?_; show ordWalk _ _ _ _ _ _ _)
                refine ord_one (pick_cons rfl pick_nil) ?_; intro K_ hK_
                go_wp2
                (refine ord_flo (pick_cons rfl (pick_cons rfl pick_nil)) ?_; (repeat (go_big_quiet_step (fail))); refine wpQuiet_nil ?_; show ordWalk _ _ _ _ _ _ _)
                refine ord_fin ?_
                have BX2 := BX.drew
                go_wp2
                go_roundg (m - (i + 1))
                case measure => omega
                case rel => exact ⟨i + 1, 1, T ++ [x], [x], (X ++ [x]).tail, R, rfl, by omega, by omega, rfl, by go_num, Lib.hid rfl, Lib.hid ((HG1.out.mono X2).keep HK.out rfl HNX.out)⟩
              · obtain ⟨p, hp⟩ : ∃ p, p = M.length := ⟨_, rfl⟩
                have hqp : q = p + 1 := by have := HQ.out; rw [List.length_append, List.length_singleton] at this; omega
                subst hqp
                have hy := HG1.out.arr.at (i := p) (by rw [hp]; simp)
                have ey : (M ++ [y] ++ (X ++ x :: R)).getD p Ct.zero = y := by rw [hp, List.append_assoc]; exact getD_mid M y _
                rw [ey] at hy
                obtain ⟨y0, y1⟩ := hy
                obtain ⟨ny, hny⟩ : ∃ ny, ny = y.l.length := ⟨_, rfl⟩
                rw [← hny] at y0
                have HNY := Lib.hid hny
                have HPL := Lib.hid hp
                have f3 := HG1.out.arr.free (p * 2 + 1)
                obtain ⟨v, hv⟩ : ∃ v, cmpR y.l x.l = v := ⟨_, rfl⟩
                have HV := Lib.hid hv
                have za : decide ((0 : Int) < (p : Int) + 1) = true := decide_eq_true (by omega)
                obtain ⟨wb, hwb⟩ : ∃ z, z = wr.alloc (.cells #[.slice x.A nx x.c, .int .i64 x.k] 154) := ⟨_, rfl⟩
                have hgb : w.heap.size + 1 < wb.heap.size := by rw [hwb]; exact HG1.out.gg.2.2
                go_upto_region 26 with fail
                rw [← hwb] at XB HG1 BX f0 f1 d0 d1 y0 y1 f3 ⊢
                clear ey hny hp hv hwb
                have X2 : Ext wb wb.drew := (Ext.refl wb).drew
                have HRY := Lib.hid ((HG1.out.rows y (by simp)).1.rw.ext X2)
                have HRX := Lib.hid ((HG1.out.rows x (by simp)).1.rw.ext X2)
                have Y0 : ∀ z : Xt wb.drew, z.W.cell? ⟨w.heap.size, p * 2, none⟩ = some (.slice y.A ny y.c) := fun z => (X2.trans z.x).cell y0
                have B0 : ∀ z : Xt wb.drew, z.W.cell? ⟨wr.heap.size, 0, none⟩ = some (.slice x.A nx x.c) := fun z => (X2.trans z.x).cell (BX.cell 0)
                by_cases hv0 : v = 0
                · subst hv0
                  refine wp_region_ord [0,1,3,7,7,23,63,127,255,7,519,2047,4095,8191] (.flo [0,1,2,3,4,5,6,7,8,9,10] (.one 11 (.flo [12,13] (.fin)))) (by kernel_rfl) (by kernel_rfl) (by intro _ _ d _ _ h; cases d <;> exact h) ?_
                  (refine ord_flo (pick_cons rfl (pick_cons rfl (pick_cons rfl (pick_cons rfl (pick_cons rfl (pick_cons rfl (pick_cons rfl (pick_cons rfl (pick_cons rfl (pick_cons rfl (pick_cons rfl pick_nil))))))))))) ?_; (repeat (go_big_quiet_step (fail))); refine wpQuiet_nil ?_; show ordWalk _ _ _ _ _ _ _)
                  refine ord_one (pick_cons rfl pick_nil) ?_; intro K_ hK_
                  go_wp2_with (go_at_call 164; refine (rowCmp_any y.A x.A y.c x.c ny nx y.l x.l _ HNY.out HNX.out HRY.out HRX.out).mono ?_; rintro e w1 ⟨rfl, x1⟩; rw [HV.out])
                  (refine ord_flo (pick_cons rfl (pick_cons rfl pick_nil)) ?_; (repeat (go_big_quiet_step (fail))); refine wpQuiet_nil ?_; show ordWalk _ _ _ _ _ _ _)
                  refine ord_fin ?_
                  have X3 := X2.trans x1
                  have HG2 := Lib.hid (HG1.out.mono X3)
                  have yk := X3.cell y1
                  have bk := X3.cell (BX.cell 1)
                  have f4 := HG2.out.arr.free (p * 2 + 1)
                  obtain ⟨s, hs⟩ : ∃ s, w64 (y.k + x.k) = s := ⟨_, rfl⟩
                  have hs2 : IntKind.i64.wrap (y.k + x.k) = s := hs
                  have HS := Lib.hid hs
                  have X4 : Ext w1 w1.drew := (Ext.refl w1).drew
                  have Y1 : ∀ z : Xt w1.drew, z.W.cell? ⟨w.heap.size, p * 2 + 1, none⟩ = some (.int .i64 y.k) := fun z => (X4.trans z.x).cell yk
                  have B1 : ∀ z : Xt w1.drew, z.W.cell? ⟨wr.heap.size, 1, none⟩ = some (.int .i64 x.k) := fun z => (X4.trans z.x).cell bk
                  clear hs
                  go_upto_region 27 with fail
                  refine wp_region_ord [0,0,2,7,15,31,0,64,255,511,1023,2047] (.flo [0,1,2,3,4,5,6,7,8,9,10] (.one 11 (.fin))) (by kernel_rfl) (by kernel_rfl) (by intro _ _ d _ _ h; cases d <;> exact h) ?_
                  (refine ord_flo (pick_cons rfl (pick_cons rfl (pick_cons rfl (pick_cons rfl (pick_cons rfl (pick_cons rfl (pick_cons rfl (pick_cons rfl (pick_cons rfl (pick_cons rfl (pick_cons rfl pick_nil))))))))))) ?_; (repeat (go_big_quiet_step (fail))); refine wpQuiet_nil ?_; show ordWalk _ _ _ _ _ _ _)
                  refine ord_one (pick_cons rfl pick_nil) ?_; intro K_ hK_
                  go_wp2
                  refine ord_fin ?_
                  go_wp2
                  go_roundg (m - (i + 1))
                  case measure => omega
                  case rel => exact ⟨i + 1, p + 1, T ++ [x], M ++ [(⟨y.A, y.c, y.l, s⟩ : Ct)], X ++ [x], R, rfl, by omega, by omega, by go_num, by go_num, Lib.hid (by rw [List.length_append, List.length_singleton, ← HPL.out]), Lib.hid ((HG2.out.mono X4).join HV.out HPL.out HS.out)⟩
                · have zv : (v == 0) = false := by simpa using hv0
                  have HK : Hid (mergeStep ((M ++ [y]).map valC) (valC x) = (M ++ [y]).map valC ++ [valC x]) := Lib.hid (by
                    rw [List.map_append, List.map_singleton, mergeStep_snoc, if_neg (show ¬ cmpV (valC y) (valC x) = 0 from fun q => hv0 (HV.out.symm.trans q))])
                  clear hv0
                  refine wp_region_ord [0,1,3,7,7,23,63,127,255,7,519,2047,4095,8191] (.flo [0,1,2,3,4,5,6,7,8,9,10] (.one 11 (.flo [12,13] (.fin)))) (by kernel_rfl) (by kernel_rfl) (by intro _ _ d _ _ h; cases d <;> exact h) ?_
                  (refine ord_flo (pick_cons rfl (pick_cons rfl (pick_cons rfl (pick_cons rfl (pick_cons rfl (pick_cons rfl (pick_cons rfl (pick_cons rfl (pick_cons rfl (pick_cons rfl (pick_cons rfl pick_nil))))))))))) ?_; (repeat (go_big_quiet_step (fail))); refine wpQuiet_nil ?_; show ordWalk _ _ _ _ _ _ _)
                  refine ord_one (pick_cons rfl pick_nil) ?_; intro K_ hK_
                  go_wp2_with (go_at_call 164; refine (rowCmp_any y.A x.A y.c x.c ny nx y.l x.l _ HNY.out HNX.out HRY.out HRX.out).mono ?_; rintro e w1 ⟨rfl, x1⟩; rw [HV.out])
                  (refine ord_flo (pick_cons rfl (pick_cons rfl pick_nil)) ?_; (repeat (go_big_quiet_step (fail))); refine wpQuiet_nil ?_; show ordWalk _ _ _ _ _ _ _)
                  refine ord_fin ?_
                  have X3 := X2.trans x1
                  have HG2 := Lib.hid (HG1.out.mono X3)
                  have b0 := X3.cell (BX.cell 0)
                  have b1 := X3.cell (BX.cell 1)
                  have g0 := HG2.out.arr.free ((p + 1) * 2)
                  have g1 := HG2.out.arr.free ((p + 1) * 2 + 1)
                  have e0 := X3.cell d0
                  have e1 := X3.cell d1
                  go_wp2
                  go_roundg (m - (i + 1))
                  case measure => omega
                  case rel => exact ⟨i + 1, p + 1 + 1, T ++ [x], M ++ [y] ++ [x], (X ++ [x]).tail, R, rfl, by omega, by omega, by go_num, by go_num, Lib.hid (by rw [List.length_append, List.length_singleton, ← HQ.out]), Lib.hid (HG2.out.keep HK.out HQ.out HNX.out)⟩
            · have hR : R = [] := List.eq_nil_of_length_eq_zero (by
                have h1 := HG.out.spl
                have h2 := HG.out.tl
                have h3 := HSL.out
                rw [h1, List.length_append, h2] at h3
                omega)
              subst hR
              have hqn : q ≤ n := by omega
              go_wp2_with (go_at_call 189; refine (deleteFunc_any w.heap.size w.heap.size n q M _ HQ.out HG.out.arr.prefix_).mono ?_; rintro e w2 ⟨mf, rfl, hmf, ar2, up2⟩; have HR2 := Lib.hid (fun c' hc => sum_res (c' := c') HE.out HINV.out HST.out HG.out ar2 up2 hmf hc); clear hmf ar2 up2)
              go_ret
              exact HR2.out n rfl
set_option maxRecDepth 100000 in
set_option maxHeartbeats 1000000 in
theorem stable_nil (A : Option Addr) (c : Nat) (w : World) : Calls Tryz.prog 225 #[.slice A 0 c, .int .i64 0, .func (.func 188) #[] #[]] w fun e w' => e = .returned (.tuple #[]) ∧ w = w' := by
  go_enter Tryz.func225, Tryz.ntmps225
  go_wp2
  go_loop [7, 8] (fun u v => u = .int .i64 0 ∧ v = .int .i64 20) (fun _ _ => 0)
  case atStart => exact ⟨rfl, rfl⟩
  case round =>
    obtain ⟨rfl, rfl⟩ := hrel
    go_wp2_with (go_at_call 256; refine (insSort_none _ 0 c 0 0 _ (Nat.le_refl _) (by decide)).mono ?_; rintro e w1 ⟨rfl, rfl⟩)
    go_loop [6, 7, 8] (fun u v z => u = .int .i64 20) (fun _ _ _ => 0)
    case atStart => rfl
    case round =>
      subst hrel
      go_wp2
      go_end0
      exact ⟨rfl, rfl⟩
set_option maxRecDepth 100000 in
set_option maxHeartbeats 800000 in
theorem sortStable_nil (A : Option Addr) (c : Nat) (w : World) : Calls Tryz.prog 187 #[.slice A 0 c, .func (.func 188) #[] #[]] w fun e w' => e = .returned (.tuple #[]) ∧ w = w' := by
  go_enter Tryz.func187, Tryz.ntmps187
  go_wp2_with (go_at_call 225; refine (stable_nil A c _).mono ?_; rintro e w1 ⟨rfl, rfl⟩)
  go_end0
  exact ⟨rfl, rfl⟩
set_option maxRecDepth 100000 in
set_option maxHeartbeats 800000 in
theorem index_nil (A : Option Addr) (c : Nat) (w : World) : Calls Tryz.prog 226 #[.slice A 0 c, .func (.func 190) #[] #[]] w fun e w' => e = .returned (.int .i64 (-1)) ∧ w = w' := by
  go_enter Tryz.func226, Tryz.ntmps226
  go_wp2
  refine wp_loop_rounds 1 ?_
  rw [rounds_succ]
  go_wp2
  go_ret
  exact ⟨rfl, rfl⟩
set_option maxRecDepth 100000 in
set_option maxHeartbeats 800000 in
theorem delete_nil (A : Option Addr) (c : Nat) (w : World) : Calls Tryz.prog 189 #[.slice A 0 c, .func (.func 190) #[] #[]] w fun e w' => e = .returned (.slice A 0 c) ∧ w = w' := by
  go_enter Tryz.func189, Tryz.ntmps189
  go_wp2_with (go_at_call 226; refine (index_nil A c _).mono ?_; rintro e w1 ⟨rfl, rfl⟩)
  go_ret
  exact ⟨rfl, rfl⟩
set_option maxRecDepth 100000 in
set_option maxHeartbeats 1000000 in
theorem sum_none (A : Option Addr) (c : Nat) (w : World) : Calls Tryz.prog 109 #[.slice A 0 c] w (SumRes w []) := by
  have hmk : ∀ W : World, (Instr.makeSlice 31 (.int .i64 0) (.int .i64 0)).run Tryz.prog W = .ok (.slice (some ⟨W.heap.size, 0, none⟩) 0 0) (W.alloc (madeCts 0)) := make_cts 0 (by omega)
  have hmm := make_map (0 : Int)
  go_enter Tryz.func109, Tryz.ntmps109
  go_upto_region 4 with fail
  obtain ⟨w0, hw0⟩ : ∃ x, x = (w.alloc (madeCts 0)).alloc (.map #[] 0) := ⟨_, rfl⟩
  have X0 : Ext w w0 := hw0 ▸ ((Ext.refl w).alloc _).alloc _
  rw [← hw0]
  clear hw0 hmk hmm
  go_wp2
  refine wp_loop_rounds 1 ?_
  rw [rounds_succ]
  go_wp2
  refine wp_loop_rounds 1 ?_
  rw [rounds_succ]
  go_wp2_with (go_at_call 187; refine (sortStable_nil _ _ _).mono ?_; rintro e w1 ⟨rfl, rfl⟩)
  refine wp_loop_rounds 1 ?_
  rw [rounds_succ]
  go_wp2_with (go_at_call 189; refine (delete_nil _ _ _).mono ?_; rintro e w1 ⟨rfl, rfl⟩)
  go_ret
  exact ⟨_, 0, _, [], rfl, rfl, Own.empty _ _ _ _ _, fun x h => (nomatch h), List.Pairwise.nil, rfl, X0⟩
/-- row.Sum of any rows -/
theorem sum_any (A : Option Addr) (c n : Nat) (L : List Ct) (w : World) (hn : n = L.length) (h20 : n ≤ 100000000) (h : Ctin w A c L) (hin : ∀ x ∈ L, InC x) (G : Good w) : Calls Tryz.prog 109 #[.slice A n c] w (SumRes w L) := by
  rcases Nat.eq_zero_or_pos n with h0 | h0
  · subst h0
    have : L = [] := List.eq_nil_of_length_eq_zero hn.symm
    subst this
    exact sum_none A c w
  · by_cases hb : ∀ x ∈ L, checkR x.l = 0
    · exact sum_plain A c n L w h0 hn h20 h hin hb G
    · refine sum_other A c n L w h0 hn h20 h hin ?_ G
      obtain ⟨x, hx⟩ := Classical.not_forall.1 hb
      obtain ⟨h1, h2⟩ := Classical.not_imp.1 hx
      exact ⟨x, h1, h2⟩
end Go.Proofs.YtdgbkpoickbidaaGreatDoor
namespace Go.Proofs.YtdgbkpoickbidaaGreatDoor
open Go.RowKit

theorem grow3 (w : World) (o1 o2 o3 : Obj) : (((w.alloc o1).alloc o2).alloc o3).drew = Go.Sort.grow (w.drewN 1) #[o1, o2, o3] := by
  rw [Go.Sort.alloc_eq_grow, Go.Sort.alloc_eq_grow, Go.Sort.alloc_eq_grow, Go.Sort.grow_grow, Go.Sort.grow_grow]
  rfl
set_option maxRecDepth 100000 in
set_option maxHeartbeats 600000 in
theorem or_eq (g : Nat) (t : TypeId) (x y z : Int) (w : World) (hb : Bk w g t #[.int .i64 x, .int .i64 y, .int .i64 z]) :
    Calls Tryz.prog 182 #[.slice (some ⟨g, 0, none⟩) 3 3] w fun e w' => e = .returned (.int .i64 (orT x y z)) ∧ w = w' := by
  have hx : w.cell? ⟨g, 0, none⟩ = some (.int .i64 x) := hb.cell 0
  have hy : w.cell? ⟨g, 1, none⟩ = some (.int .i64 y) := hb.cell 1
  have hz : w.cell? ⟨g, 2, none⟩ = some (.int .i64 z) := hb.cell 2
  obtain ⟨r, hr⟩ : ∃ r, r = orT x y z := ⟨_, rfl⟩
  rw [← hr]
  have HR := Lib.hid hr
  clear hr
  go_enter Tryz.func182, Tryz.ntmps182
  go_wp2
  go_loop [8] (fun v => ∃ k : Nat, k ≤ 3 ∧ v = .int .i64 k ∧ (0 < k → x = 0) ∧ (1 < k → y = 0) ∧ (2 < k → z = 0)) (fun v => 3 - (intOf v).toNat)
  case atStart => exact ⟨0, by omega, rfl, by omega, by omega, by omega⟩
  case round =>
    obtain ⟨k, hk, rfl, k0, k1, k2⟩ := hrel
    have K0 := Lib.hid k0
    have K1 := Lib.hid k1
    have K2 := Lib.hid k2
    clear k0 k1 k2
    match k, hk with
    | 0, _ =>
      by_cases q : x = 0
      · have q' : (x != 0) = false := by simpa using q
        have Q := Lib.hid q
        clear q
        go_wp2
        go_round
        case rel => exact ⟨1, by omega, rfl, fun _ => Q.out, by omega, by omega⟩
        case measure => simp [intOf]
      · have q' : (x != 0) = true := by simpa using q
        go_wp2
        go_ret
        exact ⟨ret_int (by rw [HR.out]; simp [orT, q]), rfl⟩
    | 1, _ =>
      by_cases q : y = 0
      · have q' : (y != 0) = false := by simpa using q
        have Q := Lib.hid q
        clear q
        go_wp2
        go_round
        case rel => exact ⟨2, by omega, rfl, fun _ => K0.out (by omega), fun _ => Q.out, by omega⟩
        case measure => simp [intOf]
      · have q' : (y != 0) = true := by simpa using q
        go_wp2
        go_ret
        exact ⟨ret_int (by rw [HR.out]; simp [orT, q, K0.out (by omega)]), rfl⟩
    | 2, _ =>
      by_cases q : z = 0
      · have q' : (z != 0) = false := by simpa using q
        have Q := Lib.hid q
        clear q
        go_wp2
        go_round
        case rel => exact ⟨3, by omega, rfl, fun _ => K0.out (by omega), fun _ => K1.out (by omega), fun _ => Q.out⟩
        case measure => simp [intOf]
      · have q' : (z != 0) = true := by simpa using q
        go_wp2
        go_ret
        exact ⟨ret_int (by rw [HR.out]; simp [orT, K1.out (by omega), K0.out (by omega)]), rfl⟩
    | 3, _ =>
      go_wp2
      go_ret
      exact ⟨ret_int (by rw [HR.out]; simp [orT, K1.out (by omega), K0.out (by omega), K2.out (by omega)]), rfl⟩
    | k + 4, hk => omega

set_option maxRecDepth 100000 in
set_option maxHeartbeats 800000 in
theorem cmp_grow (e1 e2 : Int) (A1 A2 : Option Addr) (n1 n2 c1 c2 : Nat) (l1 l2 : List Int) (w : World) (h1 : Sl w 1 A1 n1 c1 (wds l1)) (h2 : Sl w 1 A2 n2 c2 (wds l2)) :
    Calls Tryz.prog 146 #[.agg #[.int .u64 e1, .slice A1 n1 c1], .agg #[.int .u64 e2, .slice A2 n2 c2]] w fun e w' => e = .returned (.int .i64 (cmpTT e1 l1 e2 l2)) ∧ ∃ q os, w' = Go.Sort.grow (w.drewN q) os := by
  have hR : cmpTT e1 l1 e2 l2 = orT (cmpT n1 n2) (cmpT e1 e2) (lexT l1 l2) := by unfold cmpTT; rw [h1.wlen, h2.wlen]
  rw [hR]
  clear hR
  go_enter Tryz.func146, Tryz.ntmps146
  go_upto_region 1 with fail
  obtain ⟨w0, hw0⟩ : ∃ w0, w0 = (w.alloc (Obj.cells #[Value.int IntKind.u64 e1, Value.slice A1 n1 c1] 26)).alloc (Obj.cells #[Value.int IntKind.u64 e2, Value.slice A2 n2 c2] 26) := ⟨_, rfl⟩
  have x0 : Ext w w0 := hw0 ▸ ((Ext.refl w).alloc _).alloc _
  have a0 : Bk w0 w.heap.size 26 #[Value.int IntKind.u64 e1, Value.slice A1 n1 c1] := by subst hw0; exact (Bk.new _ _ _).alloc _
  have b0 : Bk w0 (w.heap.size + 1) 26 #[Value.int IntKind.u64 e2, Value.slice A2 n2 c2] := by subst hw0; exact Bk.at (by simp)
  rw [← hw0]
  have HW0 := Lib.hid hw0
  clear hw0
  have X : Ext w0 w0.drew := (Ext.refl w0).drew
  have q1 : ∀ y : Xt w0.drew, y.W.cell? ⟨w.heap.size, 0, none⟩ = some (.int .u64 e1) := fun y => (a0.ext (X.trans y.x)).cell 0
  have q2 : ∀ y : Xt w0.drew, y.W.cell? ⟨w.heap.size, 1, none⟩ = some (.slice A1 n1 c1) := fun y => (a0.ext (X.trans y.x)).cell 1
  have q3 : ∀ y : Xt w0.drew, y.W.cell? ⟨w.heap.size + 1, 0, none⟩ = some (.int .u64 e2) := fun y => (b0.ext (X.trans y.x)).cell 0
  have q4 : ∀ y : Xt w0.drew, y.W.cell? ⟨w.heap.size + 1, 1, none⟩ = some (.slice A2 n2 c2) := fun y => (b0.ext (X.trans y.x)).cell 1
  refine wp_region_ord [0,1,3,0,8,24,63,0,128,0,512,2047,0,4096,0,16384,65535,131071,262143,524287] (.flo [0,1,2,3,4,5,7,8,9,10,12,13,14,15] (.ext 6 (.ext 11 (.one 16 (.one 17 (.one 18 (.flo [19] (.fin)))))))) (by kernel_rfl) (by kernel_rfl) (by intro _ _ d _ _ h; cases d <;> exact h) ?_
  (refine ord_flo (pick_cons rfl (pick_cons rfl (pick_cons rfl (pick_cons rfl (pick_cons rfl (pick_cons rfl (pick_cons rfl (pick_cons rfl (pick_cons rfl (pick_cons rfl (pick_cons rfl (pick_cons rfl (pick_cons rfl (pick_cons rfl pick_nil)))))))))))))) ?_; (repeat (go_big_quiet_step (fail))); refine wpQuiet_nil ?_; show ordWalk _ _ _ _ _ _ _)
  refine ord_ext (pick_cons rfl pick_nil) ?_; intro K_ hK_
  go_wp2_with (refine (compare_int _ _ _).mono ?_; rintro e w1 ⟨rfl, rfl⟩)
  refine ordNext.mk (Ext.refl _) ?_
  refine ord_ext (pick_cons rfl pick_nil) ?_; intro K_ hK_
  go_wp2_with (refine (compare_u64 _ _ _).mono ?_; rintro e w1 ⟨rfl, rfl⟩)
  refine ordNext.mk (Ext.refl _) ?_
  refine ord_one (pick_cons rfl pick_nil) ?_; intro K_ hK_
  go_wp2_with (refine (lex_any _ _ _ _ _ _ _ _ _ (h1.ext (x0.trans X)) (h2.ext (x0.trans X))).mono ?_; rintro e w1 ⟨rfl, rfl⟩)
  refine ord_one (pick_cons rfl pick_nil) ?_; intro K_ hK_
  go_wp2
  refine ord_one (pick_cons rfl pick_nil) ?_; intro K_ hK_
  go_wp2_with (refine (or_eq _ _ _ _ _ _ (by exact (Bk.at (by simp)).drew)).mono ?_; rintro e w1 ⟨rfl, rfl⟩)
  (refine ord_flo (pick_cons rfl pick_nil) ?_; (repeat (go_big_quiet_step (fail))); refine wpQuiet_nil ?_; show ordWalk _ _ _ _ _ _ _)
  refine ord_fin ?_
  go_wp2
  go_ret
  rw [HW0.out]
  exact ⟨rfl, 1, _, grow3 w _ _ _⟩
end Go.Proofs.YtdgbkpoickbidaaGreatDoor
namespace Go.Proofs.YtdgbkpoickbidaaGreatDoor
open Go.RowKit

set_option maxRecDepth 100000 in
set_option maxHeartbeats 600000 in
theorem or2_any (g : Nat) (t : TypeId) (x y : Int) (w : World) (hb : Bk w g t #[.int .i64 x, .int .i64 y]) :
    Calls Tryz.prog 182 #[.slice (some ⟨g, 0, none⟩) 2 2] w fun e w' => e = .returned (.int .i64 (if x = 0 then y else x)) ∧ w = w' := by
  have hx : w.cell? ⟨g, 0, none⟩ = some (.int .i64 x) := hb.cell 0
  have hy : w.cell? ⟨g, 1, none⟩ = some (.int .i64 y) := hb.cell 1
  obtain ⟨r, hr⟩ : ∃ r, r = (if x = 0 then y else x) := ⟨_, rfl⟩
  rw [← hr]
  have HR := Lib.hid hr
  clear hr
  go_enter Tryz.func182, Tryz.ntmps182
  go_wp2
  go_loop [8] (fun v => ∃ k : Nat, k ≤ 2 ∧ v = .int .i64 k ∧ (0 < k → x = 0) ∧ (1 < k → y = 0)) (fun v => 2 - (intOf v).toNat)
  case atStart => exact ⟨0, by omega, rfl, by omega, by omega⟩
  case round =>
    obtain ⟨k, hk, rfl, k0, k1⟩ := hrel
    have K0 := Lib.hid k0
    have K1 := Lib.hid k1
    clear k0 k1
    match k, hk with
    | 0, _ =>
      by_cases q : x = 0
      · have q' : (x != 0) = false := by simpa using q
        have Q := Lib.hid q
        clear q
        go_wp2
        go_round
        case rel => exact ⟨1, by omega, rfl, fun _ => Q.out, by omega⟩
        case measure => simp [intOf]
      · have q' : (x != 0) = true := by simpa using q
        go_wp2
        go_ret
        exact ⟨ret_int (by rw [HR.out]; simp [q]), rfl⟩
    | 1, _ =>
      by_cases q : y = 0
      · have q' : (y != 0) = false := by simpa using q
        have Q := Lib.hid q
        clear q
        go_wp2
        go_round
        case rel => exact ⟨2, by omega, rfl, fun _ => K0.out (by omega), fun _ => Q.out⟩
        case measure => simp [intOf]
      · have q' : (y != 0) = true := by simpa using q
        go_wp2
        go_ret
        exact ⟨ret_int (by rw [HR.out]; simp [K0.out (by omega)]), rfl⟩
    | 2, _ =>
      go_wp2
      go_ret
      exact ⟨ret_int (by rw [HR.out]; simp [K0.out (by omega), K1.out (by omega)]), rfl⟩
    | k + 3, hk => omega
set_option maxRecDepth 100000 in
set_option maxHeartbeats 1600000 in
theorem order_any (x y : Ud) (nx ny tx ty : Nat) (v : Int) (w : World) (hv : Hid (UdS.cmpC x y = v)) (hnx : Hid (nx = x.l.length)) (hny : Hid (ny = y.l.length)) (htx : Hid (tx = x.t.l.length)) (hty : Hid (ty = y.t.l.length)) (hx : Hid (UdR w x)) (hy : Hid (UdR w y)) :
    Calls Tryz.prog 103 #[.agg #[.slice x.A nx x.c, .int .u64 x.t.e, .slice x.t.A tx x.t.c, .int .i64 x.d], .agg #[.slice y.A ny y.c, .int .u64 y.t.e, .slice y.t.A ty y.t.c, .int .i64 y.d]] w fun e w' => e = .returned (.int .i64 v) ∧ Ext w w' := by
  obtain ⟨r, hr⟩ : ∃ r, cmpR x.l y.l = r := ⟨_, rfl⟩
  obtain ⟨t, ht⟩ : ∃ t, cmpTT x.t.e x.t.l y.t.e y.t.l = t := ⟨_, rfl⟩
  have hvv : (if r = 0 then t else r) = v := by rw [← hv.out, ← hr, ← ht]; rfl
  have HV := Lib.hid hvv
  have HR := Lib.hid hr
  have HT := Lib.hid ht
  have X1 : Hid (Sl w 1 x.t.A tx x.t.c (wds x.t.l)) := Lib.hid (by rw [htx.out]; exact hx.out.t)
  have Y1 : Hid (Sl w 1 y.t.A ty y.t.c (wds y.t.l)) := Lib.hid (by rw [hty.out]; exact hy.out.t)
  clear hvv hr ht
  go_enter Tryz.func103, Tryz.ntmps103
  go_upto_region 1 with fail
  obtain ⟨w0, hw0⟩ : ∃ w0, w0 = (w.alloc (Obj.cells #[.slice x.A nx x.c, .int .u64 x.t.e, .slice x.t.A tx x.t.c, .int .i64 x.d] 95)).alloc (Obj.cells #[.slice y.A ny y.c, .int .u64 y.t.e, .slice y.t.A ty y.t.c, .int .i64 y.d] 95) := ⟨_, rfl⟩
  have x0 : Ext w w0 := hw0 ▸ ((Ext.refl w).alloc _).alloc _
  have a0 : Bk w0 w.heap.size 95 #[.slice x.A nx x.c, .int .u64 x.t.e, .slice x.t.A tx x.t.c, .int .i64 x.d] := by subst hw0; exact (Bk.new _ _ _).alloc _
  have b0 : Bk w0 (w.heap.size + 1) 95 #[.slice y.A ny y.c, .int .u64 y.t.e, .slice y.t.A ty y.t.c, .int .i64 y.d] := by subst hw0; exact Bk.at (by simp)
  rw [← hw0]
  have HW0 := Lib.hid hw0
  clear hw0
  have X : Ext w0 w0.drew := (Ext.refl w0).drew
  have q1 : ∀ y : Xt w0.drew, y.W.cell? ⟨w.heap.size, 0, none⟩ = some (.slice x.A nx x.c) := fun y => (a0.ext (X.trans y.x)).cell 0
  have q2 : ∀ y : Xt w0.drew, y.W.cell? ⟨w.heap.size, 1, none⟩ = some (.int .u64 x.t.e) := fun y => (a0.ext (X.trans y.x)).cell 1
  have q3 : ∀ y : Xt w0.drew, y.W.cell? ⟨w.heap.size, 2, none⟩ = some (.slice x.t.A tx x.t.c) := fun y => (a0.ext (X.trans y.x)).cell 2
  have q4 : ∀ z : Xt w0.drew, z.W.cell? ⟨w.heap.size + 1, 0, none⟩ = some (.slice y.A ny y.c) := fun z => (b0.ext (X.trans z.x)).cell 0
  have q5 : ∀ z : Xt w0.drew, z.W.cell? ⟨w.heap.size + 1, 1, none⟩ = some (.int .u64 y.t.e) := fun z => (b0.ext (X.trans z.x)).cell 1
  have q6 : ∀ z : Xt w0.drew, z.W.cell? ⟨w.heap.size + 1, 2, none⟩ = some (.slice y.t.A ty y.t.c) := fun z => (b0.ext (X.trans z.x)).cell 2
  refine wp_region_ord [0,1,0,4,15,0,32,0,128,511,1023,2047,4095] (.flo [0,1,2,3,5,6,7,8] (.ext 4 (.one 9 (.one 10 (.one 11 (.flo [12] (.fin))))))) (by kernel_rfl) (by kernel_rfl) (by intro _ _ d _ _ h; cases d <;> exact h) ?_
  (refine ord_flo (pick_cons rfl (pick_cons rfl (pick_cons rfl (pick_cons rfl (pick_cons rfl (pick_cons rfl (pick_cons rfl (pick_cons rfl pick_nil)))))))) ?_; (repeat (go_big_quiet_step (fail))); refine wpQuiet_nil ?_; show ordWalk _ _ _ _ _ _ _)
  refine ord_ext (pick_cons rfl pick_nil) ?_; intro K_ hK_
  go_wp2_with (go_at_call 164; refine (rowCmp_any x.A y.A x.c y.c nx ny x.l y.l _ hnx.out hny.out (hx.out.r.ext (x0.trans X)) (hy.out.r.ext (x0.trans X))).mono ?_; rintro e w1 ⟨rfl, x1⟩; rw [HR.out])
  refine ordNext.mk x1 ?_
  refine ord_one (pick_cons rfl pick_nil) ?_; intro K_ hK_
  go_wp2_with (go_at_call 146; refine (cmp_any x.t.e y.t.e x.t.A y.t.A tx ty x.t.c y.t.c x.t.l y.t.l _ (X1.out.ext ((x0.trans X).trans x1)) (Y1.out.ext ((x0.trans X).trans x1))).mono ?_; rintro e w2 ⟨rfl, x2⟩; rw [HT.out])
  refine ord_one (pick_cons rfl pick_nil) ?_; intro K_ hK_
  go_wp2
  refine ord_one (pick_cons rfl pick_nil) ?_; intro K_ hK_
  go_wp2_with (go_at_call 182; refine (or2_any _ _ _ _ _ (Bk.at (by simp))).mono ?_; rintro e w3 ⟨rfl, rfl⟩; rw [HV.out])
  (refine ord_flo (pick_cons rfl pick_nil) ?_; (repeat (go_big_quiet_step (fail))); refine wpQuiet_nil ?_; show ordWalk _ _ _ _ _ _ _)
  refine ord_fin ?_
  go_wp2
  go_ret
  exact ⟨rfl, (((x0.trans X).trans x1).trans x2).alloc _⟩
end Go.Proofs.YtdgbkpoickbidaaGreatDoor
namespace Go.Proofs.YtdgbkpoickbidaaGreatDoor.UdS
open Go.RowKit

abbrev V := UK × Int
def cmpV (x y : V) : Int := kcmp x.1 y.1
theorem cmpV_tot : TotPre cmpV := ⟨fun x y => kcmp_tot.neg x.1 y.1, fun x y z => kcmp_tot.trans x.1 y.1 z.1⟩
def InN (x : V) : Prop := -9223372036854775808 ≤ x.2 ∧ x.2 ≤ 9223372036854775807
def cnt (l : List V) : Int := w64 (l.foldr (fun x a => x.2 + a) 0)
theorem cnt_snoc (l : List V) (x : V) : cnt (l ++ [x]) = w64 (cnt l + x.2) := by
  unfold cnt
  rw [w64_add]
  congr 1
  induction l with
  | nil => simp
  | cons y l ih => simp only [List.cons_append, List.foldr_cons]; rw [ih]; omega
theorem cnt_one {x : V} (h : InN x) : cnt [x] = x.2 := by
  show w64 (x.2 + 0) = x.2
  rw [Int.add_zero]
  exact w64_id h
def sumClass : List V → List V
  | [] => []
  | x :: xs => [(x.1, cnt (x :: xs))]
theorem sumClass_one {x : V} (h : InN x) : sumClass [x] = [x] := by
  show [(x.1, cnt [x])] = [x]
  rw [cnt_one h]
theorem sumClass_nil {l : List V} (h : sumClass l = []) : l = [] := by
  cases l with
  | nil => rfl
  | cons x l => exact nomatch h
theorem sumClass_snoc {l : List V} {y x : V} (h : [y] = sumClass l) : sumClass (l ++ [x]) = [(y.1, w64 (y.2 + x.2))] := by
  cases l with
  | nil => exact nomatch h
  | cons z l =>
    injection h with h _
    subst h
    show [(z.1, cnt ((z :: l) ++ [x]))] = _
    rw [cnt_snoc]
theorem sumClass_twice (l : List V) : sumClass (sumClass l) = sumClass l := by
  cases l with
  | nil => rfl
  | cons x l =>
    show [(x.1, w64 (cnt (x :: l) + 0))] = [(x.1, cnt (x :: l))]
    rw [Int.add_zero, show w64 (cnt (x :: l)) = cnt (x :: l) from w64_id (w64_in _)]
theorem sumClass_mem {l : List V} {y : V} (h : y ∈ sumClass l) : sumClass l = [y] := by
  cases l with
  | nil => cases h
  | cons x l =>
    have : y = (x.1, cnt (x :: l)) := by simpa [sumClass] using h
    rw [this]
    rfl
/-- R is D, same rows put together, sorted -/
structure Summed (D R : List V) : Prop where
  sorted : R.Pairwise fun x y => cmpV x y < 0
  same : ∀ c, alike cmpV c R = sumClass (alike cmpV c D)
theorem Summed.unique {D R S : List V} (h : Summed D R) (k : Summed D S) : R = S :=
  Stable.unique cmpV_tot (l := R) ⟨h.sorted.imp fun q => Int.le_of_lt q, fun _ => rfl⟩ ⟨k.sorted.imp fun q => Int.le_of_lt q, fun c => by rw [h.same, k.same]⟩
theorem alike_one (c x : V) : alike cmpV c [x] = if cmpV c x = 0 then [x] else [] := by
  unfold alike
  by_cases h : cmpV c x = 0
  · rw [if_pos h, List.filter_cons_of_pos (by simpa using h)]
    rfl
  · rw [if_neg h, List.filter_cons_of_neg (by simpa using h)]
    rfl
theorem alike_none {c : V} {l : List V} (h : ∀ y ∈ l, ¬ cmpV c y = 0) : alike cmpV c l = [] := List.filter_eq_nil_iff.2 fun y hy q => h y hy (by simpa using q)
theorem cmpV_fst (x : V) (a b : Int) (l : UK) : cmpV x (l, a) = cmpV x (l, b) := rfl
/-! ### rows that are alike, side by side -/
def mergeStep (M : List V) (x : V) : List V := match M.getLast? with
  | some y => if cmpV y x = 0 then M.dropLast ++ [(y.1, w64 (y.2 + x.2))] else M ++ [x]
  | none => [x]
def mergeV (S : List V) : List V := S.foldl mergeStep []
theorem mergeStep_nil (x : V) : mergeStep [] x = [x] := rfl
theorem mergeStep_snoc (M : List V) (y x : V) : mergeStep (M ++ [y]) x = if cmpV y x = 0 then M ++ [(y.1, w64 (y.2 + x.2))] else M ++ [y] ++ [x] := by
  unfold mergeStep
  rw [List.getLast?_append, List.getLast?_singleton]
  simp
theorem mergeV_snoc (S : List V) (x : V) : mergeV (S ++ [x]) = mergeStep (mergeV S) x := by
  unfold mergeV
  rw [List.foldl_append]
  rfl
theorem merge_sum (S : List V) : S.Pairwise (fun x y => cmpV x y ≤ 0) → (∀ x ∈ S, InN x) → Summed S (mergeV S) ∧ ((S = [] ∧ mergeV S = []) ∨ ∃ S0 s M0 y, S = S0 ++ [s] ∧ mergeV S = M0 ++ [y] ∧ cmpV y s = 0) := by
  refine snoc_ind (p := fun S => S.Pairwise (fun x y => cmpV x y ≤ 0) → (∀ x ∈ S, InN x) → Summed S (mergeV S) ∧ ((S = [] ∧ mergeV S = []) ∨ ∃ S0 s M0 y, S = S0 ++ [s] ∧ mergeV S = M0 ++ [y] ∧ cmpV y s = 0)) ?_ ?_ S
  · exact fun _ _ => ⟨⟨List.Pairwise.nil, fun _ => rfl⟩, .inl ⟨rfl, rfl⟩⟩
  · intro S x ih hs hin
    have hs' := List.pairwise_append.1 hs
    have hx := hin x (by simp)
    obtain ⟨⟨i1, i2⟩, i3⟩ := ih hs'.1 (fun y hy => hin y (List.mem_append_left _ hy))
    rw [mergeV_snoc]
    rcases i3 with ⟨rfl, i4⟩ | ⟨S0, s, M0, y, e1, e2, e3⟩
    · rw [i4, mergeStep_nil]
      refine ⟨⟨List.pairwise_singleton _ _, fun c => ?_⟩, .inr ⟨[], x, [], x, rfl, rfl, cmpV_tot.refl x⟩⟩
      rw [List.nil_append, alike_one]
      split
      · rw [sumClass_one hx]
      · rfl
    · rw [e2] at i1 i2 ⊢
      rw [mergeStep_snoc]
      have p1 := List.pairwise_append.1 i1
      have hlast : ∀ m ∈ M0, cmpV m y < 0 := fun m hm => p1.2.2 m hm y (by simp)
      have hsx : cmpV s x ≤ 0 := hs'.2.2 s (by rw [e1]; simp) x (by simp)
      have hyx : cmpV y x ≤ 0 := cmpV_tot.trans y s x (by omega) hsx
      by_cases h0 : cmpV y x = 0
      · rw [if_pos h0]
        refine ⟨⟨List.pairwise_append.2 ⟨p1.1, List.pairwise_singleton _ _, fun m hm z hz => ?_⟩, fun c => ?_⟩, .inr ⟨S, x, M0, _, rfl, rfl, h0⟩⟩
        · rw [List.mem_singleton.1 hz]; exact hlast m hm
        · have q := i2 c
          rw [alike_append, alike_one] at q
          rw [alike_append, alike_append, alike_one, alike_one]
          by_cases hc : cmpV c y = 0
          · have hcx : cmpV c x = 0 := cmpV_tot.eq_trans hc h0
            have hM : alike cmpV c M0 = [] := alike_none fun m hm e => by
              have := hlast m hm
              have := (cmpV_tot.eq_left (z := y) (show cmpV m c = 0 by rw [cmpV_tot.neg, e]; rfl)).2 hc
              omega
            rw [if_pos hc, hM, List.nil_append] at q
            rw [if_pos (show cmpV c (y.1, w64 (y.2 + x.2)) = 0 from hc), if_pos hcx, hM, List.nil_append]
            exact (sumClass_snoc q).symm
          · have hcx : ¬ cmpV c x = 0 := fun e => hc (cmpV_tot.eq_trans e (by rw [cmpV_tot.neg, h0]; rfl))
            rw [if_neg hc] at q
            rw [if_neg (show ¬ cmpV c (y.1, w64 (y.2 + x.2)) = 0 from hc), if_neg hcx, List.append_nil (alike cmpV c S)]
            exact q
      · rw [if_neg h0]
        have hlt : ∀ m ∈ M0 ++ [y], cmpV m x < 0 := fun m hm => by
          rcases List.mem_append.1 hm with h | h
          · exact cmpV_tot.lt_of_lt_le (hlast m h) hyx
          · rw [List.mem_singleton.1 h]; omega
        refine ⟨⟨List.pairwise_append.2 ⟨i1, List.pairwise_singleton _ _, fun m hm z hz => ?_⟩, fun c => ?_⟩, .inr ⟨S, x, M0 ++ [y], x, rfl, rfl, cmpV_tot.refl x⟩⟩
        · rw [List.mem_singleton.1 hz]; exact hlt m hm
        · have q := i2 c
          have e4 : alike cmpV c (M0 ++ [y] ++ [x]) = alike cmpV c (M0 ++ [y]) ++ alike cmpV c [x] := alike_append _ _ _
          have e5 : alike cmpV c (S ++ [x]) = alike cmpV c S ++ alike cmpV c [x] := alike_append _ _ _
          rw [e4, e5, q, alike_one]
          by_cases hc : cmpV c x = 0
          · have hM : alike cmpV c (M0 ++ [y]) = [] := alike_none fun m hm e => by
              have := hlt m hm
              have := (cmpV_tot.eq_left (z := x) (show cmpV m c = 0 by rw [cmpV_tot.neg, e]; rfl)).2 hc
              omega
            rw [hM] at q
            rw [sumClass_nil q.symm, if_pos hc]
            show [] ++ [x] = sumClass ([] ++ [x])
            rw [List.nil_append, sumClass_one hx]
          · rw [if_neg hc, List.append_nil, List.append_nil]
theorem Summed.of_stable {D S : List V} (h : Stable cmpV D S) (hin : ∀ x ∈ D, InN x) : Summed D (mergeV S) := by
  have k := (merge_sum S h.sorted (fun x hx => hin x ((h.mem cmpV_tot x).1 hx))).1
  exact ⟨k.sorted, fun c => by rw [k.same, h.same]⟩
/-- parts that have been put together ahead -/
theorem Summed.of_dedup {L D R : List V} (h : ∀ c, alike cmpV c D = sumClass (alike cmpV c L)) (k : Summed D R) : Summed L R := ⟨k.sorted, fun c => by rw [k.same, h, sumClass_twice]⟩
/-! ### the document's way: one more row, put into its place -/
def addV : List V → V → List V
  | [], x => [x]
  | y :: R, x => if cmpV y x < 0 then y :: addV R x else if cmpV y x = 0 then (y.1, w64 (y.2 + x.2)) :: R else x :: y :: R
theorem alike_cons (c y : V) (R : List V) : alike cmpV c (y :: R) = (if cmpV c y = 0 then [y] else []) ++ alike cmpV c R := by
  have := alike_append (cmp := cmpV) c [y] R
  rw [alike_one] at this
  exact this
theorem addV_mem (x : V) : ∀ (R : List V) (z : V), (∀ y ∈ R, cmpV z y < 0) → cmpV z x < 0 → ∀ y ∈ addV R x, cmpV z y < 0
  | [], z, _, hx, y, hy => by rw [List.mem_singleton.1 hy]; exact hx
  | a :: R, z, h, hx, y, hy => by
    unfold addV at hy
    split at hy
    · rcases List.mem_cons.1 hy with rfl | q
      · exact h _ (List.mem_cons_self ..)
      · exact addV_mem x R z (fun b hb => h b (List.mem_cons_of_mem _ hb)) hx y q
    · split at hy
      · rcases List.mem_cons.1 hy with rfl | q
        · exact h a (List.mem_cons_self ..)
        · exact h y (List.mem_cons_of_mem _ q)
      · rcases List.mem_cons.1 hy with rfl | q
        · exact hx
        · exact h y q
theorem addV_same (x : V) (hx : InN x) (c : V) : ∀ (R : List V) (l : List V), R.Pairwise (fun x y => cmpV x y < 0) → alike cmpV c R = sumClass l → alike cmpV c (addV R x) = sumClass (l ++ if cmpV c x = 0 then [x] else [])
  | [], l, _, h => by
    have := sumClass_nil (show sumClass l = [] from h.symm)
    subst this
    show alike cmpV c [x] = _
    rw [alike_one]
    split
    · rw [List.nil_append, sumClass_one hx]
    · rfl
  | y :: R, l, hp, h => by
    have hp' := List.pairwise_cons.1 hp
    unfold addV
    by_cases h1 : cmpV y x < 0
    · rw [if_pos h1, alike_cons]
      rw [alike_cons] at h
      by_cases hc : cmpV c y = 0
      · have hcx : ¬ cmpV c x = 0 := fun e => by have := (cmpV_tot.eq_left (z := x) hc).1 e; omega
        rw [if_pos hc] at h ⊢
        have hR : alike cmpV c R = [] := alike_none fun z hz e => by
          have := hp'.1 z hz
          have := (cmpV_tot.eq_left (z := z) hc).1 e
          omega
        rw [hR] at h
        have := addV_same x hx c R [] hp'.2 hR
        rw [this, if_neg hcx, List.append_nil, List.append_nil]
        exact h
      · rw [if_neg hc] at h ⊢
        exact addV_same x hx c R l hp'.2 h
    · rw [if_neg h1]
      by_cases h2 : cmpV y x = 0
      · rw [if_pos h2, alike_cons]
        rw [alike_cons] at h
        by_cases hc : cmpV c y = 0
        · have hcx : cmpV c x = 0 := cmpV_tot.eq_trans hc h2
          have hR : alike cmpV c R = [] := alike_none fun z hz e => by
            have := hp'.1 z hz
            have := (cmpV_tot.eq_left (z := z) hc).1 e
            omega
          rw [if_pos hc, hR] at h
          rw [if_pos (show cmpV c (y.1, w64 (y.2 + x.2)) = 0 from hc), hR, if_pos hcx]
          exact (sumClass_snoc h).symm
        · have hcx : ¬ cmpV c x = 0 := fun e => hc (cmpV_tot.eq_trans e (by rw [cmpV_tot.neg, h2]; rfl))
          rw [if_neg hc] at h
          rw [if_neg (show ¬ cmpV c (y.1, w64 (y.2 + x.2)) = 0 from hc), if_neg hcx, List.append_nil]
          exact h
      · rw [if_neg h2, alike_cons]
        by_cases hc : cmpV c x = 0
        · have hyx : cmpV x y < 0 := by rw [cmpV_tot.neg]; omega
          have hR : alike cmpV c (y :: R) = [] := alike_none fun z hz e => by
            have hxz : cmpV x z < 0 := by
              rcases List.mem_cons.1 hz with rfl | q
              · exact hyx
              · exact cmpV_tot.lt_of_lt_le hyx (Int.le_of_lt (hp'.1 z q))
            have := (cmpV_tot.eq_left (z := z) hc).1 e
            omega
          rw [hR] at h ⊢
          rw [if_pos hc, sumClass_nil h.symm]
          show [x] ++ [] = sumClass ([] ++ [x])
          rw [List.nil_append, sumClass_one hx]
          rfl
        · rw [if_neg hc, List.nil_append, List.append_nil]
          exact h
theorem addV_sorted (x : V) : ∀ R : List V, R.Pairwise (fun x y => cmpV x y < 0) → (addV R x).Pairwise (fun x y => cmpV x y < 0)
  | [], _ => List.pairwise_singleton _ _
  | y :: R, h => by
    have h' := List.pairwise_cons.1 h
    unfold addV
    split
    · rename_i h1
      exact List.pairwise_cons.2 ⟨addV_mem x R y h'.1 h1, addV_sorted x R h'.2⟩
    · split
      · exact List.pairwise_cons.2 ⟨fun z hz => h'.1 z hz, h'.2⟩
      · rename_i h1 h2
        have hyx : cmpV x y < 0 := by rw [cmpV_tot.neg]; omega
        exact List.pairwise_cons.2 ⟨fun z hz => (List.mem_cons.1 hz).elim (fun e => e ▸ hyx) (fun q => cmpV_tot.lt_of_lt_le hyx (Int.le_of_lt (h'.1 z q))), h⟩
theorem Summed.add {D R : List V} {x : V} (h : Summed D R) (hx : InN x) : Summed (D ++ [x]) (addV R x) := ⟨addV_sorted x R h.sorted, fun c => by rw [addV_same x hx c R _ h.sorted (h.same c), alike_append, alike_one]⟩
def sumAll (L : List V) : List V := L.foldl addV []
theorem Summed.all (L : List V) : (∀ x ∈ L, InN x) → Summed L (sumAll L) := by
  refine snoc_ind (p := fun L => (∀ x ∈ L, InN x) → Summed L (sumAll L)) (fun _ => ⟨List.Pairwise.nil, fun _ => rfl⟩) (fun L x ih h => ?_) L
  unfold sumAll
  rw [List.foldl_append]
  exact (ih (fun y hy => h y (List.mem_append_left _ hy))).add (h x (by simp))
/-- what Sum answers -/
def sumV (L : List V) : List V := (sumAll L).filter fun x => !(x.2 == 0)
/-! ### one row more in a list of different rows -/
theorem dedup_new {L O : List V} {x : V} (h : ∀ c, alike cmpV c O = sumClass (alike cmpV c L)) (hx : InN x) (hn : ∀ y ∈ O, ¬ cmpV y x = 0) (c : V) : alike cmpV c (O ++ [x]) = sumClass (alike cmpV c (L ++ [x])) := by
  rw [alike_append, alike_append, h, alike_one]
  by_cases hc : cmpV c x = 0
  · have hO : alike cmpV c O = [] := alike_none fun y hy e => hn y hy (cmpV_tot.eq_trans (by rw [cmpV_tot.neg, e]; rfl) hc)
    have := h c
    rw [hO] at this
    rw [sumClass_nil this.symm, if_pos hc]
    show [] ++ [x] = sumClass ([] ++ [x])
    rw [List.nil_append, sumClass_one hx]
  · rw [if_neg hc, List.append_nil, List.append_nil]
theorem dedup_old {L P Q : List V} {y x : V} (h : ∀ c, alike cmpV c (P ++ y :: Q) = sumClass (alike cmpV c L)) (hy : cmpV y x = 0) (c : V) : alike cmpV c (P ++ (y.1, w64 (y.2 + x.2)) :: Q) = sumClass (alike cmpV c (L ++ [x])) := by
  have q := h c
  rw [alike_append, alike_cons] at q
  rw [alike_append, alike_cons, alike_append, alike_one]
  by_cases hc : cmpV c y = 0
  · have hcx : cmpV c x = 0 := cmpV_tot.eq_trans hc hy
    rw [if_pos hc] at q
    have hm := sumClass_mem (l := alike cmpV c L) (y := y) (by rw [← q]; simp)
    have hl := congrArg List.length (q.trans hm)
    simp only [List.length_append, List.length_cons, List.length_nil] at hl
    have hP : alike cmpV c P = [] := List.eq_nil_of_length_eq_zero (by omega)
    have hQ : alike cmpV c Q = [] := List.eq_nil_of_length_eq_zero (by omega)
    rw [if_pos (show cmpV c (y.1, w64 (y.2 + x.2)) = 0 from hc), if_pos hcx, hP, hQ]
    exact (sumClass_snoc hm.symm).symm
  · have hcx : ¬ cmpV c x = 0 := fun e => hc (cmpV_tot.eq_trans e (by rw [cmpV_tot.neg, hy]; rfl))
    rw [if_neg hc] at q
    rw [if_neg (show ¬ cmpV c (y.1, w64 (y.2 + x.2)) = 0 from hc), if_neg hcx, List.append_nil (alike cmpV c L)]
    exact q
end Go.Proofs.YtdgbkpoickbidaaGreatDoor.UdS
namespace Go.Proofs.YtdgbkpoickbidaaGreatDoor
open Go.RowKit

/-- the rows of the updates that are at or ahead of a time -/
def atV (U : List UV) (t : TV) : List V := (U.filter fun v => tleq v.1.2 t).map fun v => (v.1.1, v.2)
def atU (L : List Ud) (t : TV) : List Ct := (L.filter fun x => tleq x.t.v t).map fun x => ⟨x.A, x.c, x.l, x.d⟩
theorem atU_val (L : List Ud) (t : TV) : (atU L t).map valC = atV (L.map Ud.uv) t := by
  unfold atU atV
  rw [List.map_map, List.filter_map, List.map_map]
  rfl
theorem atU_step {L : List Ud} {i : Nat} {x : Ud} (hi : i < L.length) (hx : L.getD i Ud.zero = x) (t : TV) : atU (L.take (i + 1)) t = atU (L.take i) t ++ if tleq x.t.v t = true then [⟨x.A, x.c, x.l, x.d⟩] else [] := by
  unfold atU
  rw [takeU hi, hx, List.filter_append, List.map_append]
  congr 1
  split
  · rename_i h
    simp [h]
  · rename_i h
    simp [h]
theorem atU_len (L : List Ud) (t : TV) : (atU L t).length ≤ L.length := by
  unfold atU
  rw [List.length_map]
  exact List.length_filter_le _ _
/-- an update as a walk may take it -/
structure InU (x : Ud) : Prop where
  row : InC ⟨x.A, x.c, x.l, x.d⟩
  tu : U32 x.t.l
  tn : x.t.l.length ≤ 100000
  te : 0 ≤ x.t.e ∧ x.t.e ≤ 18446744073709551615
theorem InU.num {x : Ud} (h : InU x) : UdS.InN x.uv := h.row.num
theorem InU.lens {x : Ud} (h : InU x) : x.l.length ≤ 1000000000 ∧ x.t.l.length ≤ 1000000000 := ⟨Nat.le_trans h.row.len (by decide), Nat.le_trans h.tn (by decide)⟩
/-- what At hands back -/
def DAtRes (w : World) (U : List V) (e : Ending) (w' : World) : Prop := ∃ A m c R, e = .returned (.slice A m c) ∧ m = R.length ∧ Own w' w.heap.size 154 2 A m c (ctsC R) ∧
  (∀ x ∈ R, RwO w' x.A x.c x.l ∧ ∀ ad, x.A = some ad → w.heap.size ≤ ad.block ∧ blk A c ≠ some ad.block) ∧ Apart R ∧ R.map valC = U ∧ Ext w w'
theorem SumRes.late {w w0 w' : World} {L : List Ct} {e : Ending} {U : List V} (h : SumRes w0 L e w') (x : Ext w w0) (hv : sumV (L.map valC) = U) : DAtRes w U e w' := by
  obtain ⟨A, m, c, R, e1, e2, o, r, a, v, x2⟩ := h
  exact ⟨A, m, c, R, e1, e2, o.mono x.size, fun y hy => ⟨(r y hy).1, fun ad q => ⟨Nat.le_trans x.size ((r y hy).2 ad q).1, ((r y hy).2 ad q).2⟩⟩, a, by rw [v, hv], x.trans x2⟩
theorem uleq_at {b : Bool} (e1 e2 : Int) (A1 A2 : Option Addr) (n1 n2 c1 c2 : Nat) (l1 l2 : List Int) (w : World) (hb : Hid (leqT e1 l1 e2 l2 = b)) (h1 : Sl w 1 A1 n1 c1 (wds l1)) (h2 : Sl w 1 A2 n2 c2 (wds l2)) :
    Calls Tryz.prog 108 #[.agg #[.int .u64 e1, .slice A1 n1 c1], .agg #[.int .u64 e2, .slice A2 n2 c2]] w fun e w' => e = .returned (.bool b) ∧ Ext w w' := hb.out ▸ leq_any e1 e2 A1 A2 n1 n2 c1 c2 l1 l2 w h1 h2
/-- what has been taken so far -/
structure UAtI (w wr : World) (L : List Ud) (t : TV) (i : Nat) (A : Option Addr) (m c : Nat) : Prop where
  len : m = (atU (L.take i) t).length
  own : Own wr w.heap.size 154 2 A m c (ctsC (atU (L.take i) t))
  ext : Ext w wr
theorem UAtI.skip {w wr w2 : World} {L : List Ud} {t : TV} {i m c : Nat} {A : Option Addr} {x : Ud} (h : UAtI w wr L t i A m c) (hi : i < L.length) (hx : L.getD i Ud.zero = x) (hb : tleq x.t.v t = false) (q : Ext wr w2) : UAtI w w2 L t (i + 1) A m c := by
  have e : atU (L.take (i + 1)) t = atU (L.take i) t := by rw [atU_step hi hx, if_neg (by rw [hb]; decide), List.append_nil]
  exact ⟨by rw [e]; exact h.len, by rw [e]; exact h.own.ext q, h.ext.trans q⟩
theorem UAtI.more {w wr w2 : World} {L : List Ud} {t : TV} {i m c : Nat} {A A2 : Option Addr} {c2 m2 : Nat} {x : Ud} (h : UAtI w wr L t i A m c) (hi : i < L.length) (hx : L.getD i Ud.zero = x) (hb : tleq x.t.v t = true) (hm : m2 = m + 1)
    (o : Own w2 w.heap.size 154 2 A2 m2 c2 (ctsC (atU (L.take i) t) ++ [.slice x.A x.l.length x.c, .int .i64 x.d])) (q : Ext w w2) : UAtI w w2 L t (i + 1) A2 m2 c2 := by
  have e : atU (L.take (i + 1)) t = atU (L.take i) t ++ [⟨x.A, x.c, x.l, x.d⟩] := by rw [atU_step hi hx, if_pos hb]
  refine ⟨by rw [e, List.length_append, hm, h.len]; rfl, ?_, q⟩
  rw [e, ctsC_append]
  exact o
set_option maxRecDepth 100000 in
set_option maxHeartbeats 8000000 in
theorem dat_any (A : Option Addr) (c n : Nat) (L : List Ud) (e : Int) (At : Option Addr) (nt ct : Nat) (lt : List Int) (w : World) (hn : Hid (n = L.length)) (h : Hid (Uin w A c L)) (h9 : n ≤ 1000000) (hin : Hid (∀ x ∈ L, InU x)) (ht : Hid (Sl w 1 At nt ct (wds lt))) (G : Good w) :
    Calls Tryz.prog 17 #[.slice A n c, .agg #[.int .u64 e, .slice At nt ct]] w (DAtRes w (sumV (atV (L.map Ud.uv) (e, lt)))) := by
  go_enter Tryz.func17, Tryz.ntmps17
  go_wp2
  obtain ⟨wb, hwb⟩ : ∃ wb, wb = w.alloc (.cells #[.int .u64 e, .slice At nt ct] 26) := ⟨_, rfl⟩
  have XB : Hid (Ext w wb) := Lib.hid (by rw [hwb]; exact (Ext.refl _).alloc _)
  have BT : Hid (Bk wb w.heap.size 26 #[.int .u64 e, .slice At nt ct]) := Lib.hid (by rw [hwb]; exact Bk.new _ _ _)
  rw [← hwb]
  clear hwb
  obtain ⟨gt, hgt⟩ : ∃ k, k = w.heap.size := ⟨_, rfl⟩
  rw [← hgt] at BT ⊢
  clear hgt
  have HP0 : Hid (UAtI wb wb L (e, lt) 0 none 0 0) := Lib.hid ⟨rfl, Own.nil _ _ _ _, Ext.refl _⟩
  go_loopg [5, 10] n (fun z u v wr => ∃ (i m c3 : Nat) (A3 : Option Addr), z = n - i ∧ i ≤ n ∧ m ≤ i ∧ u = .slice A3 m c3 ∧ v = .int .i64 i ∧ Hid (UAtI wb wr L (e, lt) i A3 m c3))
  case atStart => exact ⟨0, 0, 0, none, rfl, Nat.zero_le _, Nat.le_refl _, rfl, rfl, HP0⟩
  case round =>
    clear HP0
    obtain ⟨i, m, c3, A3, rfl, hi, hmi, rfl, rfl, HP⟩ := hrel
    by_cases hlt : i < n
    · have hil : i < L.length := by rw [← hn.out]; exact hlt
      have XW := XB.out.trans HP.out.ext
      obtain ⟨ad, rfl, p0, p1, p2, p3⟩ := (h.out.ext XW).at hil
      have hm := getU_mem hil
      obtain ⟨x, hx⟩ : ∃ x, L.getD i Ud.zero = x := ⟨_, rfl⟩
      rw [hx] at p0 p1 p2 p3 hm
      obtain ⟨nx, hnx⟩ : ∃ nx, nx = x.l.length := ⟨_, rfl⟩
      obtain ⟨tx, htx⟩ : ∃ tx, tx = x.t.l.length := ⟨_, rfl⟩
      rw [← hnx] at p0
      rw [← htx] at p2
      have HNX := Lib.hid hnx
      have HX := Lib.hid hx
      have HIL := Lib.hid hil
      have HTX : Hid (∀ W, Ext wr W → Sl W 1 x.t.A tx x.t.c (wds x.t.l)) := Lib.hid (fun W q => by rw [htx]; exact ((h.out.ls x hm).t.ext XW).ext q)
      have HT : Hid (∀ W, Ext wr W → Sl W 1 At nt ct (wds lt)) := Lib.hid (fun W q => (ht.out.ext XW).ext q)
      have XA : Ext wr (wr.alloc (.cells #[.slice x.A nx x.c, .int .u64 x.t.e, .slice x.t.A tx x.t.c, .int .i64 x.d] 95)) := (Ext.refl wr).alloc _
      have BX : Hid (Bk (wr.alloc (.cells #[.slice x.A nx x.c, .int .u64 x.t.e, .slice x.t.A tx x.t.c, .int .i64 x.d] 95)) wr.heap.size 95 #[.slice x.A nx x.c, .int .u64 x.t.e, .slice x.t.A tx x.t.c, .int .i64 x.d]) := Lib.hid (Bk.new _ _ _)
      have t0 := (BT.out.ext (HP.out.ext.trans XA)).cell 0
      have t1 := (BT.out.ext (HP.out.ext.trans XA)).cell 1
      obtain ⟨b, hb⟩ : ∃ b, leqT x.t.e x.t.l e lt = b := ⟨_, rfl⟩
      have HB := Lib.hid hb
      clear hil hm hx hnx htx hb XW
      have m1 : True := trivial
      cases b with
      | true =>
        go_wp2_with (first
          | (go_at_call 108; have mk := m1; clear m1 mk; go_loud (refine (uleq_at x.t.e e x.t.A At tx nt x.t.c ct x.t.l lt _ HB (HTX.out _ XA) (HT.out _ XA)).mono ?_); rintro r w1 ⟨rfl, x1⟩; have q0 := (BX.out.ext x1).cell 0; have q3 := (BX.out.ext x1).cell 3; have X1 := Lib.hid (XA.trans x1); have hw1 : wb.heap.size ≤ w1.heap.size := (HP.out.ext.trans X1.out).size; clear x1; have m2 : True := trivial)
          | (at_builtin; have mk := m2; clear m2 mk; go_loud (refine wpList_append_two _ elem_ct wb.heap.size _ _ rfl rfl A3 m c3 (ctsC (atU (L.take i) (e, lt))) rfl ((HP.out.own.ext X1.out).alloc _) (some ⟨w1.heap.size, 0, none⟩) 1 1 [.slice x.A nx x.c, .int .i64 x.d] rfl (sl_ct _ _ _ _) (by intro u hu; simp at hu; rcases hu with rfl | rfl <;> rfl) (by omega) (by decide) (by simp; omega) ?_); intro A6 c6 w6 o6 g6 h6; clear h6; have HQ6 : Hid (UAtI wb w6 L (e, lt) (i + 1) A6 (m + 1) c6) := Lib.hid (HP.out.more HIL.out HX.out HB.out rfl (by have := o6; rwa [HNX.out] at this) (((HP.out.ext.trans X1.out).alloc _).grown g6 (fun k e => (HP.out.own.lt k e).1))); clear o6 g6)
          | fail)
        go_roundg (n - (i + 1))
        case measure => omega
        case rel => exact ⟨i + 1, m + 1, c6, A6, rfl, by omega, by omega, rfl, by go_num, HQ6⟩
      | false =>
        go_wp2_with (first
          | (go_at_call 108; have mk := m1; clear m1 mk; go_loud (refine (uleq_at x.t.e e x.t.A At tx nt x.t.c ct x.t.l lt _ HB (HTX.out _ XA) (HT.out _ XA)).mono ?_); rintro r w1 ⟨rfl, x1⟩; have HQ6 : Hid (UAtI wb w1 L (e, lt) (i + 1) A3 m c3) := Lib.hid (HP.out.skip HIL.out HX.out HB.out (XA.trans x1)); clear x1)
          | fail)
        go_roundg (n - (i + 1))
        case measure => omega
        case rel => exact ⟨i + 1, m, c3, A3, rfl, by omega, by omega, rfl, by go_num, HQ6⟩
    · obtain rfl : i = n := by omega
      have XW := XB.out.trans HP.out.ext
      have ea : atU (L.take i) (e, lt) = atU L (e, lt) := by rw [List.take_of_length_le (by rw [← hn.out]; exact Nat.le_refl _)]
      have HC : Hid (Ctin wr A3 c3 (atU L (e, lt))) := Lib.hid ⟨by have := HP.out.own.sl; have q := HP.out.len; rw [ea] at this q; rwa [q] at this, fun y hy => by
        obtain ⟨x, hx, rfl⟩ := List.mem_map.1 hy
        exact (h.out.ls x (List.mem_filter.1 hx).1).r.ext XW⟩
      have HI : Hid (∀ y ∈ atU L (e, lt), InC y) := Lib.hid (fun y hy => by
        obtain ⟨x, hx, rfl⟩ := List.mem_map.1 hy
        exact (hin.out x (List.mem_filter.1 hx).1).row)
      have HM : Hid (m = (atU L (e, lt)).length) := Lib.hid (by rw [← ea]; exact HP.out.len)
      have HV : Hid (sumV ((atU L (e, lt)).map valC) = sumV (atV (L.map Ud.uv) (e, lt))) := Lib.hid (by rw [atU_val])
      have GW := Lib.hid (G.ext XW)
      have HXW := Lib.hid XW
      clear ea XW
      go_wp2_with (first
        | (go_at_call 109; go_loud (refine (sum_any A3 c3 m (atU L (e, lt)) _ HM.out (by omega) HC.out HI.out GW.out).mono ?_); rintro r w2 hr; have HR := Lib.hid (SumRes.late hr HXW.out HV.out); obtain ⟨A2, m2, c2, R2, rfl, hr2⟩ := hr; clear hr2)
        | fail)
      go_ret
      exact HR.out
end Go.Proofs.YtdgbkpoickbidaaGreatDoor
namespace Go.Proofs.YtdgbkpoickbidaaGreatDoor
open Go.ChangeShapes Go.WideShapes Go.ChangeAt Go.RowKit Go.WideElems

section
variable {H : Type} {enc : TypeId × Value → H} {W : World}
theorem one_rowu : Tryz.prog.cellsOf 79 = 1 := by kernel_rfl
theorem four_ud : Tryz.prog.cellsOf 95 = 4 := by kernel_rfl
/-- what is known of an update that comes in -/
structure UdIn (x : Ud) : Prop where
  r : RwIn x.l
  t : TmIn x.t
  d : -9223372036854775808 ≤ x.d ∧ x.d ≤ 9223372036854775807
theorem UdIn.inU {x : Ud} (h : UdIn x) (h1 : x.l.length ≤ 1000000) (h2 : x.t.l.length ≤ 100000) : InU x := ⟨⟨h.r.txt, h.r.int, h.d, h1⟩, h.t.u, h2, h.t.e⟩
theorem come_udC {fuel : Nat} {cs : List Value} {y : DataW H × List MemPlace} (h : DataW.trod enc Tryz.prog W 0 (fun _ => true) true fuel 95 cs = some y) :
    ∃ x : Ud, cs = udC x ∧ UdR W x ∧ UdIn x := by
  obtain ⟨y0, y1, y2, n, _, hl, h0, h1, h2⟩ := Go.Deep.trod_struct3 Tryz.underlying95 h
  rw [four_ud] at hl
  obtain ⟨c0, c1, c2, c3, rfl⟩ := list4 hl
  have g0 : DataW.trod enc Tryz.prog W 0 (fun _ => true) true n 79 [c0] = some y0 := by
    have : DataW.trod enc Tryz.prog W 0 (fun _ => true) true n 79 (([c0, c1, c2, c3].drop 0).take (Tryz.prog.cellsOf 79)) = some y0 := h0
    rw [one_rowu] at this
    exact this
  have g1 : DataW.trod enc Tryz.prog W 0 (fun _ => true) true n 26 [c1, c2] = some y1 := by
    have : DataW.trod enc Tryz.prog W 0 (fun _ => true) true n 26 (([c0, c1, c2, c3].drop 1).take (Tryz.prog.cellsOf 26)) = some y1 := h1
    rw [two_tm] at this
    exact this
  have g2 : DataW.trod enc Tryz.prog W 0 (fun _ => true) true n 2 [c3] = some y2 := by
    have : DataW.trod enc Tryz.prog W 0 (fun _ => true) true n 2 (([c0, c1, c2, c3].drop 3).take (Tryz.prog.cellsOf 2)) = some y2 := h2
    rw [one_i64] at this
    exact this
  obtain ⟨A, c, l, e0, r0, i0⟩ := come_rowC g0
  obtain ⟨t, e1, s1, i1⟩ := come_timeC g1
  obtain ⟨k, e2, _, w2⟩ := DataW.trod_int Tryz.underlying2 g2
  obtain rfl : c0 = .slice A l.length c := by simpa using e0
  obtain ⟨rfl, rfl⟩ : c1 = .int .u64 t.e ∧ c2 = .slice t.A t.l.length t.c := by simpa [tmC] using e1
  obtain rfl : c3 = .int .i64 k := by simpa using e2
  exact ⟨⟨A, c, l, t, k⟩, rfl, ⟨r0, s1⟩, ⟨i0, i1, dwf_i64 w2⟩⟩
theorem come_udsC {fuel : Nat} {cs : List Value} {y : DataW H × List MemPlace} (h : DataW.trod enc Tryz.prog W 0 (fun _ => true) true fuel 22 cs = some y) :
    ∃ A c L, cs = [.slice A (List.length L) c] ∧ Uin W A c L ∧ ∀ x ∈ L, UdIn x := by
  rcases Go.Deep.open_slice Tryz.underlying22 h with ⟨hcs, _⟩ | ⟨a, n, c, m, fu, D, Pl, hcs, _, hnc, hcm, hm, _, hx⟩
  · exact ⟨none, 0, [], hcs, Uin.nil W, fun x hx => (nomatch hx)⟩
  · rw [four_ud] at hx
    have hmn : n ≤ m := by rw [hm]; split <;> omega
    obtain ⟨F, hF⟩ := Go.Deep.choose_lt (α := Ud) (n := n) (p := fun i d => (∀ j, j < 4 → W.cell? (a.add (i * 4 + j)) = (udC d)[j]?) ∧ UdR W d ∧ UdIn d) (fun i hi => by
      obtain ⟨cs', h1, h2⟩ := hx i (by omega)
      obtain ⟨_, _, h3⟩ := World.cells?_some h1
      obtain ⟨d, rfl, h4⟩ := come_udC h2
      exact ⟨d, fun j hj => by rw [← add_add']; exact h3 j hj, h4⟩)
    have hlen : ((List.range n).map F).length = n := by simp
    have hmem : ∀ d ∈ (List.range n).map F, UdR W d ∧ UdIn d := fun d hd => by
      obtain ⟨i, hi, rfl⟩ := List.mem_map.1 hd
      exact (hF i (List.mem_range.1 hi)).2
    refine ⟨some a, c, (List.range n).map F, by rw [hlen]; exact hcs, ⟨⟨by rw [udsC_len], by rw [hlen]; exact hnc, hcm, (fun h => nomatch h), fun _ => ⟨a, rfl, fun j u hu => ?_⟩⟩, fun d hd => (hmem d hd).1⟩, fun d hd => (hmem d hd).2⟩
    have hj : j < n * 4 := by
      rcases Nat.lt_or_ge j (n * 4) with q | q
      · exact q
      · rw [List.getElem?_eq_none (by rw [udsC_len, hlen]; exact q)] at hu
        cases hu
    have e : j = j / 4 * 4 + j % 4 := by omega
    rw [e, udsC_at _ _ _ (by rw [hlen]; omega) (by omega)] at hu
    have e2 : ((List.range n).map F).getD (j / 4) Ud.zero = F (j / 4) := by
      rw [List.getD_eq_getElem?_getD, List.getElem?_map, List.getElem?_range (by omega)]
      rfl
    rw [e2] at hu
    rw [e, (hF (j / 4) (by omega)).1 (j % 4) (by omega)]
    exact hu
set_option maxRecDepth 100000 in
theorem come_uds {base : Nat} {v : Value} {d : DataW H} {p : List MemPlace} (hv : Value.okWide Tryz.prog W .any base 22 v) (h : DataW.Trod enc Tryz.prog W 0 (fun _ => true) true 22 v d p) :
    ∃ A c L, v = .slice A (List.length L) c ∧ Uin W A c L ∧ ∀ x ∈ L, UdIn x := by
  obtain ⟨fuel, hf⟩ := h
  obtain ⟨A, c, l, e, h1, h2⟩ := come_udsC hf
  obtain ⟨A', n', c', rfl⟩ := okWide_slice Tryz.underlying22 hv
  have e' : (Value.slice A' n' c') = .slice A l.length c := by injection e
  exact ⟨A, c, l, e', h1, h2⟩
end
end Go.Proofs.YtdgbkpoickbidaaGreatDoor
namespace Go.Proofs.YtdgbkpoickbidaaGreatDoor.UdS
open Go.RowKit

/-- what stands at the end of the first of two lists -/
theorem getD_mid (P : List Ud) (x : Ud) (Q : List Ud) : (P ++ x :: Q).getD P.length Ud.zero = x := by
  rw [List.getD_eq_getElem?_getD, List.getElem?_append_right (Nat.le_refl _), Nat.sub_self]
  rfl
theorem set_mid (P : List Ud) (x y : Ud) (Q : List Ud) : (P ++ x :: Q).set P.length y = P ++ y :: Q := by
  rw [List.set_append_right _ _ (Nat.le_refl _), Nat.sub_self]
  rfl
/-- the list that is being sorted: P, the sorted part up to its last place, the one that is being put in, the rest -/
theorem Arr.two {w : World} {B g c q : Nat} {P _s2 Q : List Ud} {x y : Ud} (h : Arr w B g c (P ++ y :: x :: Q)) (hq : q = P.length) :
    (w.cell? ⟨g, q * 4, none⟩ = some (.slice y.A y.l.length y.c) ∧ w.cell? ⟨g, q * 4 + 1, none⟩ = some (.int .u64 y.t.e) ∧ w.cell? ⟨g, q * 4 + 2, none⟩ = some (.slice y.t.A y.t.l.length y.t.c) ∧ w.cell? ⟨g, q * 4 + 3, none⟩ = some (.int .i64 y.d)) ∧ w.cell? ⟨g, (q + 1) * 4, none⟩ = some (.slice x.A x.l.length x.c) ∧ w.cell? ⟨g, (q + 1) * 4 + 1, none⟩ = some (.int .u64 x.t.e) ∧ w.cell? ⟨g, (q + 1) * 4 + 2, none⟩ = some (.slice x.t.A x.t.l.length x.t.c) ∧ w.cell? ⟨g, (q + 1) * 4 + 3, none⟩ = some (.int .i64 x.d) := by
  subst hq
  have h1 := h.at (i := P.length) (by simp)
  have h2 := h.at (i := P.length + 1) (by simp)
  rw [getD_mid] at h1
  have e : (P ++ y :: x :: Q).getD (P.length + 1) Ud.zero = x := by
    have := getD_mid (P ++ [y]) x Q
    rwa [List.append_assoc, List.length_append] at this
  rw [e] at h2
  exact ⟨h1, h2⟩
theorem Arr.swap {w : World} {B g c q : Nat} {P Q : List Ud} {x y : Ud} (h : Arr w B g c (P ++ y :: x :: Q)) (hq : q = P.length) :
    Arr (put4 (put4 w g (q + 1) y y.l.length y.t.l.length) g q x x.l.length x.t.l.length) B g c (P ++ x :: y :: Q) := by
  subst hq
  have h1 := (h.set (P.length + 1) y).set P.length x
  have e : ((P ++ y :: x :: Q).set (P.length + 1) y).set P.length x = P ++ x :: y :: Q := by
    have e1 : (P ++ y :: x :: Q).set (P.length + 1) y = P ++ y :: y :: Q := by
      have := set_mid (P ++ [y]) x y Q
      rwa [List.append_assoc, List.length_append, List.append_assoc] at this
    rw [e1, set_mid]
  rwa [e] at h1
/-- the inner loop's relation -/
def InsIn (B g c a : Nat) (P S T Q D' : List Ud) (x : Ud) (w wi : World) (j : Nat) (s1 s2 : List Ud) : Prop :=
  j = a + s1.length ∧ D' = s1 ++ s2 ∧ (∀ y ∈ s2, cmpC x y < 0) ∧ Arr wi B g c (P ++ (s1 ++ x :: (s2 ++ (T ++ Q)))) ∧ w.grownBy wi (some g) ∧ Rws wi g (x :: S)
/-- the outer loop's relation -/
def InsOut (B g c a : Nat) (P S Q : List Ud) (w wo : World) (i : Nat) (D D' T : List Ud) : Prop :=
  S = D ++ T ∧ i = a + D.length ∧ Stable cmpC D D' ∧ Arr wo B g c (P ++ (D' ++ (T ++ Q))) ∧ w.grownBy wo (some g) ∧ Rws wo g S
theorem stable_len {L M : List Ud} (h : Stable cmpC L M) : M.length = L.length := by
  have key : ∀ (n : Nat) (L M : List Ud), L.length ≤ n → Stable cmpC L M → M.length = L.length := by
    intro n
    induction n with
    | zero =>
      intro L M hn h
      have : L = [] := List.eq_nil_of_length_eq_zero (by omega)
      subst this
      cases M with
      | nil => rfl
      | cons y M => exact absurd ((h.mem cmpC_tot y).1 (List.mem_cons_self ..)) List.not_mem_nil
    | succ n ih =>
      intro L M hn h
      cases M with
      | nil =>
        cases L with
        | nil => rfl
        | cons y L => exact absurd ((h.mem cmpC_tot y).2 (List.mem_cons_self ..)) List.not_mem_nil
      | cons y M =>
        have hy := (h.mem cmpC_tot y).1 (List.mem_cons_self ..)
        have p1 : ∀ K : List Ud, (alike cmpC y K).length + (K.filter fun z => !(cmpC y z == 0)).length = K.length := fun K => by
          unfold alike
          rw [← List.length_append]
          exact (List.filter_append_perm (fun z => cmpC y z == 0) K).length_eq
        have h1 := p1 L
        have h2 := p1 (y :: M)
        have h3 : (alike cmpC y L).length = (alike cmpC y (y :: M)).length := by rw [h.same y]
        have h4 : 0 < (alike cmpC y L).length := List.length_pos_of_mem (List.mem_filter.2 ⟨hy, by rw [beq_iff_eq]; exact cmpC_tot.refl y⟩)
        have h5 := ih (L.filter fun z => !(cmpC y z == 0)) ((y :: M).filter fun z => !(cmpC y z == 0)) (by omega) ⟨h.sorted.filter _, fun z => by
          have q := h.same z
          unfold alike at q ⊢
          rw [List.filter_filter, List.filter_filter]
          have e : ∀ K : List Ud, K.filter (fun a => (cmpC z a == 0) && !(cmpC y a == 0)) = (K.filter (fun a => cmpC z a == 0)).filter (fun a => !(cmpC y a == 0)) := fun K => by
            rw [List.filter_filter]
            congr 1
            funext a
            rw [Bool.and_comm]
          rw [e, e, q]⟩
        omega
  exact key L.length L M (Nat.le_refl _) h
end Go.Proofs.YtdgbkpoickbidaaGreatDoor.UdS
namespace Go.Proofs.YtdgbkpoickbidaaGreatDoor.UdS
open Go.RowKit

def nzC (x : Ud) : Bool := !(x.d == 0)
set_option maxRecDepth 100000 in
set_option maxHeartbeats 400000 in
theorem sum2_any (A B : Option Addr) (c n b m : Nat) (e k : Int) (v : Bool) (w : World) (hv : Hid ((k == 0) = v)) :
    Calls Tryz.prog 107 #[.agg #[.slice A n c, .int .u64 e, .slice B m b, .int .i64 k]] w fun e w' => e = .returned (.bool v) ∧ Ext w w' := by
  rw [← hv.out]
  clear hv
  go_enter Tryz.func107, Tryz.ntmps107
  go_wp2
  go_ret
  exact ⟨rfl, (Ext.refl w).alloc _⟩
set_option maxRecDepth 100000 in
set_option maxHeartbeats 2000000 in
theorem index_none (B g c n : Nat) (M : List Ud) (w : World) (hn : n = M.length) (h : Arr w B g c M) (hz : ∀ x ∈ M, (x.d == 0) = false) :
    Calls Tryz.prog 185 #[.slice (some ⟨g, 0, none⟩) n c, .func (.func 107) #[] #[]] w fun e w' => e = .returned (.int .i64 (-1)) ∧ Ext w w' := by
  have hnm := h.le
  rw [← hn] at hnm
  have H := Lib.hid h
  have HN := Lib.hid hn
  have HZ := Lib.hid hz
  clear h hn hz
  go_enter Tryz.func185, Tryz.ntmps185
  go_wp2
  go_loopw [8] (fun v wr => ∃ i : Nat, i ≤ n ∧ v = .int .i64 i ∧ Ext w wr) (fun v _ => n - (intOf v).toNat)
  case atStart => exact ⟨0, Nat.zero_le _, rfl, Ext.refl _⟩
  case round =>
    obtain ⟨i, hi, rfl, er⟩ := hrel
    by_cases hlt : i < n
    · have hil : i < M.length := by rw [← HN.out]; exact hlt
      obtain ⟨p0, p1, p2, p3⟩ := (H.out.ext er).at hil
      have hk : ((M.getD i Ud.zero).d == 0) = false := by
        rw [List.getD_eq_getElem?_getD, List.getElem?_eq_getElem hil]
        exact HZ.out _ (List.getElem_mem hil)
      obtain ⟨x, hx⟩ : ∃ x, M.getD i Ud.zero = x := ⟨_, rfl⟩
      rw [hx] at p0 p1 p2 p3 hk
      have HK := Lib.hid hk
      clear hil hx hk
      go_wp2_with (go_at_call 107; refine (sum2_any _ _ _ _ _ _ _ _ _ _ HK).mono ?_; rintro e w1 ⟨rfl, x1⟩)
      go_roundw
      case rel => exact ⟨i + 1, by omega, by go_num, er.trans x1⟩
      case measure => simp [intOf]; omega
    · go_wp2
      go_ret
      exact ⟨rfl, er⟩
set_option maxRecDepth 100000 in
set_option maxHeartbeats 2000000 in
theorem index_some (B g c n q : Nat) (P Q : List Ud) (x : Ud) (w : World) (hn : n = (P ++ x :: Q).length) (hq : q = P.length) (h : Arr w B g c (P ++ x :: Q)) (hz : ∀ x ∈ P, (x.d == 0) = false) (hx : (x.d == 0) = true) :
    Calls Tryz.prog 185 #[.slice (some ⟨g, 0, none⟩) n c, .func (.func 107) #[] #[]] w fun e w' => e = .returned (.int .i64 q) ∧ Ext w w' := by
  have hnm := h.le
  rw [← hn] at hnm
  have hqn : q < n := by rw [hn, List.length_append, List.length_cons]; omega
  have H := Lib.hid h
  have HQ := Lib.hid hq
  have HZ := Lib.hid hz
  have HX := Lib.hid hx
  clear h hn hz hq hx
  go_enter Tryz.func185, Tryz.ntmps185
  go_wp2
  go_loopw [8] (fun v wr => ∃ i : Nat, i ≤ q ∧ v = .int .i64 i ∧ Ext w wr) (fun v _ => n - (intOf v).toNat)
  case atStart => exact ⟨0, Nat.zero_le _, rfl, Ext.refl _⟩
  case round =>
    obtain ⟨i, hi, rfl, er⟩ := hrel
    have hlt : i < n := by omega
    have hil : i < (P ++ x :: Q).length := by rw [List.length_append, List.length_cons, ← HQ.out]; omega
    obtain ⟨p0, p1, p2, p3⟩ := (H.out.ext er).at hil
    by_cases hiq : i < q
    · have hk : (((P ++ x :: Q).getD i Ud.zero).d == 0) = false := by
        have hp : i < P.length := by rw [← HQ.out]; exact hiq
        rw [List.getD_eq_getElem?_getD, List.getElem?_append_left hp, List.getElem?_eq_getElem hp]
        exact HZ.out _ (List.getElem_mem hp)
      obtain ⟨y, hy⟩ : ∃ y, (P ++ x :: Q).getD i Ud.zero = y := ⟨_, rfl⟩
      rw [hy] at p0 p1 p2 p3 hk
      have HK := Lib.hid hk
      clear hil hy hk
      go_wp2_with (go_at_call 107; refine (sum2_any _ _ _ _ _ _ _ _ _ _ HK).mono ?_; rintro e w1 ⟨rfl, x1⟩)
      go_roundw
      case rel => exact ⟨i + 1, by omega, by go_num, er.trans x1⟩
      case measure => simp [intOf]; omega
    · have hiq2 : i = q := by omega
      subst hiq2
      have e : (P ++ x :: Q).getD i Ud.zero = x := by rw [HQ.out]; exact getD_mid P x Q
      rw [e] at p0 p1 p2 p3
      clear hil e
      go_wp2_with (go_at_call 107; refine (sum2_any _ _ _ _ _ _ _ _ _ _ HX).mono ?_; rintro e w1 ⟨rfl, x1⟩)
      go_ret
      exact ⟨rfl, er.trans x1⟩
theorem own_set_past {w : World} {B g n c k : Nat} {xs : List Value} (h : Own w B 95 4 (some ⟨g, 0, none⟩) n c xs) (hk : xs.length ≤ k) (u : Value) : Own (w.setCell ⟨g, k, none⟩ u) B 95 4 (some ⟨g, 0, none⟩) n c xs := by
  have := h.put k u
  rwa [List.set_eq_of_length_le hk] at this
theorem own_sets_past {B g n c : Nat} {xs : List Value} : ∀ (vs : List Value) (w : World) (k : Nat), Own w B 95 4 (some ⟨g, 0, none⟩) n c xs → xs.length ≤ k → Own (w.setCells g k vs) B 95 4 (some ⟨g, 0, none⟩) n c xs
  | [], _, _, h, _ => h
  | v :: vs, w, k, h, hk => own_sets_past vs _ (k + 1) (own_set_past h hk v) (by omega)
theorem upd_sets (g : Nat) : ∀ (vs : List Value) (w : World) (k : Nat), w.grownBy (w.setCells g k vs) (some g)
  | [], w, _ => World.grownBy.refl w _
  | v :: vs, w, k => (upd_set w g k v).trans (upd_sets g vs _ (k + 1))
theorem Arr.prefix_ {w : World} {B g c : Nat} {K X : List Ud} (h : Arr w B g c (K ++ X)) : Arr w B g c K := by
  refine ⟨⟨udsC_len K, ?_⟩, h.2⟩
  rcases h.1.2 with ⟨h1, h2⟩ | ⟨g', cur, e, hb, hg, hnc, hcm, hcs, htake⟩
  · exact .inl ⟨h1, by rw [List.length_append] at h2; omega⟩
  · refine .inr ⟨g', cur, e, hb, hg, by rw [List.length_append] at hnc; omega, hcm, hcs, ?_⟩
    have : (cur.toList.take ((K ++ X).length * 4)).take (K.length * 4) = (udsC (K ++ X)).take (K.length * 4) := by rw [htake]
    rw [List.take_take, Nat.min_eq_left (by rw [List.length_append]; omega), udsC_append] at this
    rw [this, ← udsC_len K, List.take_left]
theorem Arr.cells_past {w : World} {B g c : Nat} {K : List Ud} (h : Arr w B g c K) {j : Nat} (hj : j < c * 4) : (w.cell? ⟨g, j, none⟩).isSome = true := by
  rcases h.1.2 with ⟨h1, _⟩ | ⟨g', cur, e, hb, hg, hnc, hcm, hcs, htake⟩
  · have := h.2; omega
  · cases e
    rw [cell_of_row w g j cur _ (0, 0) hg, Array.getElem?_eq_getElem (Nat.lt_of_lt_of_le hj hcs)]
    rfl
theorem run_clear4 {P : Program} (w : World) (t e ty : TypeId) (z0 z1 z2 z3 : Value) (ht : P.underlying t = some (.slice e)) (hv : ∀ w, (zeroValue e).run P w = .ok (.agg #[z0, z1, z2, z3]) w) (hz : ∀ v ∈ [z0, z1, z2, z3], v.oneCell' = true) (hzc : (Value.agg #[z0, z1, z2, z3]).cells = #[z0, z1, z2, z3]) (b o n c : Nat) (hn : 0 < n)
    (hc : ∀ j, j < n * 4 → (w.cell? ⟨b, o + j, none⟩).isSome = true) (hf : ∀ j, j < n * 4 → w.frozen? ⟨b, o + j, none⟩ = false) :
    (Builtin.clear_ #[t] ty #[.slice (some ⟨b, o, none⟩) n c]).run P w = .ok (.tuple #[]) (w.setCells b o (Builtin.zeroCells #[z0, z1, z2, z3] n).toList) := by
  have hlen : (Builtin.zeroCells #[z0, z1, z2, z3] n).toList.length = n * 4 := by
    have := size_zeroCells #[z0, z1, z2, z3] n
    rw [Array.length_toList, this]
    rfl
  have hall : ∀ v ∈ (Builtin.zeroCells #[z0, z1, z2, z3] n).toList, v.oneCell' = true := by
    intro v hv'
    unfold Builtin.zeroCells at hv'
    rw [Array.toList_map] at hv'
    obtain ⟨i, _, rfl⟩ := List.mem_map.1 hv'
    show (#[z0, z1, z2, z3][i % 4]!).oneCell' = true
    rcases (by omega : i % 4 = 0 ∨ i % 4 = 1 ∨ i % 4 = 2 ∨ i % 4 = 3) with h | h | h | h
    · rw [h]; exact hz z0 (by simp)
    · rw [h]; exact hz z1 (by simp)
    · rw [h]; exact hz z2 (by simp)
    · rw [h]; exact hz z3 (by simp)
  have hst := run_storeCells_cells (P := P) b o (Builtin.zeroCells #[z0, z1, z2, z3] n).toList 0 w (by simpa [hlen] using hc) (by simpa [hlen] using hf) hall
  simp only [Nat.add_zero] at hst
  obtain ⟨m, rfl⟩ : ∃ m, n = m + 1 := ⟨n - 1, by omega⟩
  simp [Builtin.clear_, run_underlying ht, hv, hzc, hst]
end Go.Proofs.YtdgbkpoickbidaaGreatDoor.UdS
namespace Go.Proofs.YtdgbkpoickbidaaGreatDoor.UdS
open Go.RowKit

/-- what is left behind: those that are some -/
def Deleted (B g c : Nat) (M : List Ud) (w : World) (e : Ending) (w' : World) : Prop := ∃ m, e = .returned (.slice (some ⟨g, 0, none⟩) m c) ∧ m = (M.filter nzC).length ∧ Arr w' B g c (M.filter nzC) ∧ w.grownBy w' (some g)
theorem zero_ud (w : World) : (zeroValue 95).run Tryz.prog w = .ok (.agg #[.slice none 0 0, .int .u64 0, .slice none 0 0, .int .i64 0]) w := by kernel_rfl
/-- so far: K is kept, X is to be thrown away, R is to come -/
def DelIn (B g c : Nat) (M K X R : List Ud) (w wr : World) (j : Nat) : Prop := j = K.length + X.length ∧ M.filter nzC = K ++ R.filter nzC ∧ Arr wr B g c (K ++ (X ++ R)) ∧ w.grownBy wr (some g) ∧ 0 < X.length
theorem DelIn.mk' {B g c : Nat} {M K X R : List Ud} {w wr wz : World} {j : Nat} (h : DelIn B g c M K X R w wr j) (hz : Ext wr wz) : DelIn B g c M K X R w wz j := ⟨h.1, h.2.1, h.2.2.1.ext hz, h.2.2.2.1.trans (upd_ext hz g), h.2.2.2.2⟩
theorem DelIn.skip {B g c : Nat} {M K X R : List Ud} {x : Ud} {w wr wz : World} {j : Nat} (h : DelIn B g c M K X (x :: R) w wr j) (hx : nzC x = false) (hz : Ext wr wz) : DelIn B g c M K (X ++ [x]) R w wz (j + 1) := by
  obtain ⟨h1, h2, h3, h4, h5⟩ := h
  refine ⟨by rw [List.length_append, List.length_singleton]; omega, by rw [h2, List.filter_cons_of_neg (by simp [hx])], ?_, h4.trans (upd_ext hz g), by rw [List.length_append]; omega⟩
  have e : K ++ (X ++ [x] ++ R) = K ++ (X ++ x :: R) := by simp
  rw [e]
  exact h3.ext hz
theorem DelIn.keep {B g c i : Nat} {M K X R : List Ud} {x y : Ud} {w wr : World} {j : Nat} (h : DelIn B g c M K (y :: X) (x :: R) w wr j) (hx : nzC x = true) (hi : i = K.length) {n m : Nat} (hn : n = x.l.length) (hm : m = x.t.l.length) :
    DelIn B g c M (K ++ [x]) (X ++ [x]) R w (put4 wr g i x n m) (j + 1) := by
  subst hi hn hm
  obtain ⟨h1, h2, h3, h4, h5⟩ := h
  refine ⟨by simp only [List.length_append, List.length_cons, List.length_nil] at h1 ⊢; omega, by rw [h2, List.filter_cons_of_pos hx]; simp, ?_, h4.trans (upd_put4 wr g _ _ _ _), by rw [List.length_append, List.length_singleton]; omega⟩
  have h6 := h3.set K.length x
  have e : (K ++ (y :: X ++ x :: R)).set K.length x = K ++ [x] ++ (X ++ [x] ++ R) := by
    rw [List.cons_append, set_mid]
    simp
  rw [e] at h6
  exact h6
set_option maxRecDepth 100000 in
set_option maxHeartbeats 4000000 in
theorem deleteFunc_any (B g c n : Nat) (M : List Ud) (w : World) (hn : n = M.length) (h : Arr w B g c M) :
    Calls Tryz.prog 106 #[.slice (some ⟨g, 0, none⟩) n c, .func (.func 107) #[] #[]] w (Deleted B g c M w) := by
  by_cases hall : ∀ x ∈ M, (x.d == 0) = false
  · have hf : M.filter nzC = M := List.filter_eq_self.2 fun x hx => by unfold nzC; rw [hall x hx]; rfl
    have H := Lib.hid h
    have HN := Lib.hid hn
    have HF := Lib.hid hf
    clear h hn hf
    go_enter Tryz.func106, Tryz.ntmps106
    go_wp2_with (go_at_call 185; refine (index_none B g c n M _ HN.out H.out hall).mono ?_; rintro e w1 ⟨rfl, x1⟩)
    go_ret
    exact ⟨n, rfl, by rw [HF.out]; exact HN.out, by rw [HF.out]; exact H.out.ext x1, upd_ext x1 g⟩
  · obtain ⟨P, x, Q, rfl, hP, hx⟩ : ∃ P x Q, M = P ++ x :: Q ∧ (∀ y ∈ P, (y.d == 0) = false) ∧ (x.d == 0) = true := by
      clear h hn
      induction M with
      | nil => exact absurd (fun x hx => (nomatch hx)) hall
      | cons y M ih =>
        by_cases hy : (y.d == 0) = true
        · exact ⟨[], y, M, rfl, fun z hz => (nomatch hz), hy⟩
        · have hy' : (y.d == 0) = false := by simpa using hy
          obtain ⟨P, x, Q, e, h1, h2⟩ := ih (fun q => hall fun z hz => (List.mem_cons.1 hz).elim (fun e => e ▸ hy') (q z))
          exact ⟨y :: P, x, Q, by rw [e]; rfl, fun z hz => (List.mem_cons.1 hz).elim (fun e => e ▸ hy') (h1 z), h2⟩
    clear hall
    obtain ⟨M, hM⟩ : ∃ M, M = P ++ x :: Q := ⟨_, rfl⟩
    obtain ⟨q, hq⟩ : ∃ q, q = P.length := ⟨_, rfl⟩
    have hnm := h.le
    rw [← hn] at hnm
    have hqn : q < n := by rw [hn, hq, List.length_append, List.length_cons]; omega
    have hncap : n ≤ c := by rw [hn]; exact h.1.le.1
    have hc63 : c ≤ 9223372036854775807 := h.1.le.2
    have hf1 : P.filter nzC = P := List.filter_eq_self.2 fun y hy => by unfold nzC; rw [hP y hy]; rfl
    have H := Lib.hid h
    have HN := Lib.hid hn
    have HQ := Lib.hid hq
    have HP := Lib.hid hP
    have HX := Lib.hid hx
    have HLen : Hid (n = q + 1 + Q.length) := Lib.hid (by rw [hn, hq, List.length_append, List.length_cons]; omega)
    have HD : ∀ w1, Ext w w1 → Hid (DelIn B g c M P [x] Q w w1 (q + 1)) := fun w1 x1 => Lib.hid ⟨by rw [hq]; rfl, by rw [hM, List.filter_append, hf1, List.filter_cons_of_neg (by unfold nzC; rw [hx]; decide)], h.ext x1, upd_ext x1 g, Nat.zero_lt_one⟩
    have HDD := Lib.hid HD
    rw [← hM]
    clear h hn hq hP hx hf1 hM HD
    go_enter Tryz.func106, Tryz.ntmps106
    go_wp2_with (go_at_call 185; refine (index_some B g c n q P Q x _ HN.out HQ.out H.out HP.out HX.out).mono ?_; rintro e w1 ⟨rfl, x1⟩)
    go_loopg [5, 6] (n - (q + 1)) (fun z u v wr => ∃ (i j : Nat) (K X R : List Ud), z = n - j ∧ j ≤ n ∧ i ≤ j ∧ u = .int .i64 i ∧ v = .int .i64 j ∧ Hid (i = K.length ∧ n = j + R.length) ∧ Hid (DelIn B g c M K X R w wr j))
    case atStart => exact ⟨q, q + 1, P, [x], Q, rfl, by omega, by omega, rfl, by simp, Lib.hid ⟨HQ.out, HLen.out⟩, HDD.out w1 x1⟩
    case round =>
      obtain ⟨i, j, K, X, R, rfl, hj, hij, rfl, rfl, HI, HJ⟩ := hrel
      obtain ⟨wi, hwi⟩ : ∃ wi : World, wi = wr := ⟨_, rfl⟩
      rw [← hwi] at HJ ⊢
      clear hwi
      by_cases hlt : j < n
      · obtain ⟨y, R, rfl⟩ : ∃ y R', R = y :: R' := by
          cases R with
          | nil => have := HI.out.2; rw [List.length_nil] at this; omega
          | cons y R => exact ⟨y, R, rfl⟩
        obtain ⟨x0, X, rfl⟩ : ∃ x0 X', X = x0 :: X' := by
          cases X with
          | nil => have := HJ.out.2.2.2.2; exact absurd this (by decide)
          | cons x0 X => exact ⟨x0, X, rfl⟩
        have hA := HJ.out.2.2.1
        have hjl : j < (K ++ (x0 :: X ++ y :: R)).length := by have := HJ.out.1; simp only [List.length_append, List.length_cons] at this ⊢; omega
        obtain ⟨p0, p1, p2, p3⟩ := hA.at hjl
        have e : (K ++ (x0 :: X ++ y :: R)).getD j Ud.zero = y := by
          rw [← List.append_assoc, show j = (K ++ x0 :: X).length by rw [List.length_append]; exact HJ.out.1]
          exact getD_mid _ y R
        rw [e] at p0 p1 p2 p3
        have f0 := hA.free (i * 4)
        have f0b := hA.free (i * 4 + 1)
        have f1 := hA.free (i * 4 + 2)
        have f1b := hA.free (i * 4 + 3)
        have c0 : ∃ u, wi.cell? ⟨g, i * 4, none⟩ = some u := Option.isSome_iff_exists.1 (hA.cells_past (by omega))
        obtain ⟨u0, c0⟩ := c0
        have c1 : ∃ u, wi.cell? ⟨g, i * 4 + 1, none⟩ = some u := Option.isSome_iff_exists.1 (hA.cells_past (by omega))
        obtain ⟨u1, c1⟩ := c1
        have c2 : ∃ u, wi.cell? ⟨g, i * 4 + 2, none⟩ = some u := Option.isSome_iff_exists.1 (hA.cells_past (by omega))
        obtain ⟨u2, c2⟩ := c2
        have c3 : ∃ u, wi.cell? ⟨g, i * 4 + 3, none⟩ = some u := Option.isSome_iff_exists.1 (hA.cells_past (by omega))
        obtain ⟨u3, c3⟩ := c3
        have HA := Lib.hid hA
        obtain ⟨ny, hny⟩ : ∃ ny, ny = y.l.length := ⟨_, rfl⟩
        obtain ⟨ty, hty⟩ : ∃ ty, ty = y.t.l.length := ⟨_, rfl⟩
        rw [← hny] at p0; rw [← hty] at p2
        have HNY := Lib.hid hny
        have HTY := Lib.hid hty
        obtain ⟨v, hv⟩ : ∃ v, (y.d == 0) = v := ⟨_, rfl⟩
        have HV := Lib.hid hv
        clear hA hjl e hny hty hv
        cases v
        · have hx : Hid (nzC y = true) := Lib.hid (by unfold nzC; rw [HV.out]; rfl)
          go_wp2_with (go_at_call 107; refine (sum2_any _ _ _ _ _ _ _ _ _ _ HV).mono ?_; rintro e w2 ⟨rfl, x2⟩; have X2 := ((Ext.refl wi).alloc (.cells #[.slice y.A ny y.c, .int .u64 y.t.e, .slice y.t.A ty y.t.c, .int .i64 y.d] 95)).trans x2; have B2 := (Bk.new wi 95 #[.slice y.A ny y.c, .int .u64 y.t.e, .slice y.t.A ty y.t.c, .int .i64 y.d]).ext x2; have b0 := B2.cell 0; have b1 := B2.cell 1; have b2 := B2.cell 2; have b3 := B2.cell 3; have HA2 := Lib.hid (HA.out.ext X2); have g0 := HA2.out.free (i * 4); have g1 := HA2.out.free (i * 4 + 1); have g2 := HA2.out.free (i * 4 + 2); have g3 := HA2.out.free (i * 4 + 3); have d0 := X2.cell c0; have d1 := X2.cell c1; have d2 := X2.cell c2; have d3 := X2.cell c3)
          go_roundg (n - (j + 1))
          case measure => omega
          case rel => exact ⟨i + 1, j + 1, K ++ [y], X ++ [y], R, rfl, by omega, by omega, by go_num, by go_num, Lib.hid ⟨by rw [List.length_append, List.length_singleton, ← HI.out.1], by have := HI.out.2; rw [List.length_cons] at this; omega⟩, Lib.hid ((DelIn.mk' HJ.out X2).keep hx.out HI.out.1 HNY.out HTY.out)⟩
        · have hx : Hid (nzC y = false) := Lib.hid (by unfold nzC; rw [HV.out]; rfl)
          go_wp2_with (go_at_call 107; refine (sum2_any _ _ _ _ _ _ _ _ _ _ HV).mono ?_; rintro e w2 ⟨rfl, x2⟩; have X2 := ((Ext.refl wi).alloc (.cells #[.slice y.A ny y.c, .int .u64 y.t.e, .slice y.t.A ty y.t.c, .int .i64 y.d] 95)).trans x2)
          go_roundg (n - (j + 1))
          case measure => omega
          case rel => exact ⟨i, j + 1, K, x0 :: X ++ [y], R, rfl, by omega, by omega, rfl, by go_num, Lib.hid ⟨HI.out.1, by have := HI.out.2; rw [List.length_cons] at this; omega⟩, Lib.hid (HJ.out.skip hx.out X2)⟩
      · obtain rfl : j = n := by omega
        have hR : R = [] := List.eq_nil_of_length_eq_zero (by have := HI.out.2; omega)
        subst hR
        have hA := HJ.out.2.2.1
        have hin : i < j := by have h1 := HJ.out.1; have h2 := HI.out.1; have h3 := HJ.out.2.2.2.2; omega
        have hcap : j - i ≤ c - i := by omega
        have hci : ¬ (c = i) := by omega
        have hcl : ∃ vs, ∀ ty, (Builtin.clear_ #[22] ty #[.slice (some ⟨g, i * 4, none⟩) (j - i) (c - i)]).run Tryz.prog wi = .ok (.tuple #[]) (wi.setCells g (i * 4) vs) :=
          ⟨_, fun ty => (run_clear4 (P := Tryz.prog) wi 22 95 ty (.slice none 0 0) (.int .u64 0) (.slice none 0 0) (.int .i64 0) Tryz.underlying22 zero_ud (by intro v hv; simp at hv; rcases hv with rfl | rfl | rfl | rfl <;> rfl) rfl g (i * 4) (j - i) (c - i) (by omega) (fun t ht => hA.cells_past (by omega)) (fun t ht => hA.free _))⟩
        obtain ⟨vs, hcl⟩ := hcl
        have HA := Lib.hid hA
        have HF : Hid (M.filter nzC = K) := Lib.hid (by have := HJ.out.2.1; rwa [List.filter_nil, List.append_nil] at this)
        have HG := Lib.hid HJ.out.2.2.2.1
        have HK := Lib.hid HI.out.1
        clear hA HJ HI
        go_wp2
        go_ret
        refine ⟨i, rfl, by rw [HF.out]; exact HK.out, ?_, HG.out.trans (upd_sets g vs wi _)⟩
        rw [HF.out]
        have hp := HA.out.prefix_
        exact ⟨own_sets_past vs wi _ hp.1 (by rw [udsC_len, HK.out]; exact Nat.le_refl _), hp.2⟩
end Go.Proofs.YtdgbkpoickbidaaGreatDoor.UdS
namespace Go.Proofs.YtdgbkpoickbidaaGreatDoor
open Go.RowKit

namespace UdS
theorem map_snoc {α β : Type} {f : α → β} {O : List α} {M : List β} {y : β} (h : O.map f = M ++ [y]) : ∃ K z, O = K ++ [z] ∧ K.map f = M ∧ f z = y := by
  obtain ⟨K, R, e, e1, e2⟩ := List.map_eq_append_iff.1 h
  cases R with
  | nil => simp at e2
  | cons z R =>
    cases R with
    | cons z' R => simp at e2
    | nil => exact ⟨K, z, e, e1, by simpa using e2⟩
theorem ustable_map {O S : List Ud} (h : Stable cmpC O S) : Stable cmpV (O.map Ud.uv) (S.map Ud.uv) := by
  refine ⟨List.pairwise_map.2 (h.sorted.imp fun q => q), fun c => ?_⟩
  have e : ∀ K : List Ud, alike cmpV c (K.map Ud.uv) = (alike cmpC ⟨none, 0, c.1.1, ⟨c.1.2.1, none, 0, c.1.2.2⟩, c.2⟩ K).map Ud.uv := fun K => by
    unfold alike
    rw [List.filter_map]
    rfl
  rw [e, e, h.same]
/-- the last one that was put down is like the last one that was read -/
theorem dlast {S O : List Ud} {j : Nat} (hs : S.Pairwise fun x y => cmpC x y ≤ 0) (hin : ∀ x ∈ S, InN x.uv) (h : O.map Ud.uv = mergeV ((S.take (j + 1)).map Ud.uv)) (hj : j < S.length) :
    ∃ M y, O = M ++ [y] ∧ ∀ x : Ud, kcmp y.k x.k = 0 ↔ kcmp (S.getD j Ud.zero).k x.k = 0 := by
  have hsub : (S.take (j + 1)).Sublist S := List.take_sublist _ _
  have k := (merge_sum ((S.take (j + 1)).map Ud.uv) (List.pairwise_map.2 ((hs.sublist hsub).imp fun q => q)) (fun x hx => by obtain ⟨y, hy, rfl⟩ := List.mem_map.1 hx; exact hin y (hsub.subset hy))).2
  rw [takeU hj] at k h
  rcases k with ⟨k, _⟩ | ⟨S0, s, M0, y, k1, k2, k3⟩
  · simp at k
  · rw [k2] at h
    obtain ⟨K, z, e, e1, e2⟩ := map_snoc h
    refine ⟨K, z, e, fun x => ?_⟩
    rw [List.map_append, List.map_singleton] at k1
    have hsz := (List.append_inj' k1 rfl).2
    have hs2 : (S.getD j Ud.zero).uv = s := by simpa using hsz
    have k4 : kcmp z.k (S.getD j Ud.zero).k = 0 := by
      have : cmpV z.uv (S.getD j Ud.zero).uv = 0 := by rw [e2, hs2]; exact k3
      exact this
    exact kcmp_tot.eq_left k4
/-- while S is read: i of it are done -/
structure DSumAt (w w1 : World) (S : List Ud) (wr : World) (i : Nat) (A : Option Addr) (c : Nat) (O : List Ud) : Prop where
  out : Uout wr w.heap.size A c O
  is : O.map Ud.uv = mergeV ((S.take i).map Ud.uv)
  len : O.length ≤ i
  ext : Ext w1 wr
  lo : Ext w w1
variable {w w1 wr wz : World} {S O M : List Ud} {i : Nat} {A : Option Addr} {c : Nat} {x y : Ud}
theorem DSumAt.mono (h : DSumAt w w1 S wr i A c O) (q : Ext wr wz) : DSumAt w w1 S wz i A c O := ⟨h.out.ext q, h.is, h.len, h.ext.trans q, h.lo⟩
theorem DSumAt.join {g m : Nat} {s : Int} (h : DSumAt w w1 S wr i (some ⟨g, 0, none⟩) c (M ++ [y])) (hi : i < S.length) (hx : S.getD i Ud.zero = x) (hc : kcmp y.k x.k = 0) (hm : m = M.length) (hs : w64 (y.d + x.d) = s) (hg : w1.heap.size ≤ g) :
    DSumAt w w1 S (wr.setCell ⟨g, m * 4 + 3, none⟩ (.int .i64 s)) (i + 1) (some ⟨g, 0, none⟩) c (M ++ [⟨y.A, y.c, y.l, y.t, s⟩]) := by
  subst hm hs
  refine ⟨h.out.bump _, ?_, by have := h.len; simp only [List.length_append, List.length_singleton] at this ⊢; omega, h.ext.set (p := ⟨g, _, none⟩) hg _, h.lo⟩
  rw [takeU hi, hx, List.map_append, List.map_append, List.map_singleton, List.map_singleton, mergeV_snoc, ← h.is, List.map_append, List.map_singleton, mergeStep_snoc, if_pos (show cmpV y.uv x.uv = 0 from hc)]
  rfl
theorem dkeep_is (h : O.map Ud.uv = mergeV ((S.take i).map Ud.uv)) (hi : i < S.length) (hx : S.getD i Ud.zero = x) (hc : O = [] ∨ ∃ M y, O = M ++ [y] ∧ ¬ kcmp y.k x.k = 0) {z : Ud} (hz : z.uv = x.uv) : (O ++ [z]).map Ud.uv = mergeV ((S.take (i + 1)).map Ud.uv) := by
  rw [takeU hi, hx, List.map_append, List.map_append, List.map_singleton, List.map_singleton, mergeV_snoc, ← h, hz]
  rcases hc with rfl | ⟨M, y, rfl, hc⟩
  · rfl
  · rw [List.map_append, List.map_singleton, mergeStep_snoc, if_neg (show ¬ cmpV y.uv x.uv = 0 from hc)]
/-- what Sum hands back -/
def DSumRes (w : World) (L : List Ud) (e : Ending) (w' : World) : Prop := ∃ A m R, e = .returned (.slice A m m) ∧ m = R.length ∧ Uout w' w.heap.size A m R ∧ R.map Ud.uv = sumV (L.map Ud.uv) ∧ Ext w w'
theorem dsum_val {L S O : List Ud} (hin : ∀ x ∈ L, InN x.uv) (st : Stable cmpC L S) (h : O.map Ud.uv = mergeV (S.map Ud.uv)) : (O.filter nzC).map Ud.uv = sumV (L.map Ud.uv) := by
  have h1 : Summed (L.map Ud.uv) (O.map Ud.uv) := by
    rw [h]
    exact Summed.of_stable (ustable_map st) (fun y hy => by obtain ⟨x, hx, rfl⟩ := List.mem_map.1 hy; exact hin x hx)
  have h2 := Summed.all (L.map Ud.uv) (fun y hy => by obtain ⟨x, hx, rfl⟩ := List.mem_map.1 hy; exact hin x hx)
  unfold sumV
  rw [← h1.unique h2, List.filter_map]
  rfl
end UdS
end Go.Proofs.YtdgbkpoickbidaaGreatDoor
namespace Go.Proofs.YtdgbkpoickbidaaGreatDoor
open Go.RowKit

set_option maxRecDepth 100000 in
set_option maxHeartbeats 400000 in
theorem clone_ups (A : Option Addr) (n c : Nat) (L : List Ud) (w : World) (hm : Hid (n = L.length)) (h : Hid (Uin w A c L)) (hn : n ≤ 1000000) :
    Calls Tryz.prog 101 #[.slice A n c] w fun e w' => ∃ A' c', e = .returned (.slice A' n c') ∧ Own w' w.heap.size 95 4 A' n c' (udsC L) ∧ Ext w w' := by
  have hs : Hid (Sl w 4 A n c (udsC L)) := Lib.hid (by rw [hm.out]; exact h.out.sl)
  have hnil := fun (W : World) => Lib.run_eql_slice_nil (P := Tryz.prog) W 22 95 A n c 0 0 Tryz.underlying22
  rcases A with _ | a
  · obtain rfl : c = 0 := hs.out.2.2.2.1 rfl
    have hn0 : n = 0 := by have := hs.out.2.1; omega
    subst hn0
    have hx : udsC L = [] := List.eq_nil_of_length_eq_zero (by simpa using hs.out.1)
    rw [hx]
    go_enter Tryz.func101, Tryz.ntmps101
    go_wp2
    go_ret
    exact ⟨none, 0, rfl, Own.nil _ _ _ _, Ext.refl _⟩
  · go_enter Tryz.func101, Tryz.ntmps101
    go_wp2_with (at_builtin; refine wpList_append_gen _ elem_ud w.heap.size _ _ (by rfl) (by rfl) _ 0 0 [] (by rfl) (Own.empty _ _ _ _ _) (some a) n c (udsC L) (by rfl) (hs.out.ext ((Ext.refl w).alloc _)) (udsC_one L) (by omega) (by omega) (by simp) ?_; intro A' c' w1 ho1 hg1 hk1)
    go_ret
    refine ⟨A', c', by simp, by simpa using ho1, ?_⟩
    exact ((Ext.refl w).alloc _).grown hg1 (by simp [blk])
end Go.Proofs.YtdgbkpoickbidaaGreatDoor
namespace Go.Proofs.YtdgbkpoickbidaaGreatDoor
open Go.RowKit

theorem Bk.set4 {w : World} {g : Nat} {t : TypeId} {a b c d : Value} (h : Bk w g t #[a, b, c, d]) (u v x y : Value) :
    ((((w.setCell ⟨g, 0, none⟩ u).setCell ⟨g, 1, none⟩ v).setCell ⟨g, 2, none⟩ x).setCell ⟨g, 3, none⟩ y).cell? ⟨g, 0, none⟩ = some u ∧ ((((w.setCell ⟨g, 0, none⟩ u).setCell ⟨g, 1, none⟩ v).setCell ⟨g, 2, none⟩ x).setCell ⟨g, 3, none⟩ y).cell? ⟨g, 1, none⟩ = some v ∧
      ((((w.setCell ⟨g, 0, none⟩ u).setCell ⟨g, 1, none⟩ v).setCell ⟨g, 2, none⟩ x).setCell ⟨g, 3, none⟩ y).cell? ⟨g, 2, none⟩ = some x ∧ ((((w.setCell ⟨g, 0, none⟩ u).setCell ⟨g, 1, none⟩ v).setCell ⟨g, 2, none⟩ x).setCell ⟨g, 3, none⟩ y).cell? ⟨g, 3, none⟩ = some y := by
  have bb := (((h.set 0 u).set 1 v).set 2 x).set 3 y
  exact ⟨bb.cell 0, bb.cell 1, bb.cell 2, bb.cell 3⟩
def UCopyOut (x : Ud) (nx tx : Nat) (w : World) (r : Ending) (w' : World) : Prop := ∃ (A : Option Addr) (c : Nat) (B : Option Addr) (b : Nat), r = .returned (.agg #[.slice A nx c, .int .u64 x.t.e, .slice B tx b, .int .i64 x.d]) ∧
  Own w' w.heap.size 204 4 A nx c (rowC x.l) ∧ Own w' w.heap.size 180 1 B tx b (wds x.t.l) ∧ Ext w w'
set_option maxRecDepth 100000 in
set_option maxHeartbeats 4000000 in
theorem ucopied_any (x : Ud) (nx tx : Nat) (w : World) (hnx : Hid (nx = x.l.length)) (htx : Hid (tx = x.t.l.length)) (hx : Hid (UdR w x)) (h9 : nx ≤ 1000000000) (h8 : tx ≤ 1000000000) :
    Calls Tryz.prog 104 #[.agg #[.slice x.A nx x.c, .int .u64 x.t.e, .slice x.t.A tx x.t.c, .int .i64 x.d]] w (UCopyOut x nx tx w) := by
  have HT : Hid (Sl w 1 x.t.A tx x.t.c (wds x.t.l)) := Lib.hid (by rw [htx.out]; exact hx.out.t)
  go_enter Tryz.func104, Tryz.ntmps104
  go_upto_region 1 with fail
  obtain ⟨w0, hw0⟩ : ∃ w0, w0 = (w.alloc (Obj.cells #[.slice x.A nx x.c, .int .u64 x.t.e, .slice x.t.A tx x.t.c, .int .i64 x.d] 95)).alloc (Obj.cells #[.slice none 0 0, .int .u64 0, .slice none 0 0, .int .i64 0] 95) := ⟨_, rfl⟩
  have x0 : Ext w w0 := hw0 ▸ ((Ext.refl w).alloc _).alloc _
  have a0 : Bk w0 w.heap.size 95 #[.slice x.A nx x.c, .int .u64 x.t.e, .slice x.t.A tx x.t.c, .int .i64 x.d] := by subst hw0; exact (Bk.new _ _ _).alloc _
  have b0 : Bk w0 (w.heap.size + 1) 95 #[.slice none 0 0, .int .u64 0, .slice none 0 0, .int .i64 0] := by subst hw0; exact Bk.at (by simp)
  have hs0 : w0.heap.size = w.heap.size + 2 := by rw [hw0]; simp
  rw [← hw0]
  clear hw0
  have X : Ext w0 w0.drew := (Ext.refl w0).drew
  have q0 : ∀ y : Xt w0.drew, y.W.cell? ⟨w.heap.size, 0, none⟩ = some (.slice x.A nx x.c) := fun y => (a0.ext (X.trans y.x)).cell 0
  have q2 : ∀ y : Xt w0.drew, y.W.cell? ⟨w.heap.size, 2, none⟩ = some (.slice x.t.A tx x.t.c) := fun y => (a0.ext (X.trans y.x)).cell 2
  have HR := Lib.hid (hx.out.r.ext (x0.trans X))
  refine wp_region_ord [0,1,3,0,8,24,63,63,255,511,1023,2047] (.flo [0,1,3,4,5] (.ext 2 (.pur [7] (.one 6 (.one 8 (.flo [9,10] (.one 11 (.fin)))))))) (by kernel_rfl) (by kernel_rfl) (by intro _ _ d _ _ h; cases d <;> exact h) ?_
  (refine ord_flo (pick_cons rfl (pick_cons rfl (pick_cons rfl (pick_cons rfl (pick_cons rfl pick_nil))))) ?_; (repeat (go_big_quiet_step (fail))); refine wpQuiet_nil ?_; show ordWalk _ _ _ _ _ _ _)
  refine ord_ext (pick_cons rfl pick_nil) ?_; intro K_ hK_
  go_wp2_with (go_at_call 183; refine (clone_lit x.A x.c nx x.l _ hnx HR h9).mono ?_; rintro e w1 ⟨⟨A1, c1, rfl, o1, b1⟩, x1⟩)
  refine ordNext.mk x1 ?_
  (refine ord_pur (pick_cons rfl pick_nil) ?_; (repeat (go_big_quiet_step (fail))); refine wpQuiet_nil ?_; show ordWalk _ _ _ _ _ _ _)
  refine ord_one (pick_cons rfl pick_nil) ?_; intro K_ hK_
  have hs1 := (X.trans x1).size
  go_wp2_with (go_at_call 184; refine (clone_words x.t.A tx x.t.c _ _ (HT.out.ext ((x0.trans X).trans x1)) (wds_one _) (by omega)).mono ?_; rintro e w2 ⟨A2, c2, rfl, o2, x2⟩)
  have XE : Ext w0 w2 := (X.trans x1).trans x2
  have O1 : Hid (Own w2 w0.heap.size 204 4 A1 nx c1 (rowC x.l)) := Lib.hid ((Own.ext o1 x2).mono X.size)
  have O2 : Hid (Own w2 w0.heap.size 180 1 A2 tx c2 (wds x.t.l)) := Lib.hid (Own.mono o2 hs1)
  have a2 := a0.ext XE
  have b2 := b0.ext XE
  have p0 := a2.cell 0
  have f0 := a2.free 0
  have hs2 := XE.size
  clear o1 o2 b1 q0 q2
  refine ord_one (pick_cons rfl pick_nil) ?_; intro K_ hK_
  go_wp2
  obtain ⟨w3, hw3⟩ : ∃ w3, w3 = w2.setCell ⟨w.heap.size, 0, none⟩ (.slice A1 nx c1) := ⟨_, rfl⟩
  have a3 : Bk w3 w.heap.size 95 #[.slice A1 nx c1, .int .u64 x.t.e, .slice x.t.A tx x.t.c, .int .i64 x.d] := by rw [hw3]; exact a2.set 0 _
  have b3 : Bk w3 (w.heap.size + 1) 95 #[.slice none 0 0, .int .u64 0, .slice none 0 0, .int .i64 0] := by rw [hw3]; exact b2.far (by simp) _
  have O1 : Hid (Own w3 w0.heap.size 204 4 A1 nx c1 (rowC x.l)) := Lib.hid (by rw [hw3]; exact O1.out.far (O1.out.ne (by show w.heap.size < _; omega)) _)
  have O2 : Hid (Own w3 w0.heap.size 180 1 A2 tx c2 (wds x.t.l)) := Lib.hid (by rw [hw3]; exact O2.out.far (O2.out.ne (by show w.heap.size < _; omega)) _)
  have X3 : Hid (Ext w w3) := Lib.hid (by rw [hw3]; exact (x0.trans XE).set (p := ⟨w.heap.size, 0, none⟩) (Nat.le_refl _) _)
  rw [← hw3]
  clear hw3 p0 f0
  have p2 := a3.cell 2
  have f2 := a3.free 2
  (refine ord_flo (pick_cons rfl (pick_cons rfl pick_nil)) ?_; (repeat (go_big_quiet_step (fail))); refine wpQuiet_nil ?_; show ordWalk _ _ _ _ _ _ _)
  refine ord_one (pick_cons rfl pick_nil) ?_; intro K_ hK_
  go_wp2
  obtain ⟨w4, hw4⟩ : ∃ w4, w4 = w3.setCell ⟨w.heap.size, 2, none⟩ (.slice A2 tx c2) := ⟨_, rfl⟩
  have a4 : Bk w4 w.heap.size 95 #[.slice A1 nx c1, .int .u64 x.t.e, .slice A2 tx c2, .int .i64 x.d] := by rw [hw4]; exact a3.set 2 _
  have b4 : Bk w4 (w.heap.size + 1) 95 #[.slice none 0 0, .int .u64 0, .slice none 0 0, .int .i64 0] := by rw [hw4]; exact b3.far (by simp) _
  have O1 : Hid (Own w4 w0.heap.size 204 4 A1 nx c1 (rowC x.l)) := Lib.hid (by rw [hw4]; exact O1.out.far (O1.out.ne (by show w.heap.size < _; omega)) _)
  have O2 : Hid (Own w4 w0.heap.size 180 1 A2 tx c2 (wds x.t.l)) := Lib.hid (by rw [hw4]; exact O2.out.far (O2.out.ne (by show w.heap.size < _; omega)) _)
  have X4 : Hid (Ext w w4) := Lib.hid (by rw [hw4]; exact X3.out.set (p := ⟨w.heap.size, 2, none⟩) (Nat.le_refl _) _)
  rw [← hw4]
  clear hw4 p2 f2
  refine ord_fin ?_
  have r0 := a4.cell 0
  have r1 := a4.cell 1
  have r2 := a4.cell 2
  have r3 := a4.cell 3
  have s0 := b4.cell 0
  have s1 := b4.cell 1
  have s2 := b4.cell 2
  have s3 := b4.cell 3
  have g0 := b4.free 0
  have g1 := b4.free 1
  have g2 := b4.free 2
  have g3 := b4.free 3
  have BB := Lib.hid b4
  clear a0 b0 a2 b2 a3 b3 a4 b4
  go_wp2
  have bb := BB.out.set4 (.slice A1 nx c1) (.int .u64 x.t.e) (.slice A2 tx c2) (.int .i64 x.d)
  refine bodyPost_ret (v := .agg #[.slice A1 nx c1, .int .u64 x.t.e, .slice A2 tx c2, .int .i64 x.d]) (by simp [results, Tryz.results104, go_sem, bb.1, bb.2.1, bb.2.2.1, bb.2.2.2]) rfl ⟨A1, c1, A2, c2, rfl, ?_, ?_, ?_⟩
  · exact ((((O1.out.far (O1.out.ne (by show w.heap.size + 1 < _; omega)) _).far (O1.out.ne (by show w.heap.size + 1 < _; omega)) _).far (O1.out.ne (by show w.heap.size + 1 < _; omega)) _).far (O1.out.ne (by show w.heap.size + 1 < _; omega)) _).mono (by omega)
  · exact ((((O2.out.far (O2.out.ne (by show w.heap.size + 1 < _; omega)) _).far (O2.out.ne (by show w.heap.size + 1 < _; omega)) _).far (O2.out.ne (by show w.heap.size + 1 < _; omega)) _).far (O2.out.ne (by show w.heap.size + 1 < _; omega)) _).mono (by omega)
  · exact (((X4.out.set (p := ⟨w.heap.size + 1, 0, none⟩) (by simp) _).set (p := ⟨w.heap.size + 1, 1, none⟩) (by simp) _).set (p := ⟨w.heap.size + 1, 2, none⟩) (by simp) _).set (p := ⟨w.heap.size + 1, 3, none⟩) (by simp) _
end Go.Proofs.YtdgbkpoickbidaaGreatDoor
namespace Go.Proofs.YtdgbkpoickbidaaGreatDoor.UdS
open Go.RowKit

theorem getD_here {P Q : List Ud} {x : Ud} {p : Nat} (hp : p = P.length) : (P ++ x :: Q).getD p Ud.zero = x := by subst hp; exact getD_mid P x Q
theorem Arr.here {w : World} {B g c p : Nat} {P Q : List Ud} {x : Ud} (h : Arr w B g c (P ++ x :: Q)) (hp : p = P.length) :
    w.cell? ⟨g, p * 4, none⟩ = some (.slice x.A x.l.length x.c) ∧ w.cell? ⟨g, p * 4 + 1, none⟩ = some (.int .u64 x.t.e) ∧ w.cell? ⟨g, p * 4 + 2, none⟩ = some (.slice x.t.A x.t.l.length x.t.c) ∧ w.cell? ⟨g, p * 4 + 3, none⟩ = some (.int .i64 x.d) := by
  have := h.at (i := p) (by subst hp; simp)
  rwa [getD_here hp] at this
theorem set_two (P M Q : List Ud) (x y : Ud) : ((P ++ x :: (M ++ y :: Q)).set P.length y).set (P.length + 1 + M.length) x = P ++ y :: (M ++ x :: Q) := by
  rw [set_mid]
  have := set_mid (P ++ y :: M) y x Q
  simp only [List.append_assoc, List.cons_append, List.length_append, List.length_cons] at this
  rwa [show P.length + 1 + M.length = P.length + (M.length + 1) by omega]
theorem set_two' (P M Q : List Ud) (x y : Ud) : ((P ++ x :: (M ++ y :: Q)).set (P.length + 1 + M.length) x).set P.length y = P ++ y :: (M ++ x :: Q) := by
  have := set_mid (P ++ x :: M) y x Q
  simp only [List.append_assoc, List.cons_append, List.length_append, List.length_cons] at this
  rw [show P.length + 1 + M.length = P.length + (M.length + 1) by omega, this, set_mid]
section
variable {w : World} {B g c p q : Nat} {P M Q : List Ud} {x y : Ud}
/-- the first one is written first -/
theorem Arr.swapA (h : Arr w B g c (P ++ x :: (M ++ y :: Q))) (hp : p = P.length) (hq : q = P.length + 1 + M.length) {nx ny tx ty : Nat} (hx : nx = x.l.length) (hy : ny = y.l.length) (hx2 : tx = x.t.l.length) (hy2 : ty = y.t.l.length) :
    Arr (put4 (put4 w g p y ny ty) g q x nx tx) B g c (P ++ y :: (M ++ x :: Q)) := by
  subst hp hq hx hy hx2 hy2
  have h1 := (h.set P.length y).set (P.length + 1 + M.length) x
  rwa [set_two] at h1
/-- the second one is written first -/
theorem Arr.swapB (h : Arr w B g c (P ++ x :: (M ++ y :: Q))) (hp : p = P.length) (hq : q = P.length + 1 + M.length) {nx ny tx ty : Nat} (hx : nx = x.l.length) (hy : ny = y.l.length) (hx2 : tx = x.t.l.length) (hy2 : ty = y.t.l.length) :
    Arr (put4 (put4 w g q x nx tx) g p y ny ty) B g c (P ++ y :: (M ++ x :: Q)) := by
  subst hp hq hx hy hx2 hy2
  have h1 := (h.set (P.length + 1 + M.length) x).set P.length y
  rwa [set_two'] at h1
end
theorem cons_of {α : Type} {l : List α} (h : 0 < l.length) : ∃ x t, l = x :: t := by
  cases l with
  | nil => exact absurd h (Nat.lt_irrefl 0)
  | cons x t => exact ⟨x, t, rfl⟩
end Go.Proofs.YtdgbkpoickbidaaGreatDoor.UdS
namespace Go.Proofs.YtdgbkpoickbidaaGreatDoor.UdS
open Go.RowKit

/-- the loop's relation -/
def SwIn (B g c : Nat) (P X M Y Q : List Ud) (w wi : World) (i : Nat) (X1 X2 Y1 Y2 : List Ud) : Prop :=
  X = X1 ++ X2 ∧ Y = Y1 ++ Y2 ∧ X1.length = i ∧ Y1.length = i ∧ Arr wi B g c (P ++ (Y1 ++ (X2 ++ (M ++ (X1 ++ (Y2 ++ Q)))))) ∧ w.grownBy wi (some g)
theorem SwIn.form {B g c : Nat} {P X M Y Q : List Ud} {w wi : World} {i : Nat} {X1 X2 Y1 Y2 : List Ud} {x y : Ud} (h : SwIn B g c P X M Y Q w wi i X1 (x :: X2) Y1 (y :: Y2)) :
    Arr wi B g c ((P ++ Y1) ++ x :: ((X2 ++ (M ++ X1)) ++ y :: (Y2 ++ Q))) := by
  have := h.2.2.2.2.1
  have e : P ++ (Y1 ++ (x :: X2 ++ (M ++ (X1 ++ (y :: Y2 ++ Q))))) = (P ++ Y1) ++ x :: ((X2 ++ (M ++ X1)) ++ y :: (Y2 ++ Q)) := by simp
  rwa [e] at this
theorem SwIn.ext {B g c : Nat} {P X M Y Q : List Ud} {w wi wz : World} {i : Nat} {X1 X2 Y1 Y2 : List Ud} (h : SwIn B g c P X M Y Q w wi i X1 X2 Y1 Y2) (z : Ext wi wz) : SwIn B g c P X M Y Q w wz i X1 X2 Y1 Y2 :=
  ⟨h.1, h.2.1, h.2.2.1, h.2.2.2.1, h.2.2.2.2.1.ext z, h.2.2.2.2.2.trans (upd_ext z g)⟩
theorem SwIn.step {B g c a b p q : Nat} {P X M Y Q : List Ud} {w wi : World} {i : Nat} {X1 X2 Y1 Y2 : List Ud} {x y : Ud} (h : SwIn B g c P X M Y Q w wi i X1 (x :: X2) Y1 (y :: Y2)) (ha : a = P.length) (hb : b = P.length + X.length + M.length) (hp : p = a + i) (hq : q = b + i) {nx ny tx ty : Nat} (hx : nx = x.l.length) (hy : ny = y.l.length) (hx2 : tx = x.t.l.length) (hy2 : ty = y.t.l.length) {wj : World} (hz : Ext wi wj) :
    SwIn B g c P X M Y Q w (put4 (put4 wj g p y ny ty) g q x nx tx) (i + 1) (X1 ++ [x]) X2 (Y1 ++ [y]) Y2 := by
  have hf := h.form.ext hz
  obtain ⟨h1, h2, h3, h4, h5, h6⟩ := h
  have h7 := hf.swapA (p := p) (q := q) (by rw [List.length_append]; omega) (by
    have := congrArg List.length h1
    simp only [List.length_append, List.length_cons] at this ⊢
    omega) hx hy hx2 hy2
  refine ⟨by rw [h1]; simp, by rw [h2]; simp, by rw [List.length_append, List.length_singleton]; omega, by rw [List.length_append, List.length_singleton]; omega, ?_, (h6.trans (upd_ext hz g)).trans upd_swap⟩
  have e : P ++ (Y1 ++ [y] ++ (X2 ++ (M ++ (X1 ++ [x] ++ (Y2 ++ Q))))) = (P ++ Y1) ++ y :: ((X2 ++ (M ++ X1)) ++ x :: (Y2 ++ Q)) := by simp
  rw [e]
  exact h7
set_option maxRecDepth 100000 in
set_option maxHeartbeats 4000000 in
theorem swapR_any (B g c n a b k : Nat) (P X M Y Q : List Ud) (w : World) (ha : a = P.length) (hb : b = P.length + X.length + M.length) (hx : k = X.length) (hy : k = Y.length) (hn : n = (P ++ (X ++ (M ++ (Y ++ Q)))).length) (h : Arr w B g c (P ++ (X ++ (M ++ (Y ++ Q))))) :
    Calls Tryz.prog 283 #[.slice (some ⟨g, 0, none⟩) n c, .int .i64 a, .int .i64 b, .int .i64 k, .func (.func 103) #[] #[]] w fun e w' => e = .returned (.tuple #[]) ∧ Arr w' B g c (P ++ (Y ++ (M ++ (X ++ Q)))) ∧ w.grownBy w' (some g) := by
  have hnm := h.le
  rw [← hn] at hnm
  have hbk : b + k ≤ n := by rw [hb, hn]; simp only [List.length_append]; omega
  have hak : a + k ≤ b := by omega
  have HA := Lib.hid ha
  have HB := Lib.hid hb
  have HX := Lib.hid hx
  have HY := Lib.hid hy
  have HI : Hid (SwIn B g c P X M Y Q w w 0 [] X [] Y) := Lib.hid ⟨rfl, rfl, rfl, rfl, h, World.grownBy.refl w _⟩
  clear ha hb hx hy hn h
  go_enter Tryz.func283, Tryz.ntmps283
  go_wp2
  go_loopg [10] k (fun z v wr => ∃ (i : Nat) (X1 X2 Y1 Y2 : List Ud), z = k - i ∧ i ≤ k ∧ v = .int .i64 i ∧ Hid (SwIn B g c P X M Y Q w wr i X1 X2 Y1 Y2))
  case atStart => exact ⟨0, [], X, [], Y, rfl, Nat.zero_le _, rfl, HI⟩
  case round =>
    obtain ⟨i, X1, X2, Y1, Y2, rfl, hi, rfl, HJ⟩ := hrel
    clear HI
    by_cases hlt : i < k
    · obtain ⟨x, X2, rfl⟩ := cons_of (l := X2) (by
        obtain ⟨q1, q2, q3, q4, _⟩ := HJ.out
        have := HX.out
        rw [q1, List.length_append] at this
        omega)
      obtain ⟨y, Y2, rfl⟩ := cons_of (l := Y2) (by
        obtain ⟨q1, q2, q3, q4, _⟩ := HJ.out
        have := HY.out
        rw [q2, List.length_append] at this
        omega)
      have hf := HJ.out.form
      obtain ⟨px0, px1, px2, px3⟩ := hf.here (p := a + i) (by rw [List.length_append]; have := HA.out; have := HJ.out.2.2.2.1; omega)
      have hf2 : Arr wr B g c ((P ++ (Y1 ++ (x :: X2 ++ (M ++ X1)))) ++ y :: (Y2 ++ Q)) := by
        have e : (P ++ Y1) ++ x :: ((X2 ++ (M ++ X1)) ++ y :: (Y2 ++ Q)) = (P ++ (Y1 ++ (x :: X2 ++ (M ++ X1)))) ++ y :: (Y2 ++ Q) := by simp
        rwa [e] at hf
      obtain ⟨py0, py1, py2, py3⟩ := hf2.here (p := b + i) (by
        obtain ⟨q1, q2, q3, q4, _⟩ := HJ.out
        have e1 := congrArg List.length q1
        have e2 := HB.out
        simp only [List.length_append, List.length_cons] at e1 ⊢
        omega)
      have f0 := hf.free ((a + i) * 4)
      have f0b := hf.free ((a + i) * 4 + 1)
      have f1 := hf.free ((a + i) * 4 + 2)
      have f1b := hf.free ((a + i) * 4 + 3)
      have f2 := hf.free ((b + i) * 4)
      have f2b := hf.free ((b + i) * 4 + 1)
      have f3 := hf.free ((b + i) * 4 + 2)
      have f3b := hf.free ((b + i) * 4 + 3)
      obtain ⟨nx, hnx⟩ : ∃ nx, nx = x.l.length := ⟨_, rfl⟩
      obtain ⟨tx, htx⟩ : ∃ tx, tx = x.t.l.length := ⟨_, rfl⟩
      obtain ⟨ny, hny⟩ : ∃ ny, ny = y.l.length := ⟨_, rfl⟩
      obtain ⟨ty, hty⟩ : ∃ ty, ty = y.t.l.length := ⟨_, rfl⟩
      rw [← hnx] at px0; rw [← htx] at px2
      rw [← hny] at py0; rw [← hty] at py2
      have HNX := Lib.hid hnx
      have HTX := Lib.hid htx
      have HNY := Lib.hid hny
      have HTY := Lib.hid hty
      have XE : Ext wr wr.drew := (Ext.refl wr).drew
      have PY0 : ∀ z : Xt wr.drew, z.W.cell? ⟨g, (b + i) * 4, none⟩ = some (.slice y.A ny y.c) := fun z => (XE.trans z.x).cell py0
      have PY1 : ∀ z : Xt wr.drew, z.W.cell? ⟨g, (b + i) * 4 + 1, none⟩ = some (.int .u64 y.t.e) := fun z => (XE.trans z.x).cell py1
      have PY2 : ∀ z : Xt wr.drew, z.W.cell? ⟨g, (b + i) * 4 + 2, none⟩ = some (.slice y.t.A ty y.t.c) := fun z => (XE.trans z.x).cell py2
      have PY3 : ∀ z : Xt wr.drew, z.W.cell? ⟨g, (b + i) * 4 + 3, none⟩ = some (.int .i64 y.d) := fun z => (XE.trans z.x).cell py3
      have PX0 : ∀ z : Xt wr.drew, z.W.cell? ⟨g, (a + i) * 4, none⟩ = some (.slice x.A nx x.c) := fun z => (XE.trans z.x).cell px0
      have PX1 : ∀ z : Xt wr.drew, z.W.cell? ⟨g, (a + i) * 4 + 1, none⟩ = some (.int .u64 x.t.e) := fun z => (XE.trans z.x).cell px1
      have PX2 : ∀ z : Xt wr.drew, z.W.cell? ⟨g, (a + i) * 4 + 2, none⟩ = some (.slice x.t.A tx x.t.c) := fun z => (XE.trans z.x).cell px2
      have PX3 : ∀ z : Xt wr.drew, z.W.cell? ⟨g, (a + i) * 4 + 3, none⟩ = some (.int .i64 x.d) := fun z => (XE.trans z.x).cell px3
      clear hf hf2 hnx hny htx hty
      go_upto_region 3 with fail
      refine wp_region_ord [0,0,0,6,0,0,0,96,0,0,0,1536,3840,7936,0,0,0,98304,245760,507904,1048335,2096911,4194303,8388607] (.flo [0,1,2,3,8,9,10,11,12,13,14,15,16,17,18,19,20] (.pur [4,5,6,7] (.one 21 (.flo [22] (.one 23 (.fin)))))) (by kernel_rfl) (by kernel_rfl) (by intro _ _ d _ _ h; cases d <;> exact h) ?_
      (refine ord_flo (pick_cons rfl (pick_cons rfl (pick_cons rfl (pick_cons rfl (pick_cons rfl (pick_cons rfl (pick_cons rfl (pick_cons rfl (pick_cons rfl (pick_cons rfl (pick_cons rfl (pick_cons rfl (pick_cons rfl (pick_cons rfl (pick_cons rfl (pick_cons rfl (pick_cons rfl pick_nil))))))))))))))))) ?_; (repeat (go_big_quiet_step (fail))); refine wpQuiet_nil ?_; show ordWalk _ _ _ _ _ _ _)
      (refine ord_pur (pick_cons rfl (pick_cons rfl (pick_cons rfl (pick_cons rfl pick_nil)))) ?_; (repeat (go_big_quiet_step (fail))); refine wpQuiet_nil ?_; show ordWalk _ _ _ _ _ _ _)
      refine ord_one (pick_cons rfl pick_nil) ?_; intro K_ hK_
      go_wp2
      (refine ord_flo (pick_cons rfl pick_nil) ?_; (repeat (go_big_quiet_step (fail))); refine wpQuiet_nil ?_; show ordWalk _ _ _ _ _ _ _)
      refine ord_one (pick_cons rfl pick_nil) ?_; intro K_ hK_
      go_wp2
      refine ord_fin ?_
      go_wp2
      go_roundg (k - (i + 1))
      case measure => omega
      case rel => exact ⟨i + 1, X1 ++ [x], X2, Y1 ++ [y], Y2, rfl, by omega, by go_num, Lib.hid ((HJ.out.step HA.out HB.out rfl rfl HNX.out HNY.out HTX.out HTY.out (Ext.refl _)).ext (Ext.refl _).drew)⟩
    · have hik : i = k := by omega
      obtain ⟨q1, q2, q3, q4, q5, q6⟩ := HJ.out
      have e1 : X2 = [] := List.eq_nil_of_length_eq_zero (by have := HX.out; rw [q1, List.length_append] at this; omega)
      have e2 : Y2 = [] := List.eq_nil_of_length_eq_zero (by have := HY.out; rw [q2, List.length_append] at this; omega)
      subst e1 e2
      have HQ5 : Hid (Arr wr B g c (P ++ (Y ++ (M ++ (X ++ Q))))) := Lib.hid (by
        rw [List.append_nil] at q1 q2
        rw [q1, q2]
        simpa using q5)
      have HQ6 := Lib.hid q6
      clear q1 q2 q3 q4 q5 q6
      go_wp2
      go_end0
      exact ⟨rfl, HQ5.out, HQ6.out⟩
end Go.Proofs.YtdgbkpoickbidaaGreatDoor.UdS
namespace Go.Proofs.YtdgbkpoickbidaaGreatDoor.UdS
open Go.RowKit

/-- the loop's relation: D is what shall be -/
def RotIn (B g c m : Nat) (D : List Ud) (w wi : World) (i j p : Nat) (P U V Q : List Ud) : Prop :=
  D = P ++ (V ++ (U ++ Q)) ∧ U.length = i ∧ V.length = j ∧ P.length = p ∧ m = p + i ∧ 0 < i ∧ 0 < j ∧ Arr wi B g c (P ++ (U ++ (V ++ Q))) ∧ w.grownBy wi (some g)
theorem RotIn.left {B g c m : Nat} {D : List Ud} {w wi wj : World} {i j p : Nat} {P U1 U2 V Q : List Ud} (h : RotIn B g c m D w wi i j p P (U1 ++ U2) V Q) (h1 : U1.length = j) (h2 : 0 < i - j)
    (ha : Arr wj B g c (P ++ (V ++ (U2 ++ (U1 ++ Q))))) (hg : wi.grownBy wj (some g)) : RotIn B g c m D w wj (i - j) j (p + j) (P ++ V) U2 U1 Q := by
  obtain ⟨q1, q2, q3, q4, q5, q6, q7, q8, q9⟩ := h
  rw [List.length_append] at q2
  refine ⟨by rw [q1]; simp, by omega, h1, by rw [List.length_append]; omega, by omega, h2, q7, ?_, q9.trans hg⟩
  rw [List.append_assoc]
  exact ha
theorem RotIn.right {B g c m : Nat} {D : List Ud} {w wi wj : World} {i j p : Nat} {P U V1 V2 Q : List Ud} (h : RotIn B g c m D w wi i j p P U (V1 ++ V2) Q) (h1 : V2.length = i) (h2 : 0 < j - i)
    (ha : Arr wj B g c (P ++ (V2 ++ (V1 ++ (U ++ Q))))) (hg : wi.grownBy wj (some g)) : RotIn B g c m D w wj i (j - i) p P V2 V1 (U ++ Q) := by
  obtain ⟨q1, q2, q3, q4, q5, q6, q7, q8, q9⟩ := h
  rw [List.length_append] at q3
  exact ⟨by rw [q1]; simp, h1, by omega, q4, q5, q6, h2, ha, q9.trans hg⟩
theorem cut_at {α : Type} (l : List α) (k : Nat) (h : k ≤ l.length) : ∃ l1 l2, l = l1 ++ l2 ∧ l1.length = k := ⟨l.take k, l.drop k, (List.take_append_drop k l).symm, by rw [List.length_take]; omega⟩
set_option maxRecDepth 100000 in
set_option maxHeartbeats 4000000 in
theorem rot_any (B g c n a m b : Nat) (P U V Q : List Ud) (w : World) (ha : a = P.length) (hm : m = a + U.length) (hb : b = m + V.length) (hu : 0 < U.length) (hv : 0 < V.length) (hn : n = (P ++ (U ++ (V ++ Q))).length) (h : Arr w B g c (P ++ (U ++ (V ++ Q)))) :
    Calls Tryz.prog 255 #[.slice (some ⟨g, 0, none⟩) n c, .int .i64 a, .int .i64 m, .int .i64 b, .func (.func 103) #[] #[]] w fun e w' => e = .returned (.tuple #[]) ∧ Arr w' B g c (P ++ (V ++ (U ++ Q))) ∧ w.grownBy w' (some g) := by
  have hnm := h.le
  rw [← hn] at hnm
  have hbn : b ≤ n := by rw [hb, hm, ha, hn]; simp only [List.length_append]; omega
  obtain ⟨i0, hi0⟩ : ∃ i, i = U.length := ⟨_, rfl⟩
  obtain ⟨j0, hj0⟩ : ∃ j, j = V.length := ⟨_, rfl⟩
  obtain ⟨D, hD⟩ : ∃ D, D = P ++ (V ++ (U ++ Q)) := ⟨_, rfl⟩
  have HN : Hid (n = D.length) := Lib.hid (by rw [hn, hD]; simp only [List.length_append]; omega)
  have HI : Hid (RotIn B g c m D w w i0 j0 a P U V Q) := Lib.hid ⟨hD, hi0.symm, hj0.symm, ha.symm, by omega, by omega, by omega, h, World.grownBy.refl w _⟩
  have e1 : (m : Int) - (a : Int) = (i0 : Int) := by omega
  have e2 : (b : Int) - (m : Int) = (j0 : Int) := by omega
  have hij : i0 + j0 ≤ n := by omega
  rw [← hD]
  clear ha hm hb hu hv hn h hi0 hj0 hD
  go_enter Tryz.func255, Tryz.ntmps255
  go_wp2
  go_loopg [10, 11] (i0 + j0) (fun z u v wr => ∃ (i j p : Nat) (P U V Q : List Ud), z = i + j ∧ i + j ≤ n ∧ u = .int .i64 i ∧ v = .int .i64 j ∧ Hid (RotIn B g c m D w wr i j p P U V Q))
  case atStart => exact ⟨i0, j0, a, P, U, V, Q, rfl, hij, rfl, rfl, HI⟩
  case round =>
    obtain ⟨i, j, p, P, U, V, Q, rfl, hs, rfl, rfl, HJ⟩ := hrel
    clear HI e1 e2
    have hmi : (m : Int) - (i : Int) = (p : Int) := by have := HJ.out.2.2.2.2.1; omega
    have hmn : m + j ≤ n := by
      obtain ⟨q1, q2, q3, q4, q5, _⟩ := HJ.out
      have := HN.out
      rw [q1] at this
      simp only [List.length_append] at this
      omega
    have him : i ≤ m := by have := HJ.out.2.2.2.2.1; omega
    rcases Nat.lt_trichotomy i j with hlt | heq | hgt
    · obtain ⟨V1, V2, rfl, hv1⟩ := cut_at V (j - i) (by have := HJ.out.2.2.1; omega)
      have z1 : ((i : Int) == (j : Int)) = false := by rw [beq_eq_false_iff_ne]; omega
      have z2 : ¬ (j : Int) < i := by omega
      have hmj : (m : Int) + (j : Int) - (i : Int) = ((p + j : Nat) : Int) := by omega
      have hji : (j : Int) - (i : Int) = ((j - i : Nat) : Int) := by omega
      have HV1 := Lib.hid hv1
      clear hv1
      go_wp2_with (go_at_call 283; refine (swapR_any B g c n p (p + j) i P U V1 V2 Q _ HJ.out.2.2.2.1.symm (by have := HV1.out; have := HJ.out; have := this.2.1; have := HJ.out.2.2.2.1; omega) HJ.out.2.1.symm (by have := HJ.out.2.2.1; rw [List.length_append] at this; have := HV1.out; omega) (by rw [HN.out, HJ.out.1]; simp only [List.length_append]; omega) (by have := HJ.out.2.2.2.2.2.2.2.1; rwa [List.append_assoc] at this)).mono ?_; rintro e w1 ⟨rfl, a1, g1⟩; have HJ1 := Lib.hid (HJ.out.right (by have := HJ.out.2.2.1; rw [List.length_append] at this; have := HV1.out; omega) (by omega) a1 g1); clear a1 g1)
      go_roundg (i + (j - i))
      case measure => have := HJ.out.2.2.2.2.2.1; omega
      case rel => exact ⟨i, j - i, p, P, V2, V1, U ++ Q, rfl, by omega, rfl, by go_num, HJ1⟩
    · subst heq
      have z1 : ((i : Int) == (i : Int)) = true := by simp
      go_wp2_with (go_at_call 283; refine (swapR_any B g c n p m i P U [] V Q _ HJ.out.2.2.2.1.symm (by have := HJ.out.2.1; have := HJ.out.2.2.2.1; have := HJ.out.2.2.2.2.1; simp only [List.length_nil]; omega) HJ.out.2.1.symm HJ.out.2.2.1.symm (by rw [HN.out, HJ.out.1]; simp only [List.length_append, List.length_nil]; omega) HJ.out.2.2.2.2.2.2.2.1).mono ?_; rintro e w1 ⟨rfl, a1, g1⟩; have HA1 : Hid (Arr w1 B g c D) := Lib.hid (by rw [HJ.out.1]; exact a1); have HG1 := Lib.hid (HJ.out.2.2.2.2.2.2.2.2.trans g1); clear a1 g1)
      go_end0
      exact ⟨rfl, HA1.out, HG1.out⟩
    · obtain ⟨U1, U2, rfl, hu1⟩ := cut_at U j (by have := HJ.out.2.1; omega)
      have z1 : ((i : Int) == (j : Int)) = false := by rw [beq_eq_false_iff_ne]; omega
      have z2 : (j : Int) < i := by omega
      have hji : (i : Int) - (j : Int) = ((i - j : Nat) : Int) := by omega
      have HU1 := Lib.hid hu1
      clear hu1
      go_wp2_with (go_at_call 283; refine (swapR_any B g c n p m j P U1 U2 V Q _ HJ.out.2.2.2.1.symm (by have := HJ.out.2.1; rw [List.length_append] at this; have := HJ.out.2.2.2.1; have := HJ.out.2.2.2.2.1; omega) HU1.out.symm HJ.out.2.2.1.symm (by rw [HN.out, HJ.out.1]; simp only [List.length_append]; omega) (by have := HJ.out.2.2.2.2.2.2.2.1; rwa [List.append_assoc] at this)).mono ?_; rintro e w1 ⟨rfl, a1, g1⟩; have HJ1 := Lib.hid (HJ.out.left HU1.out (by omega) a1 g1); clear a1 g1)
      go_roundg (i - j + j)
      case measure => have := HJ.out.2.2.2.2.2.2.1; omega
      case rel => exact ⟨i - j, j, p + j, P ++ V, U2, U1, Q, rfl, by omega, by go_num, rfl, HJ1⟩
end Go.Proofs.YtdgbkpoickbidaaGreatDoor.UdS
namespace Go.Proofs.YtdgbkpoickbidaaGreatDoor.UdS
open Go.RowKit

def SortedC (l : List Ud) : Prop := l.Pairwise fun x y => cmpC x y ≤ 0
theorem SortedC.left {l m : List Ud} (h : SortedC (l ++ m)) : SortedC l := (List.pairwise_append.1 h).1
theorem SortedC.right {l m : List Ud} (h : SortedC (l ++ m)) : SortedC m := (List.pairwise_append.1 h).2.1
theorem getD_left {l m : List Ud} {i : Nat} (h : i < l.length) : (l ++ m).getD i Ud.zero = l.getD i Ud.zero := by
  rw [List.getD_eq_getElem?_getD, List.getElem?_append_left h, List.getD_eq_getElem?_getD]
theorem getD_right {l m : List Ud} {i : Nat} (h : l.length ≤ i) : (l ++ m).getD i Ud.zero = m.getD (i - l.length) Ud.zero := by
  rw [List.getD_eq_getElem?_getD, List.getElem?_append_right h, List.getD_eq_getElem?_getD]
theorem mem_getD {l : List Ud} {i : Nat} (h : i < l.length) : l.getD i Ud.zero ∈ l := by
  rw [List.getD_eq_getElem?_getD, List.getElem?_eq_getElem h]
  exact List.getElem_mem h
theorem mem_mid {P X R : List Ud} {i : Nat} (h1 : P.length ≤ i) (h2 : i < P.length + X.length) : (P ++ (X ++ R)).getD i Ud.zero ∈ X := by
  rw [getD_right h1, getD_left (by omega)]
  exact mem_getD (by omega)
/-- an element behind what is ahead of it -/
theorem getD_of {L P Q : List Ud} {x : Ud} {i : Nat} (h : L = P ++ x :: Q) (hi : i = P.length) : L.getD i Ud.zero = x := by
  rw [h]; exact getD_here hi
/-- where the general search ends -/
theorem sym_split {P X Y Q L : List Ud} {a m b mid n p s lo hi : Nat} (hL : L = P ++ (X ++ (Y ++ Q))) (ha : a = P.length) (hm : m = a + X.length) (hb : b = m + Y.length) (hmid : mid = (a + b) / 2) (hn : n = mid + m) (hp : n = p + 1)
    (hc : (mid < m ∧ lo = n - b ∧ hi = mid) ∨ (m ≤ mid ∧ lo = a ∧ hi = m)) (h1 : lo ≤ s) (h2 : s ≤ hi) (hA : lo < s → ¬ cmpC (L.getD (n - s) Ud.zero) (L.getD (s - 1) Ud.zero) < 0) (hB : s < hi → cmpC (L.getD (p - s) Ud.zero) (L.getD s Ud.zero) < 0) :
    ∃ X1 X2 Y1 Y2, X = X1 ++ X2 ∧ Y = Y1 ++ Y2 ∧ s = a + X1.length ∧ n - s = m + Y1.length ∧ mid = a + (X1.length + Y1.length) ∧
      (∀ t x y u, X1 = t ++ [x] → Y2 = y :: u → cmpC x y ≤ 0) ∧ (∀ t y x u, Y1 = t ++ [y] → X2 = x :: u → cmpC y x < 0) := by
  have hs1 : a ≤ s ∧ s ≤ m := by omega
  have hs2 : m ≤ n - s ∧ n - s ≤ b := by omega
  obtain ⟨X1, X2, hX, hX1⟩ := cut_at X (s - a) (by omega)
  obtain ⟨Y1, Y2, hY, hY1⟩ := cut_at Y (n - s - m) (by omega)
  have lX : X.length = X1.length + X2.length := by rw [hX, List.length_append]
  have lY : Y.length = Y1.length + Y2.length := by rw [hY, List.length_append]
  refine ⟨X1, X2, Y1, Y2, hX, hY, by omega, by omega, by omega, fun t x y u e1 e2 => ?_, fun t y x u e1 e2 => ?_⟩
  · have l1 : X1.length = t.length + 1 := by rw [e1, List.length_append, List.length_singleton]
    have l2 : Y2.length = u.length + 1 := by rw [e2, List.length_cons]
    have := hA (by omega)
    rw [getD_of (L := L) (P := P ++ X ++ Y1) (Q := u ++ Q) (x := y) (by rw [hL, hY, e2]; simp) (by simp only [List.length_append]; omega), getD_of (L := L) (P := P ++ t) (Q := X2 ++ (Y ++ Q)) (x := x) (by rw [hL, hX, e1]; simp) (by simp only [List.length_append]; omega)] at this
    rw [cmpC_tot.neg]
    omega
  · have l1 : Y1.length = t.length + 1 := by rw [e1, List.length_append, List.length_singleton]
    have l2 : X2.length = u.length + 1 := by rw [e2, List.length_cons]
    have := hB (by omega)
    rw [getD_of (L := L) (P := P ++ X ++ t) (Q := Y2 ++ Q) (x := y) (by rw [hL, hY, e1]; simp) (by simp only [List.length_append]; omega), getD_of (L := L) (P := P ++ X1) (Q := u ++ (Y ++ Q)) (x := x) (by rw [hL, hX, e2]; simp) (by simp only [List.length_append]; omega)] at this
    exact this
/-- one element, behind it a sorted list: where it goes -/
theorem one_split {P Y Q L : List Ud} {x : Ud} {a m b i : Nat} (hL : L = P ++ ([x] ++ (Y ++ Q))) (ha : a = P.length) (hm : m = a + 1) (hb : b = m + Y.length) (h1 : m ≤ i) (h2 : i ≤ b) (hY : SortedC Y)
    (hA : m < i → cmpC (L.getD (i - 1) Ud.zero) x < 0) (hB : i < b → ¬ cmpC (L.getD i Ud.zero) x < 0) :
    ∃ Y1 Y2, Y = Y1 ++ Y2 ∧ i = m + Y1.length ∧ Stable cmpC ([x] ++ Y) (Y1 ++ x :: Y2) := by
  obtain ⟨Y1, Y2, hS, hY1⟩ := cut_at Y (i - m) (by omega)
  have lY : Y.length = Y1.length + Y2.length := by rw [hS, List.length_append]
  have hf : ∀ y u, Y2 = y :: u → cmpC x y ≤ 0 := fun y u e => by
    have l2 : Y2.length = u.length + 1 := by rw [e, List.length_cons]
    have := hB (by omega)
    rw [getD_of (L := L) (P := P ++ ([x] ++ Y1)) (Q := u ++ Q) (x := y) (by rw [hL, hS, e]; simp) (by simp only [List.length_append, List.length_singleton]; omega)] at this
    rw [cmpC_tot.neg]
    omega
  refine ⟨Y1, Y2, hS, by omega, ?_⟩
  rw [hS] at hY
  have hx2 : SortedC (x :: Y2) := List.pairwise_cons.2 ⟨fun z hz => by
    cases h : Y2 with
    | nil => rw [h] at hz; cases hz
    | cons y u => exact cmpC_tot.trans _ _ _ (hf y u h) (head_le cmpC_tot (h ▸ hY.right) z (h ▸ hz)), hY.right⟩
  have := Stable.merge cmpC_tot (X1 := []) (X2 := [x]) (Y1 := Y1) (Y2 := Y2) (Z1 := Y1) (Z2 := x :: Y2) (by rw [List.nil_append]; exact List.pairwise_singleton _ _) hY (fun t z y s e => by cases t <;> cases e) (fun t y z s e1 e2 => by
    injection e2 with e2 _
    subst e2
    have l1 : Y1.length = t.length + 1 := by rw [e1, List.length_append, List.length_singleton]
    have := hA (by omega)
    rwa [getD_of (L := L) (P := P ++ ([x] ++ t)) (Q := Y2 ++ Q) (x := y) (by rw [hL, hS, e1]; simp) (by simp only [List.length_append, List.length_singleton]; omega)] at this) (by rw [List.nil_append]; exact Stable.self hY.left) (Stable.self hx2)
  rw [hS]
  exact this
/-- a sorted list, behind it one element: where that goes -/
theorem last_split {P X Q L : List Ud} {y : Ud} {a m i : Nat} (hL : L = P ++ (X ++ ([y] ++ Q))) (ha : a = P.length) (hm : m = a + X.length) (h1 : a ≤ i) (h2 : i ≤ m) (hX : SortedC X)
    (hA : a < i → ¬ cmpC y (L.getD (i - 1) Ud.zero) < 0) (hB : i < m → cmpC y (L.getD i Ud.zero) < 0) :
    ∃ X1 X2, X = X1 ++ X2 ∧ i = a + X1.length ∧ Stable cmpC (X ++ [y]) (X1 ++ y :: X2) := by
  obtain ⟨X1, X2, hS, hX1⟩ := cut_at X (i - a) (by omega)
  have lX : X.length = X1.length + X2.length := by rw [hS, List.length_append]
  refine ⟨X1, X2, hS, by omega, ?_⟩
  refine Stable.insert cmpC_tot (Stable.self (hS ▸ hX) |> fun h => (hS ▸ h : Stable cmpC X (X1 ++ X2))) (fun z hz => ?_) (fun z hz => ?_)
  · cases h : X2 with
    | nil => rw [h] at hz; cases hz
    | cons x u =>
      have l2 : X2.length = u.length + 1 := by rw [h, List.length_cons]
      have := hB (by omega)
      rw [getD_of (L := L) (P := P ++ X1) (Q := u ++ ([y] ++ Q)) (x := x) (by rw [hL, hS, h]; simp) (by simp only [List.length_append]; omega)] at this
      rw [hS] at hX
      exact cmpC_tot.lt_of_lt_le this (head_le cmpC_tot (h ▸ hX.right) z (h ▸ hz))
  · rcases last_cases X1 with e | ⟨t, x, e⟩
    · rw [e] at hz; cases hz
    · rw [e, List.getLast?_append, List.getLast?_singleton] at hz
      have hz : x = z := by simpa using hz
      subst hz
      have l1 : X1.length = t.length + 1 := by rw [e, List.length_append, List.length_singleton]
      have := hA (by omega)
      rwa [getD_of (L := L) (P := P ++ t) (Q := X2 ++ ([y] ++ Q)) (x := x) (by rw [hL, hS, e]; simp) (by simp only [List.length_append]; omega)] at this
end Go.Proofs.YtdgbkpoickbidaaGreatDoor.UdS
namespace Go.Proofs.YtdgbkpoickbidaaGreatDoor.UdS
open Go.RowKit

/-- what a merge leaves behind -/
def SymRes (B g c : Nat) (P S Q : List Ud) (w : World) (e : Ending) (w' : World) : Prop := e = .returned (.tuple #[]) ∧ ∃ Z, Stable cmpC S Z ∧ Arr w' B g c (P ++ (Z ++ Q)) ∧ w.grownBy w' (some g)
def OneIn (L : List Ud) (x : Ud) (m b i j : Nat) : Prop := (m < i → cmpC (L.getD (i - 1) Ud.zero) x < 0) ∧ (j < b → ¬ cmpC (L.getD j Ud.zero) x < 0)
/-- the element on its way -/
def WayIn (B g c a : Nat) (P Y1 R : List Ud) (x : Ud) (w wi : World) (k : Nat) (Ya Yb : List Ud) : Prop :=
  Y1 = Ya ++ Yb ∧ k = a + Ya.length ∧ Arr wi B g c (P ++ (Ya ++ x :: (Yb ++ R))) ∧ w.grownBy wi (some g)
theorem WayIn.ext {B g c a : Nat} {P Y1 R : List Ud} {x : Ud} {w wi wz : World} {k : Nat} {Ya Yb : List Ud} (h : WayIn B g c a P Y1 R x w wi k Ya Yb) (z : Ext wi wz) : WayIn B g c a P Y1 R x w wz k Ya Yb := ⟨h.1, h.2.1, h.2.2.1.ext z, h.2.2.2.trans (upd_ext z g)⟩
theorem WayIn.step {B g c a : Nat} {P Y1 R : List Ud} {x y : Ud} {w wi wj : World} {k k1 : Nat} {Ya Yb : List Ud} (h : WayIn B g c a P Y1 R x w wi k Ya (y :: Yb)) (ha : a = P.length) (hk : k1 = k + 1) {nx ny tx ty : Nat} (hx : nx = x.l.length) (hy : ny = y.l.length) (hx2 : tx = x.t.l.length) (hy2 : ty = y.t.l.length) (hz : Ext wi wj) :
    WayIn B g c a P Y1 R x w (put4 (put4 wj g k y ny ty) g k1 x nx tx) (k + 1) (Ya ++ [y]) Yb := by
  obtain ⟨h1, h2, h3, h4⟩ := h
  have e : P ++ (Ya ++ x :: (y :: Yb ++ R)) = (P ++ Ya) ++ x :: ([] ++ y :: (Yb ++ R)) := by simp
  have hf := h3.ext hz
  rw [e] at hf
  have h7 := hf.swapA (p := k) (q := k1) (by rw [List.length_append]; omega) (by rw [List.length_append, List.length_nil]; omega) hx hy hx2 hy2
  refine ⟨by rw [h1]; simp, by rw [List.length_append, List.length_singleton]; omega, ?_, (h4.trans (upd_ext hz g)).trans upd_swap⟩
  have e2 : P ++ (Ya ++ [y] ++ x :: (Yb ++ R)) = (P ++ Ya) ++ y :: ([] ++ x :: (Yb ++ R)) := by simp
  rw [e2]
  exact h7
set_option maxRecDepth 100000 in
set_option maxHeartbeats 8000000 in
theorem symOne_any (B g c n a m b : Nat) (P Y Q : List Ud) (x : Ud) (w : World) (ha : a = P.length) (hm : m = a + 1) (hb : b = m + Y.length) (hn : n = (P ++ ([x] ++ (Y ++ Q))).length) (hY : SortedC Y) (h : Arr w B g c (P ++ ([x] ++ (Y ++ Q)))) (hr : Rws w g ([x] ++ Y)) (hbig : n ≤ 1000000000) :
    Calls Tryz.prog 223 #[.slice (some ⟨g, 0, none⟩) n c, .int .i64 a, .int .i64 m, .int .i64 b, .func (.func 103) #[] #[]] w (SymRes B g c P ([x] ++ Y) Q w) := by
  have hnm := h.le
  rw [← hn] at hnm
  obtain ⟨L, hL⟩ : ∃ L, L = P ++ ([x] ++ (Y ++ Q)) := ⟨_, rfl⟩
  have hbn : b ≤ n := by rw [hb, hm, ha, hn]; simp only [List.length_append, List.length_singleton]; omega
  have HA := Lib.hid ha
  have HB := Lib.hid hb
  have HM := Lib.hid hm
  have HL := Lib.hid hL
  have HY := Lib.hid hY
  have HR := Lib.hid hr
  have HN : Hid (n = L.length) := Lib.hid (by rw [hL]; exact hn)
  have H : Hid (Arr w B g c L) := Lib.hid (by rw [hL]; exact h)
  have e1 : (m : Int) - (a : Int) = 1 := by omega
  have hmb : m ≤ b := by omega
  have ham : a < m := by omega
  clear ha hm hb hn hY h hr hL
  go_enter Tryz.func223, Tryz.ntmps223
  go_wp2
  go_loopg [10, 11] (b - m) (fun z u v wr => ∃ i j : Nat, z = j - i ∧ u = .int .i64 i ∧ v = .int .i64 j ∧ m ≤ i ∧ i ≤ j ∧ j ≤ b ∧ Hid (OneIn L x m b i j) ∧ Ext w wr)
  case atStart => exact ⟨m, b, rfl, rfl, rfl, Nat.le_refl _, hmb, Nat.le_refl _, Lib.hid ⟨fun h => absurd h (Nat.lt_irrefl _), fun h => absurd h (Nat.lt_irrefl _)⟩, Ext.refl _⟩
  case round =>
    obtain ⟨i, j, rfl, rfl, rfl, h1, h2, h3, HO, er⟩ := hrel
    by_cases hlt : i < j
    · obtain ⟨q, hq⟩ : ∃ q, q = (i + j) / 2 := ⟨_, rfl⟩
      have hqi : i ≤ q := by omega
      have hqj : q < j := by omega
      have hqq : ((i : Int) + (j : Int)) / 2 = (q : Int) := by omega
      have hA := H.out.ext er
      have hqL : q < L.length := by rw [← HN.out]; omega
      obtain ⟨py0, py1, py2, py3⟩ := hA.at hqL
      have hx := hA
      rw [HL.out] at hx
      obtain ⟨px0, px1, px2, px3⟩ := Arr.here (Q := Y ++ Q) hx HA.out
      have hmem : L.getD q Ud.zero ∈ [x] ++ Y := List.mem_append_right _ (by
        rw [HL.out]
        have := mem_mid (P := P ++ [x]) (X := Y) (R := Q) (i := q) (by rw [List.length_append, List.length_singleton, ← HA.out, ← HM.out]; omega) (by rw [List.length_append, List.length_singleton, ← HA.out, ← HM.out, ← HB.out]; omega)
        rwa [List.append_assoc] at this)
      have HMY := Lib.hid hmem
      obtain ⟨y, hy⟩ : ∃ y, y = L.getD q Ud.zero := ⟨_, rfl⟩
      rw [← hy] at py0 py1 py2 py3 HMY
      have HYQ := Lib.hid hy
      obtain ⟨nx, hnx⟩ : ∃ nx, nx = x.l.length := ⟨_, rfl⟩
      obtain ⟨tx, htx⟩ : ∃ tx, tx = x.t.l.length := ⟨_, rfl⟩
      obtain ⟨ny, hny⟩ : ∃ ny, ny = y.l.length := ⟨_, rfl⟩
      obtain ⟨ty, hty⟩ : ∃ ty, ty = y.t.l.length := ⟨_, rfl⟩
      rw [← hnx] at px0; rw [← htx] at px2
      rw [← hny] at py0; rw [← hty] at py2
      have HNX := Lib.hid hnx
      have HTX := Lib.hid htx
      have HNY := Lib.hid hny
      have HTY := Lib.hid hty
      have XE : Ext wr wr.drew := (Ext.refl wr).drew
      have HRX := Lib.hid (((HR.out x (by simp)).1.ext er).ext XE)
      have HRY := Lib.hid (((HR.out y HMY.out).1.ext er).ext XE)
      obtain ⟨v, hv⟩ : ∃ v, cmpC y x = v := ⟨_, rfl⟩
      have HV := Lib.hid hv
      have PY0 : ∀ z : Xt wr.drew, z.W.cell? ⟨g, q * 4, none⟩ = some (.slice y.A ny y.c) := fun z => (XE.trans z.x).cell py0
      have PY1 : ∀ z : Xt wr.drew, z.W.cell? ⟨g, q * 4 + 1, none⟩ = some (.int .u64 y.t.e) := fun z => (XE.trans z.x).cell py1
      have PY2 : ∀ z : Xt wr.drew, z.W.cell? ⟨g, q * 4 + 2, none⟩ = some (.slice y.t.A ty y.t.c) := fun z => (XE.trans z.x).cell py2
      have PY3 : ∀ z : Xt wr.drew, z.W.cell? ⟨g, q * 4 + 3, none⟩ = some (.int .i64 y.d) := fun z => (XE.trans z.x).cell py3
      have PX0 : ∀ z : Xt wr.drew, z.W.cell? ⟨g, a * 4, none⟩ = some (.slice x.A nx x.c) := fun z => (XE.trans z.x).cell px0
      have PX1 : ∀ z : Xt wr.drew, z.W.cell? ⟨g, a * 4 + 1, none⟩ = some (.int .u64 x.t.e) := fun z => (XE.trans z.x).cell px1
      have PX2 : ∀ z : Xt wr.drew, z.W.cell? ⟨g, a * 4 + 2, none⟩ = some (.slice x.t.A tx x.t.c) := fun z => (XE.trans z.x).cell px2
      have PX3 : ∀ z : Xt wr.drew, z.W.cell? ⟨g, a * 4 + 3, none⟩ = some (.int .i64 x.d) := fun z => (XE.trans z.x).cell px3
      clear hA hqL hx hmem hnx hny htx hty hv hy hq
      by_cases hv0 : v < 0
      · have zv : decide (v < 0) = true := by simpa using hv0
        go_upto_region 5 with fail
        refine wp_region_ord [0,0,0,6,14,0,0,96,224,511,1023] (.flo [0,1,2,3,4,5,6,7,8] (.one 9 (.flo [10] (.fin)))) (by kernel_rfl) (by kernel_rfl) (by intro _ _ d _ _ h; cases d <;> exact h) ?_
        (refine ord_flo (pick_cons rfl (pick_cons rfl (pick_cons rfl (pick_cons rfl (pick_cons rfl (pick_cons rfl (pick_cons rfl (pick_cons rfl (pick_cons rfl pick_nil))))))))) ?_; (repeat (go_big_quiet_step (fail))); refine wpQuiet_nil ?_; show ordWalk _ _ _ _ _ _ _)
        refine ord_one (pick_cons rfl pick_nil) ?_; intro K_ hK_
        go_wp2_with (go_at_call 103; refine (order_any y x ny nx ty tx v _ HV HNY HNX HTY HTX HRY HRX).mono ?_; rintro e w1 ⟨rfl, x1⟩)
        (refine ord_flo (pick_cons rfl pick_nil) ?_; (repeat (go_big_quiet_step (fail))); refine wpQuiet_nil ?_; show ordWalk _ _ _ _ _ _ _)
        refine ord_fin ?_
        go_wp2
        go_roundg (j - (q + 1))
        case measure => omega
        case rel => exact ⟨q + 1, j, rfl, by go_num, rfl, by omega, by omega, h3, Lib.hid ⟨fun _ => by rw [Nat.add_sub_cancel, ← HYQ.out]; show cmpC y x < 0; rw [HV.out]; exact hv0, HO.out.2⟩, er.trans (XE.trans x1)⟩
      · have zv : decide (v < 0) = false := by simpa using hv0
        go_upto_region 5 with fail
        refine wp_region_ord [0,0,0,6,14,0,0,96,224,511,1023] (.flo [0,1,2,3,4,5,6,7,8] (.one 9 (.flo [10] (.fin)))) (by kernel_rfl) (by kernel_rfl) (by intro _ _ d _ _ h; cases d <;> exact h) ?_
        (refine ord_flo (pick_cons rfl (pick_cons rfl (pick_cons rfl (pick_cons rfl (pick_cons rfl (pick_cons rfl (pick_cons rfl (pick_cons rfl (pick_cons rfl pick_nil))))))))) ?_; (repeat (go_big_quiet_step (fail))); refine wpQuiet_nil ?_; show ordWalk _ _ _ _ _ _ _)
        refine ord_one (pick_cons rfl pick_nil) ?_; intro K_ hK_
        go_wp2_with (go_at_call 103; refine (order_any y x ny nx ty tx v _ HV HNY HNX HTY HTX HRY HRX).mono ?_; rintro e w1 ⟨rfl, x1⟩)
        (refine ord_flo (pick_cons rfl pick_nil) ?_; (repeat (go_big_quiet_step (fail))); refine wpQuiet_nil ?_; show ordWalk _ _ _ _ _ _ _)
        refine ord_fin ?_
        go_wp2
        go_roundg (q - i)
        case measure => omega
        case rel => exact ⟨i, q, rfl, rfl, rfl, h1, hqi, by omega, Lib.hid ⟨HO.out.1, fun _ => by rw [← HYQ.out]; show ¬ cmpC y x < 0; rw [HV.out]; omega⟩, er.trans (XE.trans x1)⟩
    · obtain rfl : i = j := by omega
      obtain ⟨Y1, Y2, k1, k2, k3⟩ := one_split HL.out HA.out HM.out HB.out h1 h3 HY.out HO.out.1 HO.out.2
      have HK := Lib.hid k3
      have HY1 := Lib.hid k1
      have HI2 := Lib.hid k2
      have HW : Hid (WayIn B g c a P Y1 (Y2 ++ Q) x w wr a [] Y1) := Lib.hid ⟨rfl, rfl, by
        have := H.out.ext er
        rw [HL.out, k1] at this
        simpa using this, upd_ext er g⟩
      have hi1 : (i : Int) - 1 = ((i - 1 : Nat) : Int) := by omega
      have hi2 : i - 1 = a + Y1.length := by have := HM.out; omega
      have HI3 := Lib.hid hi2
      clear k1 k2 k3 hi2 HO
      obtain ⟨wo, hwo⟩ : ∃ wo : World, wo = wr := ⟨_, rfl⟩
      rw [← hwo] at HW er ⊢
      clear hwo
      go_wp2
      go_loopg [13] (i - 1 - a) (fun z u wr => ∃ (k : Nat) (Ya Yb : List Ud), z = i - 1 - k ∧ u = .int .i64 k ∧ a ≤ k ∧ k ≤ i - 1 ∧ Hid (WayIn B g c a P Y1 (Y2 ++ Q) x w wr k Ya Yb))
      case atStart => exact ⟨a, [], Y1, rfl, rfl, Nat.le_refl _, by omega, HW⟩
      case round =>
        obtain ⟨k, Ya, Yb, rfl, rfl, hk1, hk2, HJ⟩ := hrel
        clear HW
        by_cases hkl : k < i - 1
        · obtain ⟨y, Yb, rfl⟩ := cons_of (l := Yb) (by
            obtain ⟨q1, q2, _⟩ := HJ.out
            have := HI3.out
            rw [q1, List.length_append] at this
            omega)
          have hf := HJ.out.2.2.1
          have e2 : P ++ (Ya ++ x :: (y :: Yb ++ (Y2 ++ Q))) = (P ++ Ya) ++ x :: (y :: (Yb ++ (Y2 ++ Q))) := by simp
          rw [e2] at hf
          have hkP : k = (P ++ Ya).length := by rw [List.length_append, ← HA.out]; exact HJ.out.2.1
          obtain ⟨px0, px1, px2, px3⟩ := hf.here hkP
          have e3 : (P ++ Ya) ++ x :: (y :: (Yb ++ (Y2 ++ Q))) = (P ++ Ya ++ [x]) ++ y :: (Yb ++ (Y2 ++ Q)) := by simp
          have hf2 := hf
          rw [e3] at hf2
          obtain ⟨py0, py1, py2, py3⟩ := hf2.here (p := k + 1) (by rw [List.length_append, ← hkP, List.length_singleton])
          have f0 := hf.free (k * 4)
          have f0b := hf.free (k * 4 + 1)
          have f1 := hf.free (k * 4 + 2)
          have f1b := hf.free (k * 4 + 3)
          have f2 := hf.free ((k + 1) * 4)
          have f2b := hf.free ((k + 1) * 4 + 1)
          have f3 := hf.free ((k + 1) * 4 + 2)
          have f3b := hf.free ((k + 1) * 4 + 3)
          obtain ⟨nx, hnx⟩ : ∃ nx, nx = x.l.length := ⟨_, rfl⟩
          obtain ⟨tx, htx⟩ : ∃ tx, tx = x.t.l.length := ⟨_, rfl⟩
          obtain ⟨ny, hny⟩ : ∃ ny, ny = y.l.length := ⟨_, rfl⟩
          obtain ⟨ty, hty⟩ : ∃ ty, ty = y.t.l.length := ⟨_, rfl⟩
          rw [← hnx] at px0; rw [← htx] at px2
          rw [← hny] at py0; rw [← hty] at py2
          have HNX := Lib.hid hnx
          have HTX := Lib.hid htx
          have HNY := Lib.hid hny
          have HTY := Lib.hid hty
          have XE : Ext wr wr.drew := (Ext.refl wr).drew
          have PY0 : ∀ z : Xt wr.drew, z.W.cell? ⟨g, (k + 1) * 4, none⟩ = some (.slice y.A ny y.c) := fun z => (XE.trans z.x).cell py0
          have PY1 : ∀ z : Xt wr.drew, z.W.cell? ⟨g, (k + 1) * 4 + 1, none⟩ = some (.int .u64 y.t.e) := fun z => (XE.trans z.x).cell py1
          have PY2 : ∀ z : Xt wr.drew, z.W.cell? ⟨g, (k + 1) * 4 + 2, none⟩ = some (.slice y.t.A ty y.t.c) := fun z => (XE.trans z.x).cell py2
          have PY3 : ∀ z : Xt wr.drew, z.W.cell? ⟨g, (k + 1) * 4 + 3, none⟩ = some (.int .i64 y.d) := fun z => (XE.trans z.x).cell py3
          have PX0 : ∀ z : Xt wr.drew, z.W.cell? ⟨g, k * 4, none⟩ = some (.slice x.A nx x.c) := fun z => (XE.trans z.x).cell px0
          have PX1 : ∀ z : Xt wr.drew, z.W.cell? ⟨g, k * 4 + 1, none⟩ = some (.int .u64 x.t.e) := fun z => (XE.trans z.x).cell px1
          have PX2 : ∀ z : Xt wr.drew, z.W.cell? ⟨g, k * 4 + 2, none⟩ = some (.slice x.t.A tx x.t.c) := fun z => (XE.trans z.x).cell px2
          have PX3 : ∀ z : Xt wr.drew, z.W.cell? ⟨g, k * 4 + 3, none⟩ = some (.int .i64 x.d) := fun z => (XE.trans z.x).cell px3
          clear hf hf2 e2 e3 hkP hnx hny htx hty
          go_upto_region 11 with fail
          refine wp_region_ord [0,0,0,0,8,0,0,64,224,480,0,0,3072,7168,16355,32739,65535,131071] (.flo [0,1,5,6,7,8,9,10,11,12,13,14] (.pur [2,3,4] (.one 15 (.flo [16] (.one 17 (.fin)))))) (by kernel_rfl) (by kernel_rfl) (by intro _ _ d _ _ h; cases d <;> exact h) ?_
          (refine ord_flo (pick_cons rfl (pick_cons rfl (pick_cons rfl (pick_cons rfl (pick_cons rfl (pick_cons rfl (pick_cons rfl (pick_cons rfl (pick_cons rfl (pick_cons rfl (pick_cons rfl (pick_cons rfl pick_nil)))))))))))) ?_; (repeat (go_big_quiet_step (fail))); refine wpQuiet_nil ?_; show ordWalk _ _ _ _ _ _ _)
          (refine ord_pur (pick_cons rfl (pick_cons rfl (pick_cons rfl pick_nil))) ?_; (repeat (go_big_quiet_step (fail))); refine wpQuiet_nil ?_; show ordWalk _ _ _ _ _ _ _)
          refine ord_one (pick_cons rfl pick_nil) ?_; intro K_ hK_
          go_wp2
          (refine ord_flo (pick_cons rfl pick_nil) ?_; (repeat (go_big_quiet_step (fail))); refine wpQuiet_nil ?_; show ordWalk _ _ _ _ _ _ _)
          refine ord_one (pick_cons rfl pick_nil) ?_; intro K_ hK_
          go_wp2
          refine ord_fin ?_
          go_wp2
          go_roundg (i - 1 - (k + 1))
          case measure => omega
          case rel => exact ⟨k + 1, Ya ++ [y], Yb, rfl, by go_num, by omega, by omega, Lib.hid ((HJ.out.step HA.out rfl HNX.out HNY.out HTX.out HTY.out (Ext.refl _)).ext (Ext.refl _).drew)⟩
        · obtain rfl : k = i - 1 := by omega
          have HE : Hid (Yb = []) := Lib.hid (by
            obtain ⟨q1, q2, _⟩ := HJ.out
            have := HI3.out
            rw [q1, List.length_append] at this
            exact List.eq_nil_of_length_eq_zero (by omega))
          go_wp2
          refine bodyPost_ret (v := .tuple #[]) (by simp only [results, Tryz.results223]; go_simp) rfl ?_
          obtain ⟨q1, q2, q3, q4⟩ := HJ.out
          rw [HE.out] at q1 q3
          rw [List.append_nil] at q1
          refine ⟨rfl, Y1 ++ x :: Y2, HK.out, ?_, q4⟩
          rw [q1]
          simpa using q3
end Go.Proofs.YtdgbkpoickbidaaGreatDoor.UdS
