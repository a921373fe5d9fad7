/- (*chain.Counts).Update: counts change; how the frontier does. Conditions: the map holds the changes L; what comes in is as readings give it; the library's table stands. -/
import Derived.Test.YtmdakaflmheidaaGreatDoorChFront
import Derived.Test.YtmdakaflmheidaaGreatDoorChTell
import Derived.Test.YtmdakaflmheidaaGreatDoorChMapU
import Derived.Test.YtmdakaflmheidaaGreatDoorSortC
import Derived.Test.YtmdakaflmheidaaGreatDoorOrd
namespace Go.Proofs.YtmdakaflmheidaaGreatDoor
open Go.RowKit

/-! ### plain -/
def addAll (D : List CV) (l : List CV) : List CV := l.foldl addC D
theorem addAll_take {D l : List CV} {k : Nat} (h : k < l.length) : addAll D (l.take (k + 1)) = addC (addAll D (l.take k)) l[k] := by
  unfold addAll
  rw [List.take_succ_eq_append_getElem h, List.foldl_append]; rfl
theorem told_map (L M : List Tm) (d : Int) : (toldK L M d L.length).map Cg.cv = ((L.map Tm.v).filter fun t => !(decide (t ∈ M.map Tm.v))).map fun t => (t, d) := by
  unfold toldK
  rw [List.take_length, List.filter_map, List.map_map, List.map_map]
  have e : ((fun t => !(decide (t ∈ M.map Tm.v))) ∘ Tm.v) = fun x : Tm => !inL M x.v := by
    funext x
    show (!(decide (x.v ∈ M.map Tm.v))) = !inL M x.v
    congr 1
    rw [Bool.eq_iff_iff, inL_iff, decide_eq_true_iff]
  rw [e]
  rfl
theorem moved_of {was now : List TV} (hw : Rising was) (hn : Rising now) {R : List Cg} (hp : (R.map Cg.cv).Perm (movedL was now)) (hs : R.Pairwise fun x y => tcmp x.t.v y.t.v ≤ 0) : R.map Cg.cv = movedV was now := by
  refine moved_unique hw hn ?_ fun x => hp.mem_iff
  have hk : KeysC (R.map Cg.cv) := by
    have h1 := movedL_keys hw hn
    unfold KeysC at *
    exact (hp.pairwise_iff (fun {x y} (h : x.1 ≠ y.1) => Ne.symm h)).2 h1
  unfold RisingC KeysC at *
  rw [List.pairwise_map] at *
  refine List.Pairwise.imp₂ (fun {x y} a b => ?_) hs hk
  have h0 : tcmp x.t.v y.t.v ≠ 0 := fun e => b (tcmp_zero.1 e)
  show tcmp x.t.v y.t.v < 0
  omega
theorem upd_turn {w w' : World} {b : Nat} (u : Upd (fun k => k = b) w w') : w.grownBy w' (some b) := ⟨u.os, u.tape, u.output, u.size, fun i hi hne => u.block i hi (fun e => hne (by rw [e]))⟩
theorem MapC.mono {w : World} {b n n' : Nat} {D : DataW Value} {L : List Cg} (h : MapC w b n D L) (hn : n ≤ n') : MapC w b n' D L := ⟨h.own.mono hn, h.has, h.atk, h.keys, h.ls, h.inv, Nat.le_trans h.cnt hn⟩
theorem turn_upd {w w' : World} {b : Nat} (u : w.mapTurned w' b) : Upd (fun k => k = b) w w' := (Upd.refl _ w).grown u.grown (fun k hk => .inl (by injection hk with hk; exact hk.symm))
theorem insT_len (v : TV) : ∀ M, (insT v M).length ≤ M.length + 1
  | [] => Nat.le_refl _
  | m :: r => by
    unfold insT
    split
    · exact Nat.le_refl _
    · split
      · exact Nat.le_succ _
      · have := insT_len v r
        simp only [List.length_cons]
        omega
theorem ofV_len (L : List TV) : (ofV L).length ≤ L.length := by
  have key : ∀ L : List TV, (L.foldr insT []).length ≤ L.length := by
    intro L
    induction L with
    | nil => exact Nat.le_refl _
    | cons v L ih =>
      rw [List.foldr_cons]
      have := insT_len v (L.foldr insT [])
      rw [List.length_cons]
      omega
  unfold ofV
  exact Nat.le_trans (key _) (List.length_filter_le _ _)
theorem live_len (D : List CV) : (liveV D).length ≤ D.length := by unfold liveV; rw [List.length_map]; exact List.length_filter_le _ _
/-- the blocks in which the counts' counters lie -/
def FootC (L : List Cg) (k : Nat) : Prop := ∃ x ∈ L, blk x.t.A x.t.c = some k
/-- what Update answers -/
structure UpdOutI (w : World) (bm n m : Nat) (L Ch : List Cg) (A : Option Addr) (c q : Nat) (R : List Cg) (D' : DataW Value) (L' : List Cg) (w' : World) : Prop where
  len : q = R.length
  out : Cin w' A c R
  is : R.map Cg.cv = movedV (ofV (liveV (L.map Cg.cv))) (ofV (liveV (addAll (L.map Cg.cv) (Ch.map Cg.cv))))
  map : MapC w' bm (n + m) D' L'
  now : L'.map Cg.cv = addAll (L.map Cg.cv) (Ch.map Cg.cv)
  upd : Upd (fun k => k = bm) w w'
  foot : ∀ k, FootC L' k → FootC L k ∨ w.heap.size ≤ k
def UpdOut (w : World) (bm n m : Nat) (L Ch : List Cg) (e : Ending) (w' : World) : Prop := ∃ A c q R D' L', e = .returned (.slice A q c) ∧ UpdOutI w bm n m L Ch A c q R D' L' w'
set_option maxRecDepth 100000 in
set_option maxHeartbeats 16000000 in
theorem update_any (w00 : World) (gc bm n : Nat) (D : DataW Value) (L : List Cg) (AC : Option Addr) (cC m : Nat) (Ch : List Cg) (w : World) (G : Pow w00) (X00 : Hid (Ext w00 w)) (hbm : Hid (w00.heap.size ≤ bm)) (hc : Hid (Bk w gc 72 #[.map (some bm)])) (hM : Hid (MapC w bm n D L))
    (hm : Hid (m = Ch.length)) (hC : Hid (Cin w AC cC Ch)) (hV : Hid (∀ x ∈ Ch, InV x.t.v)) (hn : n ≤ 10000) (hm9 : m ≤ 10000) :
    Calls Tryz.prog 7 #[.pointer (some ⟨gc, 0, none⟩), .slice AC m cC] w (UpdOut w bm n m L Ch) := by
  have HB : Hid (bm < w.heap.size) := Lib.hid hM.out.own.lt
  have HMap := Lib.hid (owns_map hM.out.own)
  have HGC : Hid (gc ≠ bm) := Lib.hid (fun e => by
    obtain ⟨es, cl, h⟩ := HMap.out
    have h2 := hc.out
    unfold Bk at h2
    rw [e, h] at h2
    cases h2)
  go_enter Tryz.func7, Tryz.ntmps7
  go_wp2_with (first
    | (go_at_call 9; go_loud (refine (frontier_any gc bm n D L _ hc hM (by omega)).mono ?_); rintro r w1 ⟨A1, c1, n1, M1, rfl, h1, t1, v1, x1⟩; have HN1 := Lib.hid h1; have HT1 := Lib.hid t1; have HV1 := Lib.hid v1; have X1 := Lib.hid x1; clear h1 t1 v1 x1))
  go_loopg [17] m (fun z v17 wr => ∃ (k : Nat) (D' : DataW Value) (L' : List Cg), z = m - k ∧ k ≤ m ∧ v17 = .int .i64 k ∧ Hid (MapC wr bm (n + k) D' L') ∧ Hid (L'.map Cg.cv = addAll (L.map Cg.cv) ((Ch.map Cg.cv).take k)) ∧ Hid (Upd (fun b => b = bm) w1 wr) ∧ Hid (∀ k, FootC L' k → FootC L k ∨ w.heap.size ≤ k))
  case atStart => exact ⟨0, D, L, rfl, Nat.zero_le _, rfl, Lib.hid (hM.out.ext X1.out), Lib.hid (by simp [addAll]), Lib.hid (Upd.refl _ _), Lib.hid (fun k hk => .inl hk)⟩
  case round =>
    obtain ⟨k, D', L', rfl, hk, rfl, HMr, HLr, HU, HF⟩ := hrel
    have HUw : Hid (Upd (fun b => b = bm) w wr) := Lib.hid ((Upd.ext X1.out).trans HU.out)
    have HX0 : Hid (Ext w00 wr) := Lib.hid (ext_upd X00.out HUw.out (fun k hk => by rw [hk]; exact hbm.out))
    have HCr : Hid (Bk wr gc 72 #[.map (some bm)]) := Lib.hid (bk_upd hc.out HUw.out HGC.out)
    have HCin : Hid (Cin wr AC cC Ch) := Lib.hid ⟨hC.out.sl.turned (upd_turn HUw.out) HMap.out, fun x hx => (hC.out.ls x hx).turned (upd_turn HUw.out) HMap.out⟩
    by_cases hlt : k < m
    · have hkL : k < Ch.length := by rw [← hm.out]; exact hlt
      obtain ⟨ad, rfl, q0, q1, q2⟩ := HCin.out.at (i := k) hkL
      have hmem := getG_mem hkL
      have HXS : Hid (Sl wr 1 (Ch.getD k Cg.zero).t.A (Ch.getD k Cg.zero).t.l.length (Ch.getD k Cg.zero).t.c (wds (Ch.getD k Cg.zero).t.l)) := Lib.hid (HCin.out.ls _ hmem)
      have hinv := hV.out _ hmem
      have hcv := getG_cv hkL
      obtain ⟨x, hx⟩ : ∃ x, Ch.getD k Cg.zero = x := ⟨_, rfl⟩
      rw [hx] at q0 q1 q2 HXS hinv hcv
      have HI := Lib.hid hinv
      have HCV := Lib.hid hcv
      clear hx hmem hinv hcv hkL
      obtain ⟨⟨e, Ax, cx, l⟩, d⟩ := x
      obtain ⟨nx, hnx⟩ : ∃ nx, l.length = nx := ⟨_, rfl⟩
      have HNX := Lib.hid hnx
      replace q0 : wr.cell? (ad.add (k * 3)) = some (.int .u64 e) := q0
      replace q1 : wr.cell? ⟨(ad.add (k * 3)).block, (ad.add (k * 3)).off + 1, none⟩ = some (.slice Ax l.length cx) := q1
      replace q2 : wr.cell? ⟨(ad.add (k * 3)).block, (ad.add (k * 3)).off + 2, none⟩ = some (.int .i64 d) := q2
      replace HXS : Hid (Sl wr 1 Ax l.length cx (wds l)) := HXS
      replace HI : Hid (InV (e, l)) := HI
      rw [hnx] at q1 HXS
      have hnx9 : nx ≤ 1000 := by rw [← hnx]; exact HI.out.n
      clear hnx
      obtain ⟨S, hS⟩ : ∃ S, prT e l = S := ⟨_, rfl⟩
      have HS := Lib.hid hS
      have hprint : ∀ W, Ext wr W → Calls Tryz.prog 35 #[.agg #[.int .u64 e, .slice Ax nx cx]] W fun r w' => r = .returned (.string S) ∧ Ext W w' := fun W y => hS ▸ print_any e Ax nx cx l W (HXS.out.ext y) HI.out.u HI.out.e (by omega) (G.ext (HX0.out.trans y))
      have HP := Lib.hid hprint
      clear hprint hS
      obtain ⟨y, hy⟩ : ∃ y, atC L' (e, l) = y := ⟨_, rfl⟩
      have hlook : ∀ W, Ext wr W → (Instr.lookup 70 (.map (some bm)) (.string S) false).run Tryz.prog W = .ok (cgV y) W := fun W z => by rw [← hy, ← HS.out]; exact (HMr.out.ext z).look HI.out
      have HY := Lib.hid hy
      clear hy
      obtain ⟨⟨ye, yA, yc, yl⟩, yd⟩ := y
      obtain ⟨yn, hyn⟩ : ∃ yn, yl.length = yn := ⟨_, rfl⟩
      unfold cgV at hlook
      simp only [hyn] at hlook
      have HLk := Lib.hid hlook
      clear hlook hyn
      obtain ⟨nn, hnn⟩ : ∃ nn, IntKind.i64.wrap (d + yd) = nn := ⟨_, rfl⟩
      have hw64 : wrap64 (d + yd) = nn := by rw [← hnn, IntKind.wrap_i64]; unfold wrap64; omega
      have HNN : Hid (IntKind.i64.wrap (d + yd) = nn) := Lib.hid hnn
      have XY : Hid (Ext wr (wr.alloc (.cells #[.int .u64 e, .slice Ax nx cx, .int .i64 d] 29))) := Lib.hid ((Ext.refl _).alloc _)
      have BX : Hid (Bk (wr.alloc (.cells #[.int .u64 e, .slice Ax nx cx, .int .i64 d] 29)) wr.heap.size 29 #[.int .u64 e, .slice Ax nx cx, .int .i64 d]) := Lib.hid (Bk.new wr _ _)
      go_wp2_with (first
        | (go_at_call 35; go_loud (refine (HP.out _ XY.out).mono ?_); rintro r w3 ⟨rfl, x3⟩; have X3 : Hid (Ext wr w3) := Lib.hid (XY.out.trans x3); have B3 : Hid (Bk w3 wr.heap.size 29 #[.int .u64 e, .slice Ax nx cx, .int .i64 d]) := Lib.hid (BX.out.ext x3); clear x3))
      have X : Ext w3 w3.drew := (Ext.refl w3).drew
      have y0 : ∀ y : Xt w3.drew, y.W.cell? ⟨wr.heap.size, 2, none⟩ = some (.int .i64 d) := fun y => (B3.out.ext (X.trans y.x)).cell 2
      have y1 : ∀ y : Xt w3.drew, y.W.cell? ⟨gc, 0, none⟩ = some (.map (some bm)) := fun y => (HCr.out.ext ((X3.out.trans X).trans y.x)).cell 0
      have y2 : ∀ y : Xt w3.drew, (Instr.lookup 70 (.map (some bm)) (.string S) false).run Tryz.prog y.W = .ok (.agg #[.int .u64 ye, .slice yA yn yc, .int .i64 yd]) y.W := fun y => HLk.out _ ((X3.out.trans X).trans y.x)
      have y3 : ∀ w : World, (Instr.field 29 (.agg #[.int .u64 ye, .slice yA yn yc, .int .i64 yd]) 1).run Tryz.prog w = .ok (.int .i64 yd) w := fun _ => by kernel_rfl
      clear q0 q1 q2
      refine wp_region_ord [0,1,0,4,12,28,0,124,252,511,1023] (.flo [0,1,2,3,4,5,6,7,8,9,10] (.fin)) (by kernel_rfl) (by kernel_rfl) (by intro _ _ d _ _ h; cases d <;> exact h) ?_
      (refine ord_flo (pick_cons rfl (pick_cons rfl (pick_cons rfl (pick_cons rfl (pick_cons rfl (pick_cons rfl (pick_cons rfl (pick_cons rfl (pick_cons rfl (pick_cons rfl (pick_cons rfl pick_nil))))))))))) ?_; (repeat (go_big_quiet_step (fail))); refine wpQuiet_nil ?_; show ordWalk _ _ _ _ _ _ _)
      refine ord_fin ?_
      clear y0 y1 y2 y3 hnn hw64
      have XD : Hid (Ext wr w3.drew) := Lib.hid (X3.out.trans X)
      have hkey : Hid (keyOf Tryz.prog 9 (.string S) = some (keyT (e, l))) := Lib.hid (by rw [← HS.out]; exact keyOf_prT (e, l) HI.out)
      have HYD : Hid (IntKind.i64.wrap (d + (atC L' (e, l)).d) = nn) := Lib.hid (by rw [HY.out]; exact HNN.out)
      have hgc : w3.drew.cell? ⟨gc, 0, none⟩ = some (.map (some bm)) := (HCr.out.ext XD.out).cell 0
      by_cases h0 : nn = 0
      · subst h0
        go_wp2_with (first
          | (at_delete; go_loud (refine wpList_delete_own _ rfl _ _ 70 9 rfl 29 keyedS Tryz.underlying70 tok bm (n + k) D' rfl (HMr.out.ext XD.out).own (.string S) (keyT (e, l)) rfl hkey.out ?_); intro w5 hown5 hturn5; have HO5 := Lib.hid hown5; have HT5 := Lib.hid hturn5; clear hown5 hturn5))
        go_roundg (m - (k + 1))
        case measure => omega
        case rel =>
          obtain ⟨h1, h2⟩ := HCV.out
          refine ⟨k + 1, _, _, by omega, by omega, by go_num, Lib.hid (((HMr.out.ext XD.out).del HI.out HO5.out HT5.out).mono (by omega)), Lib.hid ?_, Lib.hid ((HU.out.trans (Upd.ext XD.out)).trans (turn_upd HT5.out)), Lib.hid ?_⟩
          · rw [addC_map0 L' (e, l) d HYD.out, HLr.out, addAll_take h1, h2]
            rfl
          · rintro b ⟨x, hx, hb⟩
            exact HF.out b ⟨x, (List.mem_filter.1 hx).1, hb⟩
      · have hne : (nn == 0) = false := by simpa using h0
        have H0 := Lib.hid h0
        clear h0
        go_wp2
        obtain ⟨w4, hw4⟩ : ∃ w4, w4 = w3.drew := ⟨_, rfl⟩
        rw [← hw4] at XD ⊢
        have B4 : Bk w4 wr.heap.size 29 #[.int .u64 e, .slice Ax nx cx, .int .i64 d] := by rw [hw4]; exact B3.out.ext X
        have HB4 := Lib.hid B4
        clear B4 hgc hw4 X
        have X : Ext w4 w4.drew := (Ext.refl w4).drew
        have y0 : ∀ y : Xt w4.drew, y.W.cell? ⟨wr.heap.size, 0, none⟩ = some (.int .u64 e) := fun y => (HB4.out.ext (X.trans y.x)).cell 0
        have y1 : ∀ y : Xt w4.drew, y.W.cell? ⟨wr.heap.size, 1, none⟩ = some (.slice Ax nx cx) := fun y => (HB4.out.ext (X.trans y.x)).cell 1
        have y2 : ∀ y : Xt w4.drew, y.W.cell? ⟨gc, 0, none⟩ = some (.map (some bm)) := fun y => (HCr.out.ext ((XD.out.trans X).trans y.x)).cell 0
        refine wp_region_ord [0,1,3,7,0,0,32,96,0,480,1023] (.flo [0,1,2,3,4,5,6,8] (.ext 7 (.flo [9] (.one 10 (.fin))))) (by kernel_rfl) (by kernel_rfl) (by intro _ _ d _ _ h; cases d <;> exact h) ?_
        (refine ord_flo (pick_cons rfl (pick_cons rfl (pick_cons rfl (pick_cons rfl (pick_cons rfl (pick_cons rfl (pick_cons rfl (pick_cons rfl pick_nil)))))))) ?_; (repeat (go_big_quiet_step (fail))); refine wpQuiet_nil ?_; show ordWalk _ _ _ _ _ _ _)
        refine ord_ext (pick_cons rfl pick_nil) ?_; intro K_ hK_
        go_wp2_with (first
          | (go_at_call 36; go_loud (refine (copied_any e Ax nx cx l _ (Lib.hid (HXS.out.ext (XD.out.trans X))) (by omega)).mono ?_); rintro r w5 ⟨A5, c5, rfl, o5, x5⟩; have HO5 := Lib.hid o5; have X5 := Lib.hid x5; clear o5 x5))
        refine ordNext.mk X5.out ?_
        (refine ord_flo (pick_cons rfl pick_nil) ?_; (repeat (go_big_quiet_step (fail))); refine wpQuiet_nil ?_; show ordWalk _ _ _ _ _ _ _)
        refine ord_one (pick_cons rfl pick_nil) ?_; intro K_ hK_
        have hcg : cgV ⟨⟨e, A5, c5, l⟩, nn⟩ = .agg #[.int .u64 e, .slice A5 nx c5, .int .i64 nn] := by rw [← HNX.out]; rfl
        have HCG := Lib.hid hcg
        clear hcg
        have XE : Hid (Ext wr w5) := Lib.hid ((XD.out.trans X).trans X5.out)
        go_wp2_with (first
          | (at_mapUpdate; go_loud (refine wpList_mapUpdate_in _ rfl _ _ _ 70 rfl 9 29 keyedS Tryz.underlying70 tok bm (n + k) D' rfl (HMr.out.ext XE.out).own (by unfold maxLen; omega) (.string S) (cgV ⟨⟨e, A5, c5, l⟩, nn⟩) (keyT (e, l)) rfl (by rw [HCG.out]; rfl) hkey.out (.held (cgV ⟨⟨e, A5, c5, l⟩, nn⟩)) [] rfl ?_); intro w6 hown6 hturn6; have HO6 := Lib.hid hown6; have HT6 := Lib.hid hturn6; clear hown6 hturn6))
        refine ord_fin ?_
        go_simp
        go_wp2
        go_roundg (m - (k + 1))
        case measure => omega
        case rel =>
          obtain ⟨h1, h2⟩ := HCV.out
          refine ⟨k + 1, _, _, by omega, by omega, by go_num, Lib.hid ((HMr.out.ext XE.out).put (x := ⟨⟨e, A5, c5, l⟩, nn⟩) HI.out HO6.out HT6.out (by show Sl w5 1 A5 l.length c5 (wds l); rw [HNX.out]; exact HO5.out.sl)), Lib.hid ?_, Lib.hid ((HU.out.trans (Upd.ext XE.out)).trans (turn_upd HT6.out)), Lib.hid ?_⟩
          · rw [addC_map L' ⟨⟨e, A5, c5, l⟩, nn⟩ d HYD.out H0.out, HLr.out, addAll_take h1, h2]
            rfl
          · rintro b ⟨x, hx, hb⟩
            rcases List.mem_append.1 hx with hx | hx
            · exact HF.out b ⟨x, (List.mem_filter.1 hx).1, hb⟩
            · rw [List.mem_singleton] at hx
              subst hx
              have a := (HO5.out.lt b hb).1
              have c := XD.out.size
              have c2 := X.size
              have c3 := HUw.out.size
              exact .inr (by omega)
    · obtain rfl : k = m := by omega
      have HLf : Hid (L'.map Cg.cv = addAll (L.map Cg.cv) (Ch.map Cg.cv)) := Lib.hid (by have := HLr.out; rwa [show k = (Ch.map Cg.cv).length by rw [List.length_map]; exact hm.out, List.take_length] at this)
      have HT1r : Hid (Tout wr w.heap.size A1 c1 M1) := Lib.hid (HT1.out.upd HU.out (fun b hb q => by have := HB.out; omega))
      have hn1m : n1 ≤ 10000 := by
        have a : M1.length = (ofV (liveV (L.map Cg.cv))).length := by rw [← HV1.out, List.length_map]
        have b := ofV_len (liveV (L.map Cg.cv))
        have c := live_len (L.map Cg.cv)
        rw [List.length_map] at c
        have d := hM.out.cnt
        have e := HN1.out
        omega
      have m1 : True := trivial
      go_wp2_with (first
        | (go_at_call 9; go_loud (refine (frontier_any gc bm (n + k) D' L' _ HCr HMr (by omega)).mono ?_); rintro r w5 ⟨A2, c2, n2, M2, rfl, h2, t2, v2, x2⟩; have HN2 := Lib.hid h2; have HT2 := Lib.hid t2; have HV2 := Lib.hid v2; have X2 := Lib.hid x2; clear h2 t2 v2 x2; have hn2m : n2 ≤ 20000 := (by have a : M2.length = (ofV (liveV (L'.map Cg.cv))).length := (by rw [← HV2.out, List.length_map]); have b := ofV_len (liveV (L'.map Cg.cv)); have c := live_len (L'.map Cg.cv); rw [List.length_map] at c; have d := HMr.out.cnt; have e := HN2.out; omega); have HTi1 : Hid (Tin w5 A1 c1 M1) := Lib.hid (HT1r.out.tin.ext X2.out); have HTi2 : Hid (Tin w5 A2 c2 M2) := Lib.hid HT2.out.tin; have BO : Hid (Bk (w5.alloc (.cells #[.slice none 0 0] 27)) w5.heap.size 27 #[.slice none 0 0]) := Lib.hid (Bk.new _ _ _))
        | (go_at_call 37; have mk := m1; clear m1 mk; go_loud (refine (tell_any w5 w5.heap.size (w5.heap.size + 1) A1 A2 c1 c2 n1 n2 M1 M2 (-1) none 0 0 [] _ HN1 HN2 HTi1 HTi2 (Lib.hid ((Ext.refl _).alloc _)) (Lib.hid (Nat.le_refl _)) (Lib.hid (Nat.lt_succ_self _)) BO (Lib.hid rfl) (Lib.hid (Own.nil _ _ _ _)) (Lib.hid (by simp)) (by omega) (by omega)).mono ?_); rintro r w6 ⟨rfl, A6, c6, n6, h6, b6, o6, x6⟩; rw [List.nil_append] at h6 o6; have HN6 := Lib.hid h6; have HB6 := Lib.hid b6; have HO6 := Lib.hid o6; have X6 := Lib.hid x6; have hn6 : n6 ≤ 10000 := (by have a := toldK_len M1 M2 (-1) n1; omega); have hb6 : w5.heap.size + 1 ≤ w6.heap.size := b6.lt; clear h6 b6 o6 x6; have m2 : True := trivial)
        | (go_at_call 37; have mk := m2; clear m2 mk; go_loud (refine (tell_any w5 w5.heap.size (w5.heap.size + 1) A2 A1 c2 c1 n2 n1 M2 M1 1 A6 c6 n6 (toldK M1 M2 (-1) n1) _ HN2 HN1 HTi2 HTi1 X6 (Lib.hid (Nat.le_refl _)) (Lib.hid (Nat.lt_succ_self _)) HB6 HN6 HO6 (Lib.hid hb6) (by omega) (by omega)).mono ?_); rintro r w7 ⟨rfl, A7, c7, n7, h7, b7, o7, x7⟩; have HN7 := Lib.hid h7; have HB7 := Lib.hid b7; have HO7 := Lib.hid o7; have X7 := Lib.hid x7; have hn7 : n7 ≤ 30000 := (by have a := toldK_len M1 M2 (-1) n1; have b := toldK_len M2 M1 1 n2; rw [List.length_append] at h7; omega); have q7 : w7.cell? ⟨w5.heap.size, 0, none⟩ = some (.slice A7 n7 c7) := b7.cell 0; clear h7 b7 o7 x7)
        | (go_at_call 41; go_loud (refine (sortC_any _ (w5.heap.size + 1) A7 c7 n7 w5 _ HN7 HO7 (Lib.hid (fun x hx => (by rcases List.mem_append.1 hx with hx | hx <;> obtain ⟨y, hy, rfl⟩ := List.mem_map.1 hx; exact HTi1.out.ls y (List.mem_of_mem_take (List.mem_filter.1 hy).1); exact HTi2.out.ls y (List.mem_of_mem_take (List.mem_filter.1 hy).1)))) X7 (Lib.hid (Nat.le_succ _)) (by omega)).mono ?_); rintro r w8 ⟨rfl, R, hp, hs, o8, u8⟩; have HP := Lib.hid hp; have HS := Lib.hid hs; have HO8 := Lib.hid o8; have X8 : Hid (Ext w5 w8) := Lib.hid (ext_upd X7.out u8 (fun b hb => (by omega))); have q8 : w8.cell? ⟨w5.heap.size, 0, none⟩ = some (.slice A7 n7 c7) := (bk_upd HB7.out u8 (fun hb => (by omega))).cell 0; clear hp hs o8 u8))
      go_ret
      have hperm := HP.out
      have hlen : n7 = R.length := by rw [hperm.length_eq]; exact HN7.out
      have hfin : Upd (fun b => b = bm) w w8 := HUw.out.trans (Upd.ext (X2.out.trans X8.out))
      refine ⟨A7, c7, n7, R, D', L', rfl, hlen, ⟨by rw [← hlen]; exact HO8.out.sl, fun x hx => ?_⟩, ?_, HMr.out.ext (X2.out.trans X8.out), HLf.out, hfin, HF.out⟩
      · have hx2 := hperm.mem_iff.1 hx
        rcases List.mem_append.1 hx2 with hx | hx
        · obtain ⟨y, hy, rfl⟩ := List.mem_map.1 hx
          exact (HTi1.out.ls y (List.mem_of_mem_take (List.mem_filter.1 hy).1)).ext X8.out
        · obtain ⟨y, hy, rfl⟩ := List.mem_map.1 hx
          exact (HTi2.out.ls y (List.mem_of_mem_take (List.mem_filter.1 hy).1)).ext X8.out
      · have h1 : (R.map Cg.cv).Perm (movedL (ofV (liveV (L.map Cg.cv))) (ofV (liveV (addAll (L.map Cg.cv) (Ch.map Cg.cv))))) := by
          have a := hperm.map Cg.cv
          rw [List.map_append, HN1.out, HN2.out, told_map, told_map, HV1.out, HV2.out, HLf.out] at a
          exact a
        exact moved_of (ofV_is _).rising (ofV_is _).rising h1 HS.out
end Go.Proofs.YtmdakaflmheidaaGreatDoor
