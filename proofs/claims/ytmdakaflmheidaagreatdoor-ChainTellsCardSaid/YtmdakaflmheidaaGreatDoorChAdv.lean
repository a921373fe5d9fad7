/- chain.Advance: the time that stands for another one. Conditions: the list and the time are as readings give them, and not too long. -/
import Derived.Test.YtmdakaflmheidaaGreatDoorChJoin
import Derived.Test.YtmdakaflmheidaaGreatDoorOrd
namespace Go.Proofs.YtmdakaflmheidaaGreatDoor
open Go.RowKit

theorem u32_max {l m : List Int} (h : U32 l) (k : U32 m) : U32 (List.zipWith max l m) := by
  intro x hx
  obtain ⟨i, hi, rfl⟩ := List.getElem_of_mem hx
  rw [List.getElem_zipWith]
  rw [List.length_zipWith] at hi
  have a := h _ (List.getElem_mem (show i < l.length by omega))
  have b := k _ (List.getElem_mem (show i < m.length by omega))
  omega
theorem u32_min {l m : List Int} (h : U32 l) (k : U32 m) : U32 (List.zipWith min l m) := by
  intro x hx
  obtain ⟨i, hi, rfl⟩ := List.getElem_of_mem hx
  rw [List.getElem_zipWith]
  rw [List.length_zipWith] at hi
  have a := h _ (List.getElem_mem (show i < l.length by omega))
  have b := k _ (List.getElem_mem (show i < m.length by omega))
  omega
theorem meet_ok {mx : Int} {zl : List Int} (e1 e2 : Int) (A1 A2 : Option Addr) (n c1 c2 : Nat) (l1 l2 : List Int) (w : World) (hm : Hid (min e1 e2 = mx)) (hz : Hid (List.zipWith min l1 l2 = zl)) (h1 : Sl w 1 A1 n c1 (wds l1)) (h2 : Sl w 1 A2 n c2 (wds l2)) (u1 : U32 l1) (u2 : U32 l2) (hn : n ≤ 100000) :
    Calls Tryz.prog 63 #[.agg #[.int .u64 e1, .slice A1 n c1], .agg #[.int .u64 e2, .slice A2 n c2]] w fun e w' =>
      ∃ A c, e = .returned (.tuple #[.agg #[.int .u64 mx, .slice A n c], .int .u16 0]) ∧ Own w' w.heap.size 74 1 A n c (wds zl) ∧ Ext w w' := by
  rw [← hm.out, ← hz.out]
  exact meet_same e1 e2 A1 A2 n c1 c2 l1 l2 w h1 h2 u1 u2 (by omega)
/-- a time in memory of its own -/
def TimeR (v : TV) (w : World) (r : Ending) (w' : World) : Prop := ∃ A n c, r = .returned (.agg #[.int .u64 v.1, .slice A n c]) ∧ n = v.2.length ∧ Own w' w.heap.size 74 1 A n c (wds v.2) ∧ Ext w w'
/-- what stands within the loop: the one time that has been found so far lies in a block of its own -/
structure AdvI (w wr : World) (g : Nat) (A : Option Addr) (c n : Nat) (o : TV) : Prop where
  bk : Bk wr g 26 #[.int .u64 o.1, .slice A n c]
  own : Own wr w.heap.size 74 1 A n c (wds o.2)
  u : U32 o.2
theorem AdvI.grow {w wr w2 : World} {g : Nat} {A : Option Addr} {c n : Nat} {o : TV} (h : AdvI w wr g A c n o) (x : Ext wr w2) : AdvI w w2 g A c n o := ⟨h.bk.ext x, h.own.ext x, h.u⟩
theorem fold_take {V : List TV} {t : TV} {k : Nat} (h : k < V.length) : (V.take (k + 1)).foldl (advStep t) none = advStep t ((V.take k).foldl (advStep t) none) V[k] := by
  rw [List.take_succ_eq_append_getElem h, List.foldl_append]; rfl
/-- how the loop stands: nothing yet, or one -/
def AdvV (w wr : World) (v : Value) (n : Nat) (acc : Option TV) : Prop := (acc = none ∧ v = .slice none 0 0) ∨ ∃ g A c o, acc = some o ∧ v = .slice (some ⟨g, 0, none⟩) 1 1 ∧ AdvI w wr g A c n o
set_option maxRecDepth 100000 in
set_option maxHeartbeats 8000000 in
theorem advance_any (AL : Option Addr) (cL m : Nat) (L : List Tm) (e : Int) (A : Option Addr) (n c : Nat) (l : List Int) (w : World) (hm : Hid (m = L.length)) (hL : Hid (Tin w AL cL L)) (fL : Hid (Fine L)) (ht : Hid (Sl w 1 A n c (wds l))) (u : U32 l) (h9 : m ≤ 1000000) (hn : n ≤ 100000) :
    Calls Tryz.prog 22 #[.slice AL m cL, .agg #[.int .u64 e, .slice A n c]] w (TimeR (advV (L.map Tm.v) (e, l)) w) := by
  have HN : Hid (n = l.length) := Lib.hid ht.out.wlen.symm
  have HU := Lib.hid u
  clear u
  go_enter Tryz.func22, Tryz.ntmps22
  go_wp2
  obtain ⟨w0, hw0⟩ : ∃ w0, w0 = (w.alloc (Obj.cells #[Value.int IntKind.u64 e, Value.slice A n c] 26)).alloc (Obj.cells #[Value.int IntKind.u64 0, Value.slice none 0 0] 26) := ⟨_, rfl⟩
  have x0 : Ext w w0 := hw0 ▸ ((Ext.refl w).alloc _).alloc _
  have b0 : Bk w0 w.heap.size 26 #[Value.int IntKind.u64 e, Value.slice A n c] := by subst hw0; exact (Bk.new _ _ _).alloc _
  have r0 : Bk w0 (w.heap.size + 1) 26 #[Value.int IntKind.u64 0, Value.slice none 0 0] := by subst hw0; exact Bk.at (by simp)
  rw [← hw0]
  clear hw0
  have X0 := Lib.hid x0
  have B0 := Lib.hid b0
  have R0 := Lib.hid r0
  clear x0 b0 r0
  go_loopg [5, 12] m (fun z v5 v12 wr => ∃ (k : Nat) (acc : Option TV), z = m - k ∧ k ≤ m ∧ v12 = .int .i64 k ∧ Hid (((L.map Tm.v).take k).foldl (advStep (e, l)) none = acc) ∧ Hid (Ext w0 wr) ∧ AdvV w0 wr v5 n acc)
  case atStart => exact ⟨0, none, rfl, Nat.zero_le _, rfl, Lib.hid rfl, Lib.hid (Ext.refl _), .inl ⟨rfl, rfl⟩⟩
  case round =>
    obtain ⟨k, acc, rfl, hk, rfl, HF, HE, hacc⟩ := hrel
    have b0 : wr.cell? ⟨w.heap.size, 0, none⟩ = some (.int .u64 e) := (B0.out.ext HE.out).cell 0
    have b1 : wr.cell? ⟨w.heap.size, 1, none⟩ = some (.slice A n c) := (B0.out.ext HE.out).cell 1
    by_cases hlt : k < m
    · have hkL : k < L.length := by rw [← hm.out]; exact hlt
      obtain ⟨ad, rfl, q0, q1⟩ := (hL.out.ext (X0.out.trans HE.out)).at (i := k) hkL
      have HXS : Hid (Sl wr 1 (L.getD k Tm.zero).A (L.getD k Tm.zero).l.length (L.getD k Tm.zero).c (wds (L.getD k Tm.zero).l)) := Lib.hid ((hL.out.ext (X0.out.trans HE.out)).ls _ (getT_mem hkL))
      have hf := fL.out _ (getT_mem hkL)
      have hkv := map_at hkL
      obtain ⟨x, hx⟩ : ∃ x, L.getD k Tm.zero = x := ⟨_, rfl⟩
      rw [hx] at q0 q1 HXS hf hkv
      have HKV := Lib.hid hkv
      have HG := Lib.hid hf
      clear hx hkv hkL hf
      obtain ⟨f, Ax, cx, lx⟩ := x
      obtain ⟨nx, hnx⟩ : ∃ nx, lx.length = nx := ⟨_, rfl⟩
      have HNX := Lib.hid hnx
      replace q0 : wr.cell? (ad.add (k * 2)) = some (.int .u64 f) := q0
      replace q1 : wr.cell? ⟨(ad.add (k * 2)).block, (ad.add (k * 2)).off + 1, none⟩ = some (.slice Ax lx.length cx) := q1
      replace HXS : Hid (Sl wr 1 Ax lx.length cx (wds lx)) := HXS
      replace HG : Hid (U32 lx ∧ lx.length ≤ 100000) := HG
      rw [hnx] at q1 HXS
      clear hnx
      have XY : Hid (Ext wr (wr.alloc (.cells #[.int .u64 f, .slice Ax nx cx] 26))) := Lib.hid ((Ext.refl _).alloc _)
      have c0 : (wr.alloc (.cells #[.int .u64 f, .slice Ax nx cx] 26)).cell? ⟨w.heap.size, 0, none⟩ = some (.int .u64 e) := (B0.out.ext (HE.out.trans XY.out)).cell 0
      have c1 : (wr.alloc (.cells #[.int .u64 f, .slice Ax nx cx] 26)).cell? ⟨w.heap.size, 1, none⟩ = some (.slice A n c) := (B0.out.ext (HE.out.trans XY.out)).cell 1
      by_cases hs : n = nx
      · subst hs
        obtain ⟨mx, hmx⟩ : ∃ mx, max e f = mx := ⟨_, rfl⟩
        obtain ⟨zl, hzl⟩ : ∃ zl, List.zipWith max l lx = zl := ⟨_, rfl⟩
        have HMX := Lib.hid hmx
        have HZL := Lib.hid hzl
        clear hmx hzl
        have HZU : Hid (U32 zl) := Lib.hid (HZL.out ▸ u32_max HU.out HG.out.1)
        have HM : Hid (maxT (e, l) (f, lx) = (mx, zl)) := Lib.hid (by show (max e f, List.zipWith max l lx) = _; rw [HMX.out, HZL.out])
        have HSM : Hid (same (e, l) (f, lx) = true) := Lib.hid (decide_eq_true (by have a := HNX.out; have b := HN.out; show l.length = lx.length; omega))
        rcases hacc with ⟨rfl, rfl⟩ | ⟨g, A1, c1_, o, rfl, rfl, hI⟩
        · go_wp2_with (first
            | (go_at_call 62; go_loud (refine (join_ok e f A Ax n c cx l lx _ HMX HZL (ht.out.ext ((X0.out.trans HE.out).trans XY.out)) (HXS.out.ext XY.out) HU.out HG.out.1 hn).mono ?_); rintro r w3 ⟨A3, c3, rfl, o3, x3⟩; have HO3 := Lib.hid o3; have X3 := Lib.hid x3; clear o3 x3))
          go_roundg (m - (k + 1))
          case measure => omega
          case rel =>
            have hs3 := X3.out.size
            refine ⟨k + 1, some (mx, zl), by omega, by omega, by go_num, Lib.hid ?_, Lib.hid ((((HE.out.trans XY.out).trans X3.out).alloc _).alloc _), .inr ⟨w3.heap.size + 1, A3, c3, (mx, zl), rfl, rfl, ⟨Bk.at (by simp), ?_, HZU.out⟩⟩⟩
            · obtain ⟨h1, h2⟩ := HKV.out
              rw [fold_take h1, HF.out, h2]
              show (if same (e, l) (f, lx) = true then some (maxT (e, l) (f, lx)) else none) = _
              rw [if_pos HSM.out, HM.out]
            · exact ((HO3.out.mono (Nat.le_trans HE.out.size XY.out.size)).alloc _).alloc _
        · have HI := Lib.hid hI
          clear hI
          obtain ⟨mn, hmn⟩ : ∃ mn, min o.1 mx = mn := ⟨_, rfl⟩
          obtain ⟨zn, hzn⟩ : ∃ zn, List.zipWith min o.2 zl = zn := ⟨_, rfl⟩
          have HMN := Lib.hid hmn
          have HZN := Lib.hid hzn
          clear hmn hzn
          have HM2 : Hid (minT o (mx, zl) = (mn, zn)) := Lib.hid (by show (min o.1 mx, List.zipWith min o.2 zl) = _; rw [HMN.out, HZN.out])
          go_wp2_with (first
            | (go_at_call 62; go_loud (refine (join_ok e f A Ax n c cx l lx _ HMX HZL (ht.out.ext ((X0.out.trans HE.out).trans XY.out)) (HXS.out.ext XY.out) HU.out HG.out.1 hn).mono ?_); rintro r w3 ⟨A3, c3, rfl, o3, x3⟩; have HO3 := Lib.hid o3; have X3 := Lib.hid x3; clear o3 x3))
          obtain ⟨w8, hw8⟩ : ∃ w8, w8 = w3.alloc (Obj.cells #[Value.int IntKind.u64 mx, Value.slice A3 n c3] 26) := ⟨_, rfl⟩
          have x8 : Ext w3 w8 := hw8 ▸ (Ext.refl w3).alloc _
          have j8 : Bk w8 w3.heap.size 26 #[Value.int IntKind.u64 mx, Value.slice A3 n c3] := by subst hw8; exact Bk.new _ _ _
          rw [← hw8]
          clear hw8 c0 c1 b0 b1 q0 q1
          have X : Ext w8 w8.drew := (Ext.refl w8).drew
          have I8 : AdvI w0 w8.drew g A1 c1_ n o := HI.out.grow (((XY.out.trans X3.out).trans x8).trans X)
          have HI8 := Lib.hid I8
          have HJ8 := Lib.hid j8
          have HX8 := Lib.hid x8
          have y1 : ∀ y : Xt w8.drew, y.W.cell? ⟨g, 0, none⟩ = some (.int .u64 o.1) := fun y => (HI8.out.bk.ext y.x).cell 0
          have y2 : ∀ y : Xt w8.drew, y.W.cell? ⟨g, 1, none⟩ = some (.slice A1 n c1_) := fun y => (HI8.out.bk.ext y.x).cell 1
          have y3 : ∀ y : Xt w8.drew, y.W.cell? ⟨w3.heap.size, 0, none⟩ = some (.int .u64 mx) := fun y => (HJ8.out.ext (X.trans y.x)).cell 0
          have y4 : ∀ y : Xt w8.drew, y.W.cell? ⟨w3.heap.size, 1, none⟩ = some (.slice A3 n c3) := fun y => (HJ8.out.ext (X.trans y.x)).cell 1
          clear I8 j8 x8
          refine wp_region_ord [0,1,3,0,15,31,63,63,127] (.flo [0,1,2,3] (.one 4 (.flo [5,6] (.pur [7] (.one 8 (.fin)))))) (by kernel_rfl) (by kernel_rfl) (by intro _ _ d _ _ h; cases d <;> exact h) ?_
          (refine ord_flo (pick_cons rfl (pick_cons rfl (pick_cons rfl (pick_cons rfl pick_nil)))) ?_; (repeat (go_big_quiet_step (fail))); refine wpQuiet_nil ?_; show ordWalk _ _ _ _ _ _ _)
          refine ord_one (pick_cons rfl pick_nil) ?_; intro K_ hK_
          go_wp2_with (first
            | (go_at_call 63; go_loud (refine (meet_ok o.1 mx A1 A3 n c1_ c3 o.2 zl _ HMN HZN HI8.out.own.sl ((HO3.out.sl.ext HX8.out).ext X) HI8.out.u HZU.out hn).mono ?_); rintro r w5 ⟨A5, c5, rfl, o5, x5⟩; have HO5 := Lib.hid o5; have X5 := Lib.hid x5; clear o5 x5))
          have J5 := (HJ8.out.ext X).ext X5.out
          have z0 := J5.cell 0
          have z1 := J5.cell 1
          have z2 := J5.free 0
          have z3 := J5.free 1
          have z4 := J5.set2 (.int .u64 mn) (.slice A5 n c5)
          have z5 := z4.1
          have z6 := z4.2
          clear z4
          have HJ5 := Lib.hid J5
          clear J5
          (refine ord_flo (pick_cons rfl (pick_cons rfl pick_nil)) ?_; (repeat (go_big_quiet_step (fail))); refine wpQuiet_nil ?_; show ordWalk _ _ _ _ _ _ _)
          (refine ord_pur (pick_cons rfl pick_nil) ?_; (repeat (go_big_quiet_step (fail))); refine wpQuiet_nil ?_; show ordWalk _ _ _ _ _ _ _)
          refine ord_one (pick_cons rfl pick_nil) ?_; intro K_ hK_
          go_wp2
          refine ord_fin ?_
          go_wp2
          go_roundg (m - (k + 1))
          case measure => omega
          case rel =>
            have hb5 : w3.heap.size < w8.drew.heap.size := HJ8.out.lt
            have s8 : w3.heap.size ≤ w5.heap.size := Nat.le_trans (Nat.le_of_lt hb5) X5.out.size
            have e3 : Ext w0 w3 := (HE.out.trans XY.out).trans X3.out
            have e5 : Ext w0 w5 := ((e3.trans HX8.out).trans X).trans X5.out
            refine ⟨k + 1, some (mn, zn), by omega, by omega, by go_num, Lib.hid ?_, Lib.hid (((e5.set e3.size _).set e3.size _).alloc _), .inr ⟨w5.heap.size, A5, c5, (mn, zn), rfl, rfl, ⟨Bk.at (by simp), ?_, HZN.out ▸ u32_min HI8.out.u HZU.out⟩⟩⟩
            · obtain ⟨h1, h2⟩ := HKV.out
              rw [fold_take h1, HF.out, h2]
              show (if same (e, l) (f, lx) = true then some (minT o (maxT (e, l) (f, lx))) else _) = _
              rw [if_pos HSM.out, HM.out, HM2.out]
            · exact ((((HO5.out.far (HO5.out.ne hb5) _).far (HO5.out.ne hb5) _).mono (Nat.le_trans e3.size (Nat.le_of_lt hb5))).alloc _)
      · have hne : ((n : Int) != (nx : Int)) = true := by simp; omega
        have HS := Lib.hid hs
        clear hs
        go_wp2_with (first
          | (go_at_call 62; go_loud (refine (join_diff e f A Ax n nx c cx _ hne).mono ?_); rintro r w3 ⟨rfl, x3⟩; have X3 := Lib.hid x3; clear x3))
        go_roundg (m - (k + 1))
        case measure => omega
        case rel =>
          have XX := (XY.out.trans X3.out).alloc (.cells #[.int .u64 0, .slice none 0 0] 26)
          refine ⟨k + 1, acc, by omega, by omega, by go_num, Lib.hid ?_, Lib.hid (HE.out.trans XX), ?_⟩
          · obtain ⟨h1, h2⟩ := HKV.out
            rw [fold_take h1, HF.out, h2]
            unfold advStep
            rw [if_neg (by have a := HNX.out; have b := HN.out; have cc := HS.out; show ¬ same (e, l) (f, lx) = true; unfold same; rw [decide_eq_true_iff]; show ¬ l.length = lx.length; omega)]
          · rcases hacc with ⟨h1, h2⟩ | ⟨g, A1, c1_, o, h1, h2, hI⟩
            · exact .inl ⟨h1, h2⟩
            · exact .inr ⟨g, A1, c1_, o, h1, h2, hI.grow XX⟩
    · obtain rfl : k = m := by omega
      have HF2 : Hid (advO (L.map Tm.v) (e, l) = acc) := Lib.hid (by have := HF.out; rwa [show k = (L.map Tm.v).length by rw [List.length_map]; exact hm.out, List.take_length] at this)
      have HR := Lib.hid (R0.out.ext HE.out)
      rcases hacc with ⟨rfl, rfl⟩ | ⟨g, A1, c1_, o, rfl, rfl, hI⟩
      · go_wp2_with (first
          | (go_at_call 36; go_loud (refine (copied_any e A n c l _ (Lib.hid (ht.out.ext (X0.out.trans HE.out))) (by omega)).mono ?_); rintro r w4 ⟨A4, c4, rfl, o4, x4⟩; have HO4 := Lib.hid o4; have X4 := Lib.hid x4; clear o4 x4; have RB := HR.out.ext X4.out; have z0 := RB.cell 0; have z1 := RB.cell 1; have z2 := RB.free 0; have z3 := RB.free 1; have HRB := Lib.hid RB; clear RB))
        have bb := HRB.out.set2 (.int .u64 e) (.slice A4 n c4)
        have hb : w.heap.size + 1 < wr.heap.size := HR.out.lt
        refine bodyPost_ret (v := .agg #[.int .u64 e, .slice A4 n c4]) (by simp [results, Tryz.results22, go_sem, bb.1, bb.2]) rfl ⟨A4, n, c4, ?_, ?_, ?_, ?_⟩
        · unfold advV; rw [HF2.out]; rfl
        · unfold advV; rw [HF2.out]; exact HN.out
        · have : (advV (L.map Tm.v) (e, l)).2 = l := by unfold advV; rw [HF2.out]; rfl
          rw [this]
          exact (((HO4.out.far (HO4.out.ne hb) _).far (HO4.out.ne hb) _).mono (by omega))
        · exact ((((X0.out.trans HE.out).trans X4.out).set (by simp) _).set (by simp) _)
      · have I := Lib.hid hI
        have z0 := I.out.bk.cell 0
        have z1 := I.out.bk.cell 1
        have z2 := HR.out.cell 0
        have z3 := HR.out.cell 1
        have z4 := HR.out.free 0
        have z5 := HR.out.free 1
        clear hI
        replace z0 : wr.cell? ⟨g, 0, none⟩ = some (.int .u64 o.1) := z0
        replace z1 : wr.cell? ⟨g, 1, none⟩ = some (.slice A1 n c1_) := z1
        go_wp2
        have bb := HR.out.set2 (.int .u64 o.1) (.slice A1 n c1_)
        refine bodyPost_ret (v := .agg #[.int .u64 o.1, .slice A1 n c1_]) (by simp [results, Tryz.results22, go_sem, bb.1, bb.2]) rfl ⟨A1, n, c1_, ?_, ?_, ?_, ?_⟩
        · unfold advV; rw [HF2.out]; rfl
        · have q := advV_len (L.map Tm.v) (e, l)
          rw [q]; exact HN.out
        · have : (advV (L.map Tm.v) (e, l)).2 = o.2 := by unfold advV; rw [HF2.out]; rfl
          rw [this]
          exact ((I.out.own.far (I.out.own.ne R0.out.lt) _).far (I.out.own.ne R0.out.lt) _).mono X0.out.size
        · exact (((X0.out.trans HE.out).set (by simp) _).set (by simp) _)
end Go.Proofs.YtmdakaflmheidaaGreatDoor
