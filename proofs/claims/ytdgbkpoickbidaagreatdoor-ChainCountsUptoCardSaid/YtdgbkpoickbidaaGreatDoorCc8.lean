/- chain.Advance: the time that stands for another one. What the laws on antichains share: at, New; lists that are known whole; what a map's turning leaves. penstocklaw05.known: the chapter's examples answer as they stand there. ChainCounts: the walk. Conditions: each theorem states its own. -/
import Derived.Test.YtdgbkpoickbidaaGreatDoorCc7
import Derived.Test.YtdgbkpoickbidaaGreatDoorCc1
import Derived.Test.YtdgbkpoickbidaaGreatDoorCc4
import Derived.Test.YtdgbkpoickbidaaGreatDoorCc3
namespace Go.Proofs.YtdgbkpoickbidaaGreatDoor
open Go.RowKit

theorem u32_max {l m : List Int} (h : U32 l) (k : U32 m) : U32 (List.zipWith max l m) := by
  intro x hx
  obtain ⟨i, hi, rfl⟩ := List.getElem_of_mem hx
  rw [List.getElem_zipWith]
  rw [List.length_zipWith] at hi
  have a := h _ (List.getElem_mem (show i < l.length by omega))
  have b := k _ (List.getElem_mem (show i < m.length by omega))
  omega
theorem u32_min {l m : List Int} (h : U32 l) (k : U32 m) : U32 (List.zipWith min l m) := by
  intro x hx
  obtain ⟨i, hi, rfl⟩ := List.getElem_of_mem hx
  rw [List.getElem_zipWith]
  rw [List.length_zipWith] at hi
  have a := h _ (List.getElem_mem (show i < l.length by omega))
  have b := k _ (List.getElem_mem (show i < m.length by omega))
  omega
theorem meet_ok {mx : Int} {zl : List Int} (e1 e2 : Int) (A1 A2 : Option Addr) (n c1 c2 : Nat) (l1 l2 : List Int) (w : World) (hm : Hid (min e1 e2 = mx)) (hz : Hid (List.zipWith min l1 l2 = zl)) (h1 : Sl w 1 A1 n c1 (wds l1)) (h2 : Sl w 1 A2 n c2 (wds l2)) (u1 : U32 l1) (u2 : U32 l2) (hn : n ≤ 100000) :
    Calls Tryz.prog 192 #[.agg #[.int .u64 e1, .slice A1 n c1], .agg #[.int .u64 e2, .slice A2 n c2]] w fun e w' =>
      ∃ A c, e = .returned (.tuple #[.agg #[.int .u64 mx, .slice A n c], .int .u16 0]) ∧ Own w' w.heap.size 180 1 A n c (wds zl) ∧ Ext w w' := by
  rw [← hm.out, ← hz.out]
  exact meet_same e1 e2 A1 A2 n c1 c2 l1 l2 w h1 h2 u1 u2 (by omega)
/-- a time in memory of its own -/
def TimeR (v : TV) (w : World) (r : Ending) (w' : World) : Prop := ∃ A n c, r = .returned (.agg #[.int .u64 v.1, .slice A n c]) ∧ n = v.2.length ∧ Own w' w.heap.size 180 1 A n c (wds v.2) ∧ Ext w w'
/-- what stands within the loop: the one time that has been found so far lies in a block of its own -/
structure AdvI (w wr : World) (g : Nat) (A : Option Addr) (c n : Nat) (o : TV) : Prop where
  bk : Bk wr g 26 #[.int .u64 o.1, .slice A n c]
  own : Own wr w.heap.size 180 1 A n c (wds o.2)
  u : U32 o.2
theorem AdvI.grow {w wr w2 : World} {g : Nat} {A : Option Addr} {c n : Nat} {o : TV} (h : AdvI w wr g A c n o) (x : Ext wr w2) : AdvI w w2 g A c n o := ⟨h.bk.ext x, h.own.ext x, h.u⟩
theorem fold_take {V : List TV} {t : TV} {k : Nat} (h : k < V.length) : (V.take (k + 1)).foldl (advStep t) none = advStep t ((V.take k).foldl (advStep t) none) V[k] := by
  rw [List.take_succ_eq_append_getElem h, List.foldl_append]; rfl
/-- how the loop stands: nothing yet, or one -/
def AdvV (w wr : World) (v : Value) (n : Nat) (acc : Option TV) : Prop := (acc = none ∧ v = .slice none 0 0) ∨ ∃ g A c o, acc = some o ∧ v = .slice (some ⟨g, 0, none⟩) 1 1 ∧ AdvI w wr g A c n o
set_option maxRecDepth 100000 in
set_option maxHeartbeats 8000000 in
theorem advance_any (AL : Option Addr) (cL m : Nat) (L : List Tm) (e : Int) (A : Option Addr) (n c : Nat) (l : List Int) (w : World) (hm : Hid (m = L.length)) (hL : Hid (Tin w AL cL L)) (fL : Hid (Fine L)) (ht : Hid (Sl w 1 A n c (wds l))) (u : U32 l) (h9 : m ≤ 1000000) (hn : n ≤ 100000) :
    Calls Tryz.prog 110 #[.slice AL m cL, .agg #[.int .u64 e, .slice A n c]] w (TimeR (advV (L.map Tm.v) (e, l)) w) := by
  have HN : Hid (n = l.length) := Lib.hid ht.out.wlen.symm
  have HU := Lib.hid u
  clear u
  go_enter Tryz.func110, Tryz.ntmps110
  go_wp2
  obtain ⟨w0, hw0⟩ : ∃ w0, w0 = (w.alloc (Obj.cells #[Value.int IntKind.u64 e, Value.slice A n c] 26)).alloc (Obj.cells #[Value.int IntKind.u64 0, Value.slice none 0 0] 26) := ⟨_, rfl⟩
  have x0 : Ext w w0 := hw0 ▸ ((Ext.refl w).alloc _).alloc _
  have b0 : Bk w0 w.heap.size 26 #[Value.int IntKind.u64 e, Value.slice A n c] := by subst hw0; exact (Bk.new _ _ _).alloc _
  have r0 : Bk w0 (w.heap.size + 1) 26 #[Value.int IntKind.u64 0, Value.slice none 0 0] := by subst hw0; exact Bk.at (by simp)
  rw [← hw0]
  clear hw0
  have X0 := Lib.hid x0
  have B0 := Lib.hid b0
  have R0 := Lib.hid r0
  clear x0 b0 r0
  go_loopg [5, 12] m (fun z v5 v12 wr => ∃ (k : Nat) (acc : Option TV), z = m - k ∧ k ≤ m ∧ v12 = .int .i64 k ∧ Hid (((L.map Tm.v).take k).foldl (advStep (e, l)) none = acc) ∧ Hid (Ext w0 wr) ∧ AdvV w0 wr v5 n acc)
  case atStart => exact ⟨0, none, rfl, Nat.zero_le _, rfl, Lib.hid rfl, Lib.hid (Ext.refl _), .inl ⟨rfl, rfl⟩⟩
  case round =>
    obtain ⟨k, acc, rfl, hk, rfl, HF, HE, hacc⟩ := hrel
    have b0 : wr.cell? ⟨w.heap.size, 0, none⟩ = some (.int .u64 e) := (B0.out.ext HE.out).cell 0
    have b1 : wr.cell? ⟨w.heap.size, 1, none⟩ = some (.slice A n c) := (B0.out.ext HE.out).cell 1
    by_cases hlt : k < m
    · have hkL : k < L.length := by rw [← hm.out]; exact hlt
      obtain ⟨ad, rfl, q0, q1⟩ := (hL.out.ext (X0.out.trans HE.out)).at (i := k) hkL
      have HXS : Hid (Sl wr 1 (L.getD k Tm.zero).A (L.getD k Tm.zero).l.length (L.getD k Tm.zero).c (wds (L.getD k Tm.zero).l)) := Lib.hid ((hL.out.ext (X0.out.trans HE.out)).ls _ (getT_mem hkL))
      have hf := fL.out _ (getT_mem hkL)
      have hkv := map_at hkL
      obtain ⟨x, hx⟩ : ∃ x, L.getD k Tm.zero = x := ⟨_, rfl⟩
      rw [hx] at q0 q1 HXS hf hkv
      have HKV := Lib.hid hkv
      have HG := Lib.hid hf
      clear hx hkv hkL hf
      obtain ⟨f, Ax, cx, lx⟩ := x
      obtain ⟨nx, hnx⟩ : ∃ nx, lx.length = nx := ⟨_, rfl⟩
      have HNX := Lib.hid hnx
      replace q0 : wr.cell? (ad.add (k * 2)) = some (.int .u64 f) := q0
      replace q1 : wr.cell? ⟨(ad.add (k * 2)).block, (ad.add (k * 2)).off + 1, none⟩ = some (.slice Ax lx.length cx) := q1
      replace HXS : Hid (Sl wr 1 Ax lx.length cx (wds lx)) := HXS
      replace HG : Hid (U32 lx ∧ lx.length ≤ 100000) := HG
      rw [hnx] at q1 HXS
      clear hnx
      have XY : Hid (Ext wr (wr.alloc (.cells #[.int .u64 f, .slice Ax nx cx] 26))) := Lib.hid ((Ext.refl _).alloc _)
      have c0 : (wr.alloc (.cells #[.int .u64 f, .slice Ax nx cx] 26)).cell? ⟨w.heap.size, 0, none⟩ = some (.int .u64 e) := (B0.out.ext (HE.out.trans XY.out)).cell 0
      have c1 : (wr.alloc (.cells #[.int .u64 f, .slice Ax nx cx] 26)).cell? ⟨w.heap.size, 1, none⟩ = some (.slice A n c) := (B0.out.ext (HE.out.trans XY.out)).cell 1
      by_cases hs : n = nx
      · subst hs
        obtain ⟨mx, hmx⟩ : ∃ mx, max e f = mx := ⟨_, rfl⟩
        obtain ⟨zl, hzl⟩ : ∃ zl, List.zipWith max l lx = zl := ⟨_, rfl⟩
        have HMX := Lib.hid hmx
        have HZL := Lib.hid hzl
        clear hmx hzl
        have HZU : Hid (U32 zl) := Lib.hid (HZL.out ▸ u32_max HU.out HG.out.1)
        have HM : Hid (maxT (e, l) (f, lx) = (mx, zl)) := Lib.hid (by show (max e f, List.zipWith max l lx) = _; rw [HMX.out, HZL.out])
        have HSM : Hid (same (e, l) (f, lx) = true) := Lib.hid (decide_eq_true (by have a := HNX.out; have b := HN.out; show l.length = lx.length; omega))
        rcases hacc with ⟨rfl, rfl⟩ | ⟨g, A1, c1_, o, rfl, rfl, hI⟩
        · go_wp2_with (first
            | (go_at_call 191; go_loud (refine (join_ok e f A Ax n c cx l lx _ HMX HZL (ht.out.ext ((X0.out.trans HE.out).trans XY.out)) (HXS.out.ext XY.out) HU.out HG.out.1 hn).mono ?_); rintro r w3 ⟨A3, c3, rfl, o3, x3⟩; have HO3 := Lib.hid o3; have X3 := Lib.hid x3; clear o3 x3))
          go_roundg (m - (k + 1))
          case measure => omega
          case rel =>
            have hs3 := X3.out.size
            refine ⟨k + 1, some (mx, zl), by omega, by omega, by go_num, Lib.hid ?_, Lib.hid ((((HE.out.trans XY.out).trans X3.out).alloc _).alloc _), .inr ⟨w3.heap.size + 1, A3, c3, (mx, zl), rfl, rfl, ⟨Bk.at (by simp), ?_, HZU.out⟩⟩⟩
            · obtain ⟨h1, h2⟩ := HKV.out
              rw [fold_take h1, HF.out, h2]
              show (if same (e, l) (f, lx) = true then some (maxT (e, l) (f, lx)) else none) = _
              rw [if_pos HSM.out, HM.out]
            · exact ((HO3.out.mono (Nat.le_trans HE.out.size XY.out.size)).alloc _).alloc _
        · have HI := Lib.hid hI
          clear hI
          obtain ⟨mn, hmn⟩ : ∃ mn, min o.1 mx = mn := ⟨_, rfl⟩
          obtain ⟨zn, hzn⟩ : ∃ zn, List.zipWith min o.2 zl = zn := ⟨_, rfl⟩
          have HMN := Lib.hid hmn
          have HZN := Lib.hid hzn
          clear hmn hzn
          have HM2 : Hid (minT o (mx, zl) = (mn, zn)) := Lib.hid (by show (min o.1 mx, List.zipWith min o.2 zl) = _; rw [HMN.out, HZN.out])
          go_wp2_with (first
            | (go_at_call 191; go_loud (refine (join_ok e f A Ax n c cx l lx _ HMX HZL (ht.out.ext ((X0.out.trans HE.out).trans XY.out)) (HXS.out.ext XY.out) HU.out HG.out.1 hn).mono ?_); rintro r w3 ⟨A3, c3, rfl, o3, x3⟩; have HO3 := Lib.hid o3; have X3 := Lib.hid x3; clear o3 x3))
          obtain ⟨w8, hw8⟩ : ∃ w8, w8 = w3.alloc (Obj.cells #[Value.int IntKind.u64 mx, Value.slice A3 n c3] 26) := ⟨_, rfl⟩
          have x8 : Ext w3 w8 := hw8 ▸ (Ext.refl w3).alloc _
          have j8 : Bk w8 w3.heap.size 26 #[Value.int IntKind.u64 mx, Value.slice A3 n c3] := by subst hw8; exact Bk.new _ _ _
          rw [← hw8]
          clear hw8 c0 c1 b0 b1 q0 q1
          have X : Ext w8 w8.drew := (Ext.refl w8).drew
          have I8 : AdvI w0 w8.drew g A1 c1_ n o := HI.out.grow (((XY.out.trans X3.out).trans x8).trans X)
          have HI8 := Lib.hid I8
          have HJ8 := Lib.hid j8
          have HX8 := Lib.hid x8
          have y1 : ∀ y : Xt w8.drew, y.W.cell? ⟨g, 0, none⟩ = some (.int .u64 o.1) := fun y => (HI8.out.bk.ext y.x).cell 0
          have y2 : ∀ y : Xt w8.drew, y.W.cell? ⟨g, 1, none⟩ = some (.slice A1 n c1_) := fun y => (HI8.out.bk.ext y.x).cell 1
          have y3 : ∀ y : Xt w8.drew, y.W.cell? ⟨w3.heap.size, 0, none⟩ = some (.int .u64 mx) := fun y => (HJ8.out.ext (X.trans y.x)).cell 0
          have y4 : ∀ y : Xt w8.drew, y.W.cell? ⟨w3.heap.size, 1, none⟩ = some (.slice A3 n c3) := fun y => (HJ8.out.ext (X.trans y.x)).cell 1
          clear I8 j8 x8
          refine wp_region_ord [0,1,3,0,15,31,63,63,127] (.flo [0,1,2,3] (.one 4 (.flo [5,6] (.pur [7] (.one 8 (.fin)))))) (by kernel_rfl) (by kernel_rfl) (by intro _ _ d _ _ h; cases d <;> exact h) ?_
          (refine ord_flo (pick_cons rfl (pick_cons rfl (pick_cons rfl (pick_cons rfl pick_nil)))) ?_; (repeat (go_big_quiet_step (fail))); refine wpQuiet_nil ?_; show ordWalk _ _ _ _ _ _ _)
          refine ord_one (pick_cons rfl pick_nil) ?_; intro K_ hK_
          go_wp2_with (first
            | (go_at_call 192; go_loud (refine (meet_ok o.1 mx A1 A3 n c1_ c3 o.2 zl _ HMN HZN HI8.out.own.sl ((HO3.out.sl.ext HX8.out).ext X) HI8.out.u HZU.out hn).mono ?_); rintro r w5 ⟨A5, c5, rfl, o5, x5⟩; have HO5 := Lib.hid o5; have X5 := Lib.hid x5; clear o5 x5))
          have J5 := (HJ8.out.ext X).ext X5.out
          have z0 := J5.cell 0
          have z1 := J5.cell 1
          have z2 := J5.free 0
          have z3 := J5.free 1
          have z4 := J5.set2 (.int .u64 mn) (.slice A5 n c5)
          have z5 := z4.1
          have z6 := z4.2
          clear z4
          have HJ5 := Lib.hid J5
          clear J5
          (refine ord_flo (pick_cons rfl (pick_cons rfl pick_nil)) ?_; (repeat (go_big_quiet_step (fail))); refine wpQuiet_nil ?_; show ordWalk _ _ _ _ _ _ _)
          (refine ord_pur (pick_cons rfl pick_nil) ?_; (repeat (go_big_quiet_step (fail))); refine wpQuiet_nil ?_; show ordWalk _ _ _ _ _ _ _)
          refine ord_one (pick_cons rfl pick_nil) ?_; intro K_ hK_
          go_wp2
          refine ord_fin ?_
          go_wp2
          go_roundg (m - (k + 1))
          case measure => omega
          case rel =>
            have hb5 : w3.heap.size < w8.drew.heap.size := HJ8.out.lt
            have s8 : w3.heap.size ≤ w5.heap.size := Nat.le_trans (Nat.le_of_lt hb5) X5.out.size
            have e3 : Ext w0 w3 := (HE.out.trans XY.out).trans X3.out
            have e5 : Ext w0 w5 := ((e3.trans HX8.out).trans X).trans X5.out
            refine ⟨k + 1, some (mn, zn), by omega, by omega, by go_num, Lib.hid ?_, Lib.hid (((e5.set e3.size _).set e3.size _).alloc _), .inr ⟨w5.heap.size, A5, c5, (mn, zn), rfl, rfl, ⟨Bk.at (by simp), ?_, HZN.out ▸ u32_min HI8.out.u HZU.out⟩⟩⟩
            · obtain ⟨h1, h2⟩ := HKV.out
              rw [fold_take h1, HF.out, h2]
              show (if same (e, l) (f, lx) = true then some (minT o (maxT (e, l) (f, lx))) else _) = _
              rw [if_pos HSM.out, HM.out, HM2.out]
            · exact ((((HO5.out.far (HO5.out.ne hb5) _).far (HO5.out.ne hb5) _).mono (Nat.le_trans e3.size (Nat.le_of_lt hb5))).alloc _)
      · have hne : ((n : Int) != (nx : Int)) = true := by simp; omega
        have HS := Lib.hid hs
        clear hs
        go_wp2_with (first
          | (go_at_call 191; go_loud (refine (join_diff e f A Ax n nx c cx _ hne).mono ?_); rintro r w3 ⟨rfl, x3⟩; have X3 := Lib.hid x3; clear x3))
        go_roundg (m - (k + 1))
        case measure => omega
        case rel =>
          have XX := (XY.out.trans X3.out).alloc (.cells #[.int .u64 0, .slice none 0 0] 26)
          refine ⟨k + 1, acc, by omega, by omega, by go_num, Lib.hid ?_, Lib.hid (HE.out.trans XX), ?_⟩
          · obtain ⟨h1, h2⟩ := HKV.out
            rw [fold_take h1, HF.out, h2]
            unfold advStep
            rw [if_neg (by have a := HNX.out; have b := HN.out; have cc := HS.out; show ¬ same (e, l) (f, lx) = true; unfold same; rw [decide_eq_true_iff]; show ¬ l.length = lx.length; omega)]
          · rcases hacc with ⟨h1, h2⟩ | ⟨g, A1, c1_, o, h1, h2, hI⟩
            · exact .inl ⟨h1, h2⟩
            · exact .inr ⟨g, A1, c1_, o, h1, h2, hI.grow XX⟩
    · obtain rfl : k = m := by omega
      have HF2 : Hid (advO (L.map Tm.v) (e, l) = acc) := Lib.hid (by have := HF.out; rwa [show k = (L.map Tm.v).length by rw [List.length_map]; exact hm.out, List.take_length] at this)
      have HR := Lib.hid (R0.out.ext HE.out)
      rcases hacc with ⟨rfl, rfl⟩ | ⟨g, A1, c1_, o, rfl, rfl, hI⟩
      · go_wp2_with (first
          | (go_at_call 142; go_loud (refine (copied_any e A n c l _ (Lib.hid (ht.out.ext (X0.out.trans HE.out))) (by omega)).mono ?_); rintro r w4 ⟨A4, c4, rfl, o4, x4⟩; have HO4 := Lib.hid o4; have X4 := Lib.hid x4; clear o4 x4; have RB := HR.out.ext X4.out; have z0 := RB.cell 0; have z1 := RB.cell 1; have z2 := RB.free 0; have z3 := RB.free 1; have HRB := Lib.hid RB; clear RB))
        have bb := HRB.out.set2 (.int .u64 e) (.slice A4 n c4)
        have hb : w.heap.size + 1 < wr.heap.size := HR.out.lt
        refine bodyPost_ret (v := .agg #[.int .u64 e, .slice A4 n c4]) (by simp [results, Tryz.results110, go_sem, bb.1, bb.2]) rfl ⟨A4, n, c4, ?_, ?_, ?_, ?_⟩
        · unfold advV; rw [HF2.out]; rfl
        · unfold advV; rw [HF2.out]; exact HN.out
        · have : (advV (L.map Tm.v) (e, l)).2 = l := by unfold advV; rw [HF2.out]; rfl
          rw [this]
          exact (((HO4.out.far (HO4.out.ne hb) _).far (HO4.out.ne hb) _).mono (by omega))
        · exact ((((X0.out.trans HE.out).trans X4.out).set (by simp) _).set (by simp) _)
      · have I := Lib.hid hI
        have z0 := I.out.bk.cell 0
        have z1 := I.out.bk.cell 1
        have z2 := HR.out.cell 0
        have z3 := HR.out.cell 1
        have z4 := HR.out.free 0
        have z5 := HR.out.free 1
        clear hI
        replace z0 : wr.cell? ⟨g, 0, none⟩ = some (.int .u64 o.1) := z0
        replace z1 : wr.cell? ⟨g, 1, none⟩ = some (.slice A1 n c1_) := z1
        go_wp2
        have bb := HR.out.set2 (.int .u64 o.1) (.slice A1 n c1_)
        refine bodyPost_ret (v := .agg #[.int .u64 o.1, .slice A1 n c1_]) (by simp [results, Tryz.results110, go_sem, bb.1, bb.2]) rfl ⟨A1, n, c1_, ?_, ?_, ?_, ?_⟩
        · unfold advV; rw [HF2.out]; rfl
        · have q := advV_len (L.map Tm.v) (e, l)
          rw [q]; exact HN.out
        · have : (advV (L.map Tm.v) (e, l)).2 = o.2 := by unfold advV; rw [HF2.out]; rfl
          rw [this]
          exact ((I.out.own.far (I.out.own.ne R0.out.lt) _).far (I.out.own.ne R0.out.lt) _).mono X0.out.size
        · exact (((X0.out.trans HE.out).set (by simp) _).set (by simp) _)
end Go.Proofs.YtdgbkpoickbidaaGreatDoor
namespace Go.Proofs.YtdgbkpoickbidaaGreatDoor
open Go.RowKit

theorem Sl.of_bk {w : World} {g n size : Nat} {T : TypeId} {cs : Array Value} {xs : List Value} (h : Bk w g T cs) (hs : cs.size = n * size) (hn : n ≤ 100000) (hx : cs.toList = xs) : Sl w size (some ⟨g, 0, none⟩) n n xs := by
  subst hx
  refine ⟨by simpa using hs, Nat.le_refl _, by unfold maxLen; omega, (fun h => nomatch h), fun _ => ⟨_, rfl, fun j u hu => ?_⟩⟩
  have hadd : (⟨g, 0, none⟩ : Addr).add j = ⟨g, j, none⟩ := by unfold Addr.add; split <;> simp_all
  rw [hadd, h.cell]
  simpa using hu
theorem word_of {w : World} {g : Nat} {v : Int} (h : Bk w g 180 #[.int .u32 v]) : Sl w 1 (some ⟨g, 0, none⟩) 1 1 (wds [v]) := Sl.of_bk h rfl (by omega) rfl
theorem tin_of {w : World} {g n : Nat} {cs : Array Value} {L : List Tm} (h : Bk w g 26 cs) (hx : cs.toList = tmsC L) (hn : n = L.length) (h9 : n ≤ 100000) (ls : ∀ x ∈ L, Sl w 1 x.A x.l.length x.c (wds x.l)) : Tin w (some ⟨g, 0, none⟩) n L := by
  subst hn
  exact ⟨Sl.of_bk h (by rw [← Array.length_toList, hx, tmsC_len]) h9 hx, ls⟩
theorem cin_of {w : World} {g n : Nat} {cs : Array Value} {L : List Cg} (h : Bk w g 60 cs) (hx : cs.toList = cgsC L) (hn : n = L.length) (h9 : n ≤ 100000) (ls : ∀ x ∈ L, Sl w 1 x.t.A x.t.l.length x.t.c (wds x.t.l)) : Cin w (some ⟨g, 0, none⟩) n L := by
  subst hn
  exact ⟨Sl.of_bk h (by rw [← Array.length_toList, hx, cgsC_len]) h9 hx, ls⟩
theorem Tin.turned {w w' : World} {b c : Nat} {A : Option Addr} {L : List Tm} (h : Tin w A c L) (u : Upd (fun k => k = b) w w') (hb : ∃ es cl, w.heap[b]? = some (.map es cl)) : Tin w' A c L := ⟨h.sl.turned (upd_turn u) hb, fun x hx => (h.ls x hx).turned (upd_turn u) hb⟩
theorem Cin.turned {w w' : World} {b c : Nat} {A : Option Addr} {L : List Cg} (h : Cin w A c L) (u : Upd (fun k => k = b) w w') (hb : ∃ es cl, w.heap[b]? = some (.map es cl)) : Cin w' A c L := ⟨h.sl.turned (upd_turn u) hb, fun x hx => (h.ls x hx).turned (upd_turn u) hb⟩
/-- what is read of a list of changes -/
theorem Cin.diff {w : World} {A : Option Addr} {c : Nat} {L : List Cg} {l : List CV} (h : Cin w A c L) (e : L.map Cg.cv = l) {i : Nat} {v : TV} {d : Int} (hi : l[i]? = some (v, d)) : ∃ ad, A = some ad ∧ w.cell? ⟨(ad.add (i * 3)).block, (ad.add (i * 3)).off + 2, none⟩ = some (.int .i64 d) := by
  subst e
  rw [List.getElem?_map] at hi
  cases hL : L[i]? with
  | none => rw [hL] at hi; simp at hi
  | some x =>
    rw [hL] at hi
    injection hi with hi
    obtain ⟨hlt, hx⟩ := List.getElem?_eq_some_iff.1 hL
    obtain ⟨ad, e1, _, _, e2⟩ := h.at hlt
    refine ⟨ad, e1, ?_⟩
    have : L.getD i Cg.zero = x := by rw [List.getD_eq_getElem?_getD, hL]; rfl
    rw [this] at e2
    rw [e2, show x.d = d from congrArg Prod.snd hi]
theorem len_of {L : List Cg} {l : List CV} {q : Nat} (h : q = L.length) (e : L.map Cg.cv = l) : q = l.length := by rw [← e, List.length_map, h]
set_option maxRecDepth 100000 in
set_option maxHeartbeats 400000 in
theorem at5_any (e : Int) (A : Option Addr) (n c : Nat) (w : World) :
    Calls Tryz.prog 138 #[.int .u64 e, .slice A n c] w fun r w' => r = .returned (.agg #[.int .u64 e, .slice A n c]) ∧ Ext w w' := by
  go_enter Tryz.func138, Tryz.ntmps138
  go_wp2
  go_returns
  exact ⟨rfl, (Ext.refl w).alloc _⟩
/-- what New leaves -/
def NewOut (w : World) (e : Ending) (w' : World) : Prop := e = .returned (.pointer (some ⟨w.heap.size + 1, 0, none⟩)) ∧ Bk w' (w.heap.size + 1) 178 #[.map (some w.heap.size)] ∧ MapC w' w.heap.size 0 (.map []) [] ∧ Ext w w'
set_option maxRecDepth 100000 in
set_option maxHeartbeats 400000 in
theorem new_any (w : World) : Calls Tryz.prog 30 #[] w (NewOut w) := by
  have hmm := @run_makeMap Tryz.prog
  go_enter Tryz.func30, Tryz.ntmps30
  go_wp2
  go_ret
  refine ⟨by simp, ?_, (MapC.new w).ext ((Ext.refl _).alloc _), ((Ext.refl w).alloc _).alloc _⟩
  exact Bk.at (by simp)
theorem advance_at {v : TV} (AL : Option Addr) (cL m : Nat) (L : List Tm) (e : Int) (A : Option Addr) (n c : Nat) (l : List Int) (w : World) (hv : Hid (advV (L.map Tm.v) (e, l) = v)) (hm : Hid (m = L.length)) (hL : Hid (Tin w AL cL L)) (fL : Hid (Fine L)) (ht : Hid (Sl w 1 A n c (wds l))) (u : U32 l) (h9 : m ≤ 1000000) (hn : n ≤ 100000) :
    Calls Tryz.prog 110 #[.slice AL m cL, .agg #[.int .u64 e, .slice A n c]] w (TimeR v w) := hv.out ▸ advance_any AL cL m L e A n c l w hm hL fL ht u h9 hn
theorem of_at {V : List TV} (AL : Option Addr) (cL m : Nat) (L : List Tm) (w : World) (hV : Hid (ofV (L.map Tm.v) = V)) (hm : Hid (m = L.length)) (hL : Hid (Tin w AL cL L)) (hi : Hid (∀ x ∈ L, x.l.length ≤ 1000000)) (h9 : m ≤ 1000000) :
    Calls Tryz.prog 137 #[.slice AL m cL] w (OfOut V w) := hV.out ▸ of_any AL cL m L w hm hL hi h9
theorem chjoin_at {V : List TV} (AL AM : Option Addr) (cL cM m n : Nat) (L M : List Tm) (w : World) (hV : Hid (joinV (L.map Tm.v) (M.map Tm.v) = V)) (hm : Hid (m = L.length)) (hn : Hid (n = M.length)) (hL : Hid (Tin w AL cL L)) (hM : Hid (Tin w AM cM M)) (fL : Hid (Fine L)) (fM : Hid (Fine M)) (hm9 : m ≤ 1000) (hn9 : n ≤ 1000) :
    Calls Tryz.prog 139 #[.slice AL m cL, .slice AM n cM] w (OfOut V w) := hV.out ▸ chjoin_any AL AM cL cM m n L M w hm hn hL hM fL fM hm9 hn9
theorem chleq_at {v : Bool} (AL AM : Option Addr) (cL cM m n : Nat) (L M : List Tm) (w : World) (hv : Hid (leqV (L.map Tm.v) (M.map Tm.v) = v)) (hm : Hid (m = L.length)) (hn : Hid (n = M.length)) (hL : Hid (Tin w AL cL L)) (hM : Hid (Tin w AM cM M)) :
    Calls Tryz.prog 158 #[.slice AL m cL, .slice AM n cM] w fun r w' => r = .returned (.bool v) ∧ Ext w w' := hv.out ▸ chleq_any AL AM cL cM m n L M w hm hn hL hM
theorem fine_len {L : List Tm} (h : Fine L) : ∀ x ∈ L, x.l.length ≤ 1000000 := fun x hx => Nat.le_trans (h x hx).2 (by omega)
theorem fine_of {L M : List Tm} {V : List TV} (h : Fine L) (hV : M.map Tm.v = V) (hs : ∀ v ∈ V, v ∈ L.map Tm.v) : Fine M := fun x hx => by
  obtain ⟨y, hy, e⟩ := List.mem_map.1 (hs x.v (hV ▸ List.mem_map.2 ⟨x, hx, rfl⟩))
  have e2 : y.l = x.l := congrArg Prod.snd e
  have := h y hy
  rwa [e2] at this
end Go.Proofs.YtdgbkpoickbidaaGreatDoor
namespace Go.Proofs.YtdgbkpoickbidaaGreatDoor
open Go.RowKit

set_option maxRecDepth 100000 in
set_option maxHeartbeats 16000000 in
theorem known_true (w : World) (G : Pow w) : Calls Tryz.prog 31 #[] w fun e w' => e = .returned (.bool true) ∧ Ext w w' := by
  have XX : Hid (Ext w w) := Lib.hid (Ext.refl w)
  have y1 : Ext (w) ((w).alloc (.cells #[.int .u32 1] 180)) := (Ext.refl _).alloc _
  have XX := Lib.hid (XX.out.trans y1)
  clear y1
  have b0_1 : Hid (Bk ((w).alloc (.cells #[.int .u32 1] 180)) (w.heap.size) 180 #[.int .u32 1]) := Lib.hid (Bk.at (by simp))
  have m1 : True := trivial
  go_enter Tryz.func31, Tryz.ntmps31
  go_wp2_with (first
    | (go_at_call 138; have mk := m1; clear m1 mk; go_loud (refine (at5_any _ _ _ _ _).mono ?_); rintro e w1 ⟨rfl, x1⟩; go_loud (have x1 := x1; have y2 : Ext ((w).alloc (.cells #[.int .u32 1] 180)) (w1) := x1; have b0_1 := Lib.hid (b0_1.out.ext y2); have XX := Lib.hid (XX.out.trans y2); clear y2; have y3 : Ext (w1) ((w1).alloc (.cells #[.int .u32 5] 180)) := (Ext.refl _).alloc _; have b0_1 := Lib.hid (b0_1.out.ext y3); have XX := Lib.hid (XX.out.trans y3); clear y3; have b1_5 : Hid (Bk ((w1).alloc (.cells #[.int .u32 5] 180)) (w1.heap.size) 180 #[.int .u32 5]) := Lib.hid (Bk.at (by simp)); have m2 : True := trivial))
    | (go_at_call 138; have mk := m2; clear m2 mk; go_loud (refine (at5_any _ _ _ _ _).mono ?_); rintro e w2 ⟨rfl, x2⟩; go_loud (have x2 := x2; have y4 : Ext ((w1).alloc (.cells #[.int .u32 5] 180)) (w2) := x2; have b0_1 := Lib.hid (b0_1.out.ext y4); have b1_5 := Lib.hid (b1_5.out.ext y4); have XX := Lib.hid (XX.out.trans y4); clear y4; have y5 : Ext (w2) ((w2).alloc (.cells #[.int .u32 2] 180)) := (Ext.refl _).alloc _; have b0_1 := Lib.hid (b0_1.out.ext y5); have b1_5 := Lib.hid (b1_5.out.ext y5); have XX := Lib.hid (XX.out.trans y5); clear y5; have b2_2 : Hid (Bk ((w2).alloc (.cells #[.int .u32 2] 180)) (w2.heap.size) 180 #[.int .u32 2]) := Lib.hid (Bk.at (by simp)); have m3 : True := trivial))
    | (go_at_call 138; have mk := m3; clear m3 mk; go_loud (refine (at5_any _ _ _ _ _).mono ?_); rintro e w3 ⟨rfl, x3⟩; go_loud (have x3 := x3; have y6 : Ext ((w2).alloc (.cells #[.int .u32 2] 180)) (w3) := x3; have b0_1 := Lib.hid (b0_1.out.ext y6); have b1_5 := Lib.hid (b1_5.out.ext y6); have b2_2 := Lib.hid (b2_2.out.ext y6); have XX := Lib.hid (XX.out.trans y6); clear y6; have y7 : Ext (w3) ((w3).alloc (.cells #[.int .u32 1] 180)) := (Ext.refl _).alloc _; have b0_1 := Lib.hid (b0_1.out.ext y7); have b1_5 := Lib.hid (b1_5.out.ext y7); have b2_2 := Lib.hid (b2_2.out.ext y7); have XX := Lib.hid (XX.out.trans y7); clear y7; have b3_1 : Hid (Bk ((w3).alloc (.cells #[.int .u32 1] 180)) (w3.heap.size) 180 #[.int .u32 1]) := Lib.hid (Bk.at (by simp)); have m4 : True := trivial))
    | (go_at_call 138; have mk := m4; clear m4 mk; go_loud (refine (at5_any _ _ _ _ _).mono ?_); rintro e w4 ⟨rfl, x4⟩; go_loud (have x4 := x4; have y8 : Ext ((w3).alloc (.cells #[.int .u32 1] 180)) (w4) := x4; have b0_1 := Lib.hid (b0_1.out.ext y8); have b1_5 := Lib.hid (b1_5.out.ext y8); have b2_2 := Lib.hid (b2_2.out.ext y8); have b3_1 := Lib.hid (b3_1.out.ext y8); have XX := Lib.hid (XX.out.trans y8); clear y8; have y9 : Ext (w4) ((w4).alloc (.cells #[.int .u64 3, .slice (some ⟨w.heap.size, 0, none⟩) 1 1, .int .u64 2, .slice (some ⟨w1.heap.size, 0, none⟩) 1 1, .int .u64 3, .slice (some ⟨w2.heap.size, 0, none⟩) 1 1, .int .u64 3, .slice (some ⟨w3.heap.size, 0, none⟩) 1 1] 26)) := (Ext.refl _).alloc _; have b0_1 := Lib.hid (b0_1.out.ext y9); have b1_5 := Lib.hid (b1_5.out.ext y9); have b2_2 := Lib.hid (b2_2.out.ext y9); have b3_1 := Lib.hid (b3_1.out.ext y9); have XX := Lib.hid (XX.out.trans y9); clear y9; have bt : Hid (Bk ((w4).alloc (.cells #[.int .u64 3, .slice (some ⟨w.heap.size, 0, none⟩) 1 1, .int .u64 2, .slice (some ⟨w1.heap.size, 0, none⟩) 1 1, .int .u64 3, .slice (some ⟨w2.heap.size, 0, none⟩) 1 1, .int .u64 3, .slice (some ⟨w3.heap.size, 0, none⟩) 1 1] 26)) (w4.heap.size) 26 #[.int .u64 3, .slice (some ⟨w.heap.size, 0, none⟩) 1 1, .int .u64 2, .slice (some ⟨w1.heap.size, 0, none⟩) 1 1, .int .u64 3, .slice (some ⟨w2.heap.size, 0, none⟩) 1 1, .int .u64 3, .slice (some ⟨w3.heap.size, 0, none⟩) 1 1]) := Lib.hid (Bk.at (by simp)); have m5 : True := trivial))
    | (go_at_call 137; have mk := m5; clear m5 mk; go_loud (refine (of_at (V := [(2, [5]), (3, [1])]) (some ⟨w4.heap.size, 0, none⟩) 4 4 [⟨3, some ⟨w.heap.size, 0, none⟩, 1, [1]⟩, ⟨2, some ⟨w1.heap.size, 0, none⟩, 1, [5]⟩, ⟨3, some ⟨w2.heap.size, 0, none⟩, 1, [2]⟩, ⟨3, some ⟨w3.heap.size, 0, none⟩, 1, [1]⟩] _ (Lib.hid (show ofV [(3, [1]), (2, [5]), (3, [2]), (3, [1])] = [(2, [5]), (3, [1])] by decide +kernel)) (Lib.hid rfl) (Lib.hid (tin_of bt.out rfl rfl (by omega) (fun x hx => by simp only [List.mem_cons, List.not_mem_nil, or_false] at hx; rcases hx with rfl | rfl | rfl | rfl <;> (first | exact word_of b0_1.out | exact word_of b1_5.out | exact word_of b2_2.out | exact word_of b3_1.out)))) (Lib.hid (fun x hx => by simp only [List.mem_cons, List.not_mem_nil, or_false] at hx; rcases hx with rfl | rfl | rfl | rfl <;> simp)) (by omega)).mono ?_); rintro e w5 ⟨Aa, ca, na, Ma, rfl, ha, ta, va, x5⟩; go_loud (have y10 : Ext ((w4).alloc (.cells #[.int .u64 3, .slice (some ⟨w.heap.size, 0, none⟩) 1 1, .int .u64 2, .slice (some ⟨w1.heap.size, 0, none⟩) 1 1, .int .u64 3, .slice (some ⟨w2.heap.size, 0, none⟩) 1 1, .int .u64 3, .slice (some ⟨w3.heap.size, 0, none⟩) 1 1] 26)) (w5) := x5; have XX := Lib.hid (XX.out.trans y10); clear y10; have TA := Lib.hid (ta.tin); have HNA := Lib.hid (ha); have HVA := Lib.hid (va); have FA : Hid (Fine Ma) := Lib.hid (fun x hx => by have q : x.v ∈ Ma.map Tm.v := List.mem_map.2 ⟨x, hx, rfl⟩; rw [va] at q; simp only [List.mem_cons, List.not_mem_nil, or_false] at q; rcases q with q | q <;> (have q2 : x.l = _ := congrArg Prod.snd q; rw [q2]; exact ⟨by intro u hu; simp at hu <;> omega, by simp⟩)); clear ta ha va; have HBm : Hid (w.heap.size ≤ w5.heap.size) := Lib.hid XX.out.size; have m6 : True := trivial))
    | (go_at_call 30; have mk := m6; clear m6 mk; go_loud (refine (new_any _).mono ?_); rintro e w6 ⟨rfl, bk, mp0, x6⟩; go_loud (have y11 : Ext (w5) (w6) := x6; have TA := Lib.hid (TA.out.ext y11); have XX := Lib.hid (XX.out.trans y11); clear y11; have GC := Lib.hid (bk); have MP := Lib.hid (mp0); clear bk mp0; have m7 : True := trivial))
    | (go_at_call 138; have mk := m7; clear m7 mk; go_loud (refine (at5_any _ _ _ _ _).mono ?_); rintro e w7 ⟨rfl, x7⟩; go_loud (have x7 := x7; have y12 : Ext (w6) (w7) := x7; have TA := Lib.hid (TA.out.ext y12); have GC := Lib.hid (GC.out.ext y12); have MP := Lib.hid (MP.out.ext y12); have XX := Lib.hid (XX.out.trans y12); clear y12; have y13 : Ext (w7) ((w7).alloc (.cells #[.int .u64 2, .slice none 0 0, .int .i64 1] 60)) := (Ext.refl _).alloc _; have TA := Lib.hid (TA.out.ext y13); have GC := Lib.hid (GC.out.ext y13); have MP := Lib.hid (MP.out.ext y13); have XX := Lib.hid (XX.out.trans y13); clear y13; have chp : Hid (Bk ((w7).alloc (.cells #[.int .u64 2, .slice none 0 0, .int .i64 1] 60)) (w7.heap.size) 60 #[.int .u64 2, .slice none 0 0, .int .i64 1]) := Lib.hid (Bk.at (by simp)); have m8 : True := trivial))
    | (go_at_call 32; have mk := m8; clear m8 mk; go_loud (refine (update_any w (w5.heap.size + 1) (w5.heap.size) _ _ _ (some ⟨w7.heap.size, 0, none⟩) 1 1 [⟨⟨2, none, 0, []⟩, 1⟩] _ G XX HBm GC MP (Lib.hid rfl) (Lib.hid (cin_of chp.out rfl rfl (by omega) (fun x hx => by rw [List.mem_singleton] at hx; subst hx; exact Sl.nil _ 1))) (Lib.hid (fun x hx => by rw [List.mem_singleton] at hx; subst hx; exact ⟨by show (0 : Int) ≤ 2 ∧ (2 : Int) ≤ _; omega, fun u hu => (nomatch hu), by show (0 : Nat) ≤ _; omega⟩)) (by omega) (by omega)).mono ?_); rintro e w8 ⟨Ap, cp, qp, Rp, Dp, Lp, rfl, UO⟩; go_loud (have ep : Rp.map Cg.cv = [((2, []), 1)] := UO.is.trans (by show movedV (ofV (liveV [])) (ofV (liveV (addAll [] [((2, []), 1)]))) = [((2, []), 1)]; decide +kernel); have lp : Lp.map Cg.cv = [((2, []), 1)] := UO.now.trans (by show addAll [] [((2, []), 1)] = [((2, []), 1)]; decide +kernel); obtain rfl := len_of UO.len ep; obtain ⟨ap, rfl, qp⟩ := UO.out.diff ep (i := 0) rfl; clear qp; have y14 : Upd (fun k => k = w5.heap.size) ((w7).alloc (.cells #[.int .u64 2, .slice none 0 0, .int .i64 1] 60)) w8 := UO.upd; have HMp := owns_map MP.out.own; have TA := Lib.hid (TA.out.turned y14 HMp); have GC := Lib.hid (bk_upd GC.out y14 (by omega)); have XX := Lib.hid (ext_upd XX.out y14 (fun k hk => by rw [hk]; exact HBm.out)); clear y14 HMp; have MP := Lib.hid UO.map; have Cp := Lib.hid UO.out; have Ep := Lib.hid ep; have LLp := Lib.hid lp; clear UO ep lp; have m9 : True := trivial))
    | (go_at_call 138; have mk := m9; clear m9 mk; go_loud (refine (at5_any _ _ _ _ _).mono ?_); rintro e w9 ⟨rfl, x9⟩; go_loud (have x9 := x9; have y15 : Ext (w8) (w9) := x9; have TA := Lib.hid (TA.out.ext y15); have GC := Lib.hid (GC.out.ext y15); have MP := Lib.hid (MP.out.ext y15); have Cp := Lib.hid (Cp.out.ext y15); have XX := Lib.hid (XX.out.trans y15); clear y15; have y16 : Ext (w9) ((w9).alloc (.cells #[.int .u64 3, .slice none 0 0, .int .i64 1] 60)) := (Ext.refl _).alloc _; have TA := Lib.hid (TA.out.ext y16); have GC := Lib.hid (GC.out.ext y16); have MP := Lib.hid (MP.out.ext y16); have Cp := Lib.hid (Cp.out.ext y16); have XX := Lib.hid (XX.out.trans y16); clear y16; have chq : Hid (Bk ((w9).alloc (.cells #[.int .u64 3, .slice none 0 0, .int .i64 1] 60)) (w9.heap.size) 60 #[.int .u64 3, .slice none 0 0, .int .i64 1]) := Lib.hid (Bk.at (by simp)); have m10 : True := trivial))
    | (go_at_call 32; have mk := m10; clear m10 mk; go_loud (refine (update_any w (w5.heap.size + 1) (w5.heap.size) _ _ _ (some ⟨w9.heap.size, 0, none⟩) 1 1 [⟨⟨3, none, 0, []⟩, 1⟩] _ G XX HBm GC MP (Lib.hid rfl) (Lib.hid (cin_of chq.out rfl rfl (by omega) (fun x hx => by rw [List.mem_singleton] at hx; subst hx; exact Sl.nil _ 1))) (Lib.hid (fun x hx => by rw [List.mem_singleton] at hx; subst hx; exact ⟨by show (0 : Int) ≤ 3 ∧ (3 : Int) ≤ _; omega, fun u hu => (nomatch hu), by show (0 : Nat) ≤ _; omega⟩)) (by omega) (by omega)).mono ?_); rintro e w10 ⟨Aq, cq, qq, Rq, Dq, Lq, rfl, UO⟩; go_loud (have eq : Rq.map Cg.cv = [] := UO.is.trans (by rw [LLp.out]; show movedV (ofV (liveV [((2, []), 1)])) (ofV (liveV (addAll [((2, []), 1)] [((3, []), 1)]))) = []; decide +kernel); have lq : Lq.map Cg.cv = [((2, []), 1), ((3, []), 1)] := UO.now.trans (by rw [LLp.out]; show addAll [((2, []), 1)] [((3, []), 1)] = [((2, []), 1), ((3, []), 1)]; decide +kernel); obtain rfl := len_of UO.len eq; have y17 : Upd (fun k => k = w5.heap.size) ((w9).alloc (.cells #[.int .u64 3, .slice none 0 0, .int .i64 1] 60)) w10 := UO.upd; have HMp := owns_map MP.out.own; have TA := Lib.hid (TA.out.turned y17 HMp); have GC := Lib.hid (bk_upd GC.out y17 (by omega)); have Cp := Lib.hid (Cp.out.turned y17 HMp); have XX := Lib.hid (ext_upd XX.out y17 (fun k hk => by rw [hk]; exact HBm.out)); clear y17 HMp; have MP := Lib.hid UO.map; have Cq := Lib.hid UO.out; have Eq := Lib.hid eq; have LLq := Lib.hid lq; clear UO eq lq; have m11 : True := trivial))
    | (go_at_call 138; have mk := m11; clear m11 mk; go_loud (refine (at5_any _ _ _ _ _).mono ?_); rintro e w11 ⟨rfl, x11⟩; go_loud (have x11 := x11; have y18 : Ext (w10) (w11) := x11; have TA := Lib.hid (TA.out.ext y18); have GC := Lib.hid (GC.out.ext y18); have MP := Lib.hid (MP.out.ext y18); have Cp := Lib.hid (Cp.out.ext y18); have Cq := Lib.hid (Cq.out.ext y18); have XX := Lib.hid (XX.out.trans y18); clear y18; have y19 : Ext (w11) ((w11).alloc (.cells #[.int .u64 2, .slice none 0 0, .int .i64 (-1)] 60)) := (Ext.refl _).alloc _; have TA := Lib.hid (TA.out.ext y19); have GC := Lib.hid (GC.out.ext y19); have MP := Lib.hid (MP.out.ext y19); have Cp := Lib.hid (Cp.out.ext y19); have Cq := Lib.hid (Cq.out.ext y19); have XX := Lib.hid (XX.out.trans y19); clear y19; have chr : Hid (Bk ((w11).alloc (.cells #[.int .u64 2, .slice none 0 0, .int .i64 (-1)] 60)) (w11.heap.size) 60 #[.int .u64 2, .slice none 0 0, .int .i64 (-1)]) := Lib.hid (Bk.at (by simp)); have m12 : True := trivial))
    | (go_at_call 32; have mk := m12; clear m12 mk; go_loud (refine (update_any w (w5.heap.size + 1) (w5.heap.size) _ _ _ (some ⟨w11.heap.size, 0, none⟩) 1 1 [⟨⟨2, none, 0, []⟩, (-1)⟩] _ G XX HBm GC MP (Lib.hid rfl) (Lib.hid (cin_of chr.out rfl rfl (by omega) (fun x hx => by rw [List.mem_singleton] at hx; subst hx; exact Sl.nil _ 1))) (Lib.hid (fun x hx => by rw [List.mem_singleton] at hx; subst hx; exact ⟨by show (0 : Int) ≤ 2 ∧ (2 : Int) ≤ _; omega, fun u hu => (nomatch hu), by show (0 : Nat) ≤ _; omega⟩)) (by omega) (by omega)).mono ?_); rintro e w12 ⟨Ar, cr, qr, Rr, Dr, Lr, rfl, UO⟩; go_loud (have er : Rr.map Cg.cv = [((2, []), -1), ((3, []), 1)] := UO.is.trans (by rw [LLq.out]; show movedV (ofV (liveV [((2, []), 1), ((3, []), 1)])) (ofV (liveV (addAll [((2, []), 1), ((3, []), 1)] [((2, []), -1)]))) = [((2, []), -1), ((3, []), 1)]; decide +kernel); have lr : Lr.map Cg.cv = [((3, []), 1)] := UO.now.trans (by rw [LLq.out]; show addAll [((2, []), 1), ((3, []), 1)] [((2, []), -1)] = [((3, []), 1)]; decide +kernel); obtain rfl := len_of UO.len er; obtain ⟨ar, rfl, qr⟩ := UO.out.diff er (i := 0) rfl; clear qr; have y20 : Upd (fun k => k = w5.heap.size) ((w11).alloc (.cells #[.int .u64 2, .slice none 0 0, .int .i64 (-1)] 60)) w12 := UO.upd; have HMp := owns_map MP.out.own; have TA := Lib.hid (TA.out.turned y20 HMp); have GC := Lib.hid (bk_upd GC.out y20 (by omega)); have Cp := Lib.hid (Cp.out.turned y20 HMp); have Cq := Lib.hid (Cq.out.turned y20 HMp); have XX := Lib.hid (ext_upd XX.out y20 (fun k hk => by rw [hk]; exact HBm.out)); clear y20 HMp; have MP := Lib.hid UO.map; have Cr := Lib.hid UO.out; have Er := Lib.hid er; have LLr := Lib.hid lr; clear UO er lr; obtain ⟨z, hz, vp0⟩ := Cp.out.diff Ep.out (i := 0) rfl; injection hz with hz; subst hz; replace vp0 : w12.cell? ⟨ap.block, ap.off + 2, none⟩ = some (.int .i64 (1)) := vp0; obtain ⟨z, hz, vr0⟩ := Cr.out.diff Er.out (i := 0) rfl; injection hz with hz; subst hz; replace vr0 : w12.cell? ⟨ar.block, ar.off + 2, none⟩ = some (.int .i64 (-1)) := vr0; obtain ⟨z, hz, vr1⟩ := Cr.out.diff Er.out (i := 1) rfl; injection hz with hz; subst hz; replace vr1 : w12.cell? ⟨ar.block, ar.off + 3 + 2, none⟩ = some (.int .i64 (1)) := vr1; have y21 : Ext (w12) ((w12).alloc (.cells #[.int .u32 5] 180)) := (Ext.refl _).alloc _; have TA := Lib.hid (TA.out.ext y21); have XX := Lib.hid (XX.out.trans y21); clear y21; have b12_5 : Hid (Bk ((w12).alloc (.cells #[.int .u32 5] 180)) (w12.heap.size) 180 #[.int .u32 5]) := Lib.hid (Bk.at (by simp)); have m13 : True := trivial))
    | (go_at_call 138; have mk := m13; clear m13 mk; go_loud (refine (at5_any _ _ _ _ _).mono ?_); rintro e w13 ⟨rfl, x13⟩; go_loud (have x13 := x13; have y22 : Ext ((w12).alloc (.cells #[.int .u32 5] 180)) (w13) := x13; have TA := Lib.hid (TA.out.ext y22); have b12_5 := Lib.hid (b12_5.out.ext y22); have XX := Lib.hid (XX.out.trans y22); clear y22; have y23 : Ext (w13) ((w13).alloc (.cells #[.int .u32 1] 180)) := (Ext.refl _).alloc _; have TA := Lib.hid (TA.out.ext y23); have b12_5 := Lib.hid (b12_5.out.ext y23); have XX := Lib.hid (XX.out.trans y23); clear y23; have b13_1 : Hid (Bk ((w13).alloc (.cells #[.int .u32 1] 180)) (w13.heap.size) 180 #[.int .u32 1]) := Lib.hid (Bk.at (by simp)); have m14 : True := trivial))
    | (go_at_call 138; have mk := m14; clear m14 mk; go_loud (refine (at5_any _ _ _ _ _).mono ?_); rintro e w14 ⟨rfl, x14⟩; go_loud (have x14 := x14; have y24 : Ext ((w13).alloc (.cells #[.int .u32 1] 180)) (w14) := x14; have TA := Lib.hid (TA.out.ext y24); have b12_5 := Lib.hid (b12_5.out.ext y24); have b13_1 := Lib.hid (b13_1.out.ext y24); have XX := Lib.hid (XX.out.trans y24); clear y24; have y25 : Ext (w14) ((w14).alloc (.cells #[.int .u64 2, .slice (some ⟨w12.heap.size, 0, none⟩) 1 1, .int .u64 3, .slice (some ⟨w13.heap.size, 0, none⟩) 1 1] 26)) := (Ext.refl _).alloc _; have TA := Lib.hid (TA.out.ext y25); have b12_5 := Lib.hid (b12_5.out.ext y25); have b13_1 := Lib.hid (b13_1.out.ext y25); have XX := Lib.hid (XX.out.trans y25); clear y25; have bs : Hid (Bk ((w14).alloc (.cells #[.int .u64 2, .slice (some ⟨w12.heap.size, 0, none⟩) 1 1, .int .u64 3, .slice (some ⟨w13.heap.size, 0, none⟩) 1 1] 26)) (w14.heap.size) 26 #[.int .u64 2, .slice (some ⟨w12.heap.size, 0, none⟩) 1 1, .int .u64 3, .slice (some ⟨w13.heap.size, 0, none⟩) 1 1]) := Lib.hid (Bk.at (by simp)); have m15 : True := trivial))
    | (go_at_call 37; have mk := m15; clear m15 mk; go_loud (refine (sameTimes_yes Aa (some ⟨w14.heap.size, 0, none⟩) na 2 ca 2 Ma [⟨2, some ⟨w12.heap.size, 0, none⟩, 1, [5]⟩, ⟨3, some ⟨w13.heap.size, 0, none⟩, 1, [1]⟩] _ HNA (Lib.hid rfl) TA (Lib.hid (tin_of bs.out rfl rfl (by omega) (fun x hx => by simp only [List.mem_cons, List.not_mem_nil, or_false] at hx; rcases hx with rfl | rfl <;> (first | exact word_of b12_5.out | exact word_of b13_1.out)))) (Lib.hid HVA.out)).mono ?_); rintro e w15 ⟨rfl, xs1⟩; go_loud (have y26 : Ext ((w14).alloc (.cells #[.int .u64 2, .slice (some ⟨w12.heap.size, 0, none⟩) 1 1, .int .u64 3, .slice (some ⟨w13.heap.size, 0, none⟩) 1 1] 26)) (w15) := xs1; have TA := Lib.hid (TA.out.ext y26); have XX := Lib.hid (XX.out.trans y26); clear y26; have y27 : Ext (w15) ((w15).alloc (.cells #[.int .u32 0] 180)) := (Ext.refl _).alloc _; have TA := Lib.hid (TA.out.ext y27); have XX := Lib.hid (XX.out.trans y27); clear y27; have b15_0 : Hid (Bk ((w15).alloc (.cells #[.int .u32 0] 180)) (w15.heap.size) 180 #[.int .u32 0]) := Lib.hid (Bk.at (by simp)); have m16 : True := trivial))
    | (go_at_call 138; have mk := m16; clear m16 mk; go_loud (refine (at5_any _ _ _ _ _).mono ?_); rintro e w16 ⟨rfl, x16⟩; go_loud (have x16 := x16; have y28 : Ext ((w15).alloc (.cells #[.int .u32 0] 180)) (w16) := x16; have TA := Lib.hid (TA.out.ext y28); have b15_0 := Lib.hid (b15_0.out.ext y28); have XX := Lib.hid (XX.out.trans y28); clear y28; have y29 : Ext (w16) ((w16).alloc (.cells #[.int .u64 3, .slice (some ⟨w15.heap.size, 0, none⟩) 1 1] 26)) := (Ext.refl _).alloc _; have TA := Lib.hid (TA.out.ext y29); have b15_0 := Lib.hid (b15_0.out.ext y29); have XX := Lib.hid (XX.out.trans y29); clear y29; have bj : Hid (Bk ((w16).alloc (.cells #[.int .u64 3, .slice (some ⟨w15.heap.size, 0, none⟩) 1 1] 26)) (w16.heap.size) 26 #[.int .u64 3, .slice (some ⟨w15.heap.size, 0, none⟩) 1 1]) := Lib.hid (Bk.at (by simp)); have m17 : True := trivial))
    | (go_at_call 139; have mk := m17; clear m17 mk; go_loud (refine (chjoin_at (V := [(3, [1])]) Aa (some ⟨w16.heap.size, 0, none⟩) ca 1 na 1 Ma [⟨3, some ⟨w15.heap.size, 0, none⟩, 1, [0]⟩] _ (Lib.hid (by rw [HVA.out]; show joinV [(2, [5]), (3, [1])] [(3, [0])] = _; decide +kernel)) HNA (Lib.hid rfl) TA (Lib.hid (tin_of bj.out rfl rfl (by omega) (fun x hx => by rw [List.mem_singleton] at hx; subst hx; exact word_of b15_0.out))) FA (Lib.hid (fun x hx => by simp only [List.mem_cons, List.not_mem_nil, or_false] at hx; rcases hx with rfl <;> (first | exact ⟨fun u hu => (nomatch hu), Nat.zero_le _⟩ | exact ⟨by intro u hu; simp at hu; omega, by simp⟩))) (by have q := HNA.out; have q2 := congrArg List.length HVA.out; rw [List.length_map] at q2; simp at q2; omega) (by omega)).mono ?_); rintro e w17 ⟨Aj, cj, nj, Mj, rfl, hj, tj, vj, xj⟩; go_loud (have y30 : Ext ((w16).alloc (.cells #[.int .u64 3, .slice (some ⟨w15.heap.size, 0, none⟩) 1 1] 26)) (w17) := xj; have TA := Lib.hid (TA.out.ext y30); have XX := Lib.hid (XX.out.trans y30); clear y30; have TJ := Lib.hid (tj.tin); have HNJ := Lib.hid (hj); have HVJ := Lib.hid (vj); clear tj hj vj; have y31 : Ext (w17) ((w17).alloc (.cells #[.int .u32 1] 180)) := (Ext.refl _).alloc _; have TA := Lib.hid (TA.out.ext y31); have TJ := Lib.hid (TJ.out.ext y31); have XX := Lib.hid (XX.out.trans y31); clear y31; have b17_1 : Hid (Bk ((w17).alloc (.cells #[.int .u32 1] 180)) (w17.heap.size) 180 #[.int .u32 1]) := Lib.hid (Bk.at (by simp)); have m18 : True := trivial))
    | (go_at_call 138; have mk := m18; clear m18 mk; go_loud (refine (at5_any _ _ _ _ _).mono ?_); rintro e w18 ⟨rfl, x18⟩; go_loud (have x18 := x18; have y32 : Ext ((w17).alloc (.cells #[.int .u32 1] 180)) (w18) := x18; have TA := Lib.hid (TA.out.ext y32); have TJ := Lib.hid (TJ.out.ext y32); have b17_1 := Lib.hid (b17_1.out.ext y32); have XX := Lib.hid (XX.out.trans y32); clear y32; have y33 : Ext (w18) ((w18).alloc (.cells #[.int .u64 3, .slice (some ⟨w17.heap.size, 0, none⟩) 1 1] 26)) := (Ext.refl _).alloc _; have TA := Lib.hid (TA.out.ext y33); have TJ := Lib.hid (TJ.out.ext y33); have b17_1 := Lib.hid (b17_1.out.ext y33); have XX := Lib.hid (XX.out.trans y33); clear y33; have bk2 : Hid (Bk ((w18).alloc (.cells #[.int .u64 3, .slice (some ⟨w17.heap.size, 0, none⟩) 1 1] 26)) (w18.heap.size) 26 #[.int .u64 3, .slice (some ⟨w17.heap.size, 0, none⟩) 1 1]) := Lib.hid (Bk.at (by simp)); have m19 : True := trivial))
    | (go_at_call 37; have mk := m19; clear m19 mk; go_loud (refine (sameTimes_yes Aj (some ⟨w18.heap.size, 0, none⟩) nj 1 cj 1 Mj [⟨3, some ⟨w17.heap.size, 0, none⟩, 1, [1]⟩] _ HNJ (Lib.hid rfl) TJ (Lib.hid (tin_of bk2.out rfl rfl (by omega) (fun x hx => by rw [List.mem_singleton] at hx; subst hx; exact word_of b17_1.out))) (Lib.hid HVJ.out)).mono ?_); rintro e w19 ⟨rfl, xs2⟩; go_loud (have y34 : Ext ((w18).alloc (.cells #[.int .u64 3, .slice (some ⟨w17.heap.size, 0, none⟩) 1 1] 26)) (w19) := xs2; have TA := Lib.hid (TA.out.ext y34); have XX := Lib.hid (XX.out.trans y34); clear y34; have y35 : Ext (w19) ((w19).alloc (.cells #[.int .u32 6] 180)) := (Ext.refl _).alloc _; have TA := Lib.hid (TA.out.ext y35); have XX := Lib.hid (XX.out.trans y35); clear y35; have b19_6 : Hid (Bk ((w19).alloc (.cells #[.int .u32 6] 180)) (w19.heap.size) 180 #[.int .u32 6]) := Lib.hid (Bk.at (by simp)); have m20 : True := trivial))
    | (go_at_call 138; have mk := m20; clear m20 mk; go_loud (refine (at5_any _ _ _ _ _).mono ?_); rintro e w20 ⟨rfl, x20⟩; go_loud (have x20 := x20; have y36 : Ext ((w19).alloc (.cells #[.int .u32 6] 180)) (w20) := x20; have TA := Lib.hid (TA.out.ext y36); have b19_6 := Lib.hid (b19_6.out.ext y36); have XX := Lib.hid (XX.out.trans y36); clear y36; have m21 : True := trivial))
    | (go_at_call 140; have mk := m21; clear m21 mk; go_loud (refine (beyond_at (v := true) Aa ca na Ma 2 (some ⟨w19.heap.size, 0, none⟩) 1 1 [6] _ (Lib.hid (by rw [HVA.out]; decide +kernel)) HNA TA (Lib.hid (word_of b19_6.out))).mono ?_); rintro e w21 ⟨rfl, xb6⟩; go_loud (have y37 : Ext (w20) (w21) := xb6; have TA := Lib.hid (TA.out.ext y37); have XX := Lib.hid (XX.out.trans y37); clear y37; have y38 : Ext (w21) ((w21).alloc (.cells #[.int .u32 4] 180)) := (Ext.refl _).alloc _; have TA := Lib.hid (TA.out.ext y38); have XX := Lib.hid (XX.out.trans y38); clear y38; have b21_4 : Hid (Bk ((w21).alloc (.cells #[.int .u32 4] 180)) (w21.heap.size) 180 #[.int .u32 4]) := Lib.hid (Bk.at (by simp)); have m22 : True := trivial))
    | (go_at_call 138; have mk := m22; clear m22 mk; go_loud (refine (at5_any _ _ _ _ _).mono ?_); rintro e w22 ⟨rfl, x22⟩; go_loud (have x22 := x22; have y39 : Ext ((w21).alloc (.cells #[.int .u32 4] 180)) (w22) := x22; have TA := Lib.hid (TA.out.ext y39); have b21_4 := Lib.hid (b21_4.out.ext y39); have XX := Lib.hid (XX.out.trans y39); clear y39; have m23 : True := trivial))
    | (go_at_call 140; have mk := m23; clear m23 mk; go_loud (refine (beyond_at (v := false) Aa ca na Ma 2 (some ⟨w21.heap.size, 0, none⟩) 1 1 [4] _ (Lib.hid (by rw [HVA.out]; decide +kernel)) HNA TA (Lib.hid (word_of b21_4.out))).mono ?_); rintro e w23 ⟨rfl, xb4⟩; go_loud (have y40 : Ext (w22) (w23) := xb4; have TA := Lib.hid (TA.out.ext y40); have XX := Lib.hid (XX.out.trans y40); clear y40; have m24 : True := trivial))
    | (go_at_call 138; have mk := m24; clear m24 mk; go_loud (refine (at5_any _ _ _ _ _).mono ?_); rintro e w24 ⟨rfl, x24⟩; go_loud (have x24 := x24; have y41 : Ext (w23) (w24) := x24; have TA := Lib.hid (TA.out.ext y41); have XX := Lib.hid (XX.out.trans y41); clear y41; have y42 : Ext (w24) ((w24).alloc (.cells #[.int .u64 3, .slice none 0 0] 26)) := (Ext.refl _).alloc _; have TA := Lib.hid (TA.out.ext y42); have XX := Lib.hid (XX.out.trans y42); clear y42; have bA : Hid (Bk ((w24).alloc (.cells #[.int .u64 3, .slice none 0 0] 26)) (w24.heap.size) 26 #[.int .u64 3, .slice none 0 0]) := Lib.hid (Bk.at (by simp)); have m25 : True := trivial))
    | (go_at_call 138; have mk := m25; clear m25 mk; go_loud (refine (at5_any _ _ _ _ _).mono ?_); rintro e w25 ⟨rfl, x25⟩; go_loud (have x25 := x25; have y43 : Ext ((w24).alloc (.cells #[.int .u64 3, .slice none 0 0] 26)) (w25) := x25; have TA := Lib.hid (TA.out.ext y43); have bA := Lib.hid (bA.out.ext y43); have XX := Lib.hid (XX.out.trans y43); clear y43; have m26 : True := trivial))
    | (go_at_call 110; have mk := m26; clear m26 mk; go_loud (refine (advance_at (v := (3, [])) (some ⟨w24.heap.size, 0, none⟩) 1 1 [⟨3, none, 0, []⟩] 2 none 0 0 [] _ (Lib.hid (show advV [(3, [])] (2, []) = _ by decide +kernel)) (Lib.hid rfl) (Lib.hid (tin_of bA.out rfl rfl (by omega) (fun x hx => by rw [List.mem_singleton] at hx; subst hx; exact Sl.nil _ 1))) (Lib.hid (fun x hx => by simp only [List.mem_cons, List.not_mem_nil, or_false] at hx; rcases hx with rfl <;> (first | exact ⟨fun u hu => (nomatch hu), Nat.zero_le _⟩ | exact ⟨by intro u hu; simp at hu; omega, by simp⟩))) (Lib.hid (Sl.nil _ 1)) (fun u hu => (nomatch hu)) (by omega) (by omega)).mono ?_); rintro e w26 ⟨Av, nv, cv, rfl, hv, ov, xv⟩; go_loud (have y44 : Ext (w25) (w26) := xv; have XX := Lib.hid (XX.out.trans y44); clear y44; have hfd : ∀ w : World, (Instr.field 26 (.agg #[.int .u64 3, .slice Av 0 cv]) 0).run Tryz.prog w = .ok (.int .u64 3) w := fun _ => (by kernel_rfl); have m27 : True := trivial))
    | fail)
  go_ret
  exact ⟨rfl, XX.out⟩
end Go.Proofs.YtdgbkpoickbidaaGreatDoor
namespace Go.Proofs.YtdgbkpoickbidaaGreatDoor
open Go.RowKit

/-! ### plain -/
def sumLen (M : List Gs) (i : Nat) : Nat := ((M.take i).map fun x => x.L.length).sum
theorem sumLen_zero (M : List Gs) : sumLen M 0 = 0 := by simp [sumLen]
theorem takeGs {M : List Gs} {i : Nat} (h : i < M.length) : M.take (i + 1) = M.take i ++ [M.getD i Gs.zero] := by
  rw [List.take_succ_eq_append_getElem h, List.getD_eq_getElem?_getD, List.getElem?_eq_getElem h]; rfl
theorem sumLen_succ {M : List Gs} {i : Nat} (h : i < M.length) : sumLen M (i + 1) = sumLen M i + (M.getD i Gs.zero).L.length := by
  unfold sumLen
  rw [takeGs h, List.map_append, List.sum_append]
  simp
theorem sumLen_le (M : List Gs) (i : Nat) : sumLen M i ≤ sumLen M M.length := by
  have h : sumLen M M.length = sumLen M i + ((M.drop i).map fun x => x.L.length).sum := by
    unfold sumLen
    rw [← List.sum_append, ← List.map_append, List.take_append_drop, List.take_length]
  omega
/-- counted so far: N says at least how long the lists are, and, where it is small, how many counters each time has -/
structure CntI (M : List Gs) (i N : Nat) : Prop where
  ge : sumLen M i + i ≤ N
  few : N ≤ 60 → ∀ x ∈ M.take i, ∀ y ∈ x.L, y.t.l.length ≤ 1000
/-- the same within a list -/
structure CntJ (M : List Gs) (L : List Cg) (i N k : Nat) : Prop where
  ge : sumLen M i + i + L.length + 1 ≤ N
  few : N ≤ 60 → ∀ x ∈ M.take i, ∀ y ∈ x.L, y.t.l.length ≤ 1000
  few2 : N ≤ 60 → ∀ y ∈ L.take k, y.t.l.length ≤ 1000
/-- the plain side of a round -/
structure CcR (M : List Gs) (i n m : Nat) (L L' : List Cg) (Lw Lt : List En) (Pw Pt : List (En × List Value)) : Prop where
  n : n = sumLen M i
  m : m ≤ sumLen M i
  kc : KeysC (L'.map Cg.cv)
  eq : ∀ t, getC (L'.map Cg.cv) t = getC (L.map Cg.cv) t
  inv : ∀ x ∈ L', InV x.t.v
  ew : Lw = Pw.map (·.1)
  et : Lt = Pt.map (·.1)
  lw : Lw.length ≤ 60 * i
  lt : Lt.length = i
  fw : ∀ p ∈ Pw, p.1.n ≤ 1000
  ft : ∀ p ∈ Pt, p.1.n ≤ 60
theorem few_of_P {P : List (En × List Value)} {b : Nat} (h1 : (P.map (·.1)).length ≤ 10000) (h2 : ∀ p ∈ P, p.1.n ≤ b) (hb : b ≤ 1000000) : Few (P.map (·.1)) := by
  refine ⟨h1, fun i hi => ?_⟩
  have h3 : i < P.length := by rwa [List.length_map] at hi
  unfold ena
  rw [List.getD_eq_getElem?_getD, List.getElem?_map, List.getElem?_eq_getElem h3]
  exact Nat.le_trans (h2 _ (List.getElem_mem h3)) hb
theorem live_inv {D : List CV} {v : TV} (h : ∀ x ∈ D, InV x.1) (hv : v ∈ ofV (liveV D)) : InV v := by
  have h1 := (((ofV_is _).mem v).1 hv).1
  unfold liveV at h1
  obtain ⟨x, hx, rfl⟩ := List.mem_map.1 h1
  exact h x (List.mem_filter.1 hx).1
theorem CcR.next {M : List Gs} {i n m m' : Nat} {L L1 L' L2 : List Cg} {Lw Lt : List En} {Pw Pt : List (En × List Value)} (h : CcR M i n m L L' Lw Lt Pw Pt) (hi : i < M.length) (hI : ∀ x ∈ M, ∀ y ∈ x.L, CgIn y) (hs : sumLen M M.length ≤ 60) (hl : ∀ x ∈ M, ∀ y ∈ x.L, y.t.l.length ≤ 1000)
    (e1 : L1.map Cg.cv = addAll (L.map Cg.cv) ((M.getD i Gs.zero).L.map Cg.cv)) (k1 : KeysC (L.map Cg.cv)) (i1 : ∀ x ∈ L1, InV x.t.v) (c1 : L1.length ≤ n + (M.getD i Gs.zero).L.length)
    (e2 : L2.map Cg.cv = allR (L'.map Cg.cv) ((M.getD i Gs.zero).L.map Cg.cv)) (c2 : m' ≤ m + (M.getD i Gs.zero).L.length) {n3 : Nat} {M3 : List Tm} (h3 : n3 = M3.length) (v3 : M3.map Tm.v = ofV (liveV (L1.map Cg.cv))) {A3 : Option Addr} {c3 : Nat} :
    CcR M (i + 1) (n + (M.getD i Gs.zero).L.length) m' L1 L2 (Lw ++ M3.map enT) (Lt ++ [⟨A3, n3, c3⟩]) (Pw ++ M3.map fun x => (enT x, wds x.l)) (Pt ++ [(⟨A3, n3, c3⟩, tmsC M3)]) := by
  have hx := getGs_mem hi
  have hM : M3.length ≤ 60 := by
    have a := congrArg List.length v3
    rw [List.length_map] at a
    have b := ofV_len (liveV (L1.map Cg.cv))
    have c := live_len (L1.map Cg.cv)
    rw [List.length_map] at c
    have d := sumLen_succ hi
    have e := sumLen_le M (i + 1)
    have f := h.n
    omega
  have hv : ∀ x ∈ M3, InV x.v := fun x hx => live_inv (inv_cv.1 i1) (by rw [← v3]; exact List.mem_map.2 ⟨x, hx, rfl⟩)
  refine ⟨by rw [sumLen_succ hi, h.n], by rw [sumLen_succ hi]; have := h.m; omega, by rw [e2]; exact allR_keys _ h.kc, fun t => ?_, ?_, ?_, ?_, ?_, ?_, fun p hp => ?_, fun p hp => ?_⟩
  · rw [e1, e2]
    refine allR_get _ h.kc k1 h.eq (fun x hx2 => ?_) t
    obtain ⟨y, hy, rfl⟩ := List.mem_map.1 hx2
    have := (hI _ hx y hy).d
    show IntKind.i64.wrap y.d = y.d
    rw [IntKind.wrap_i64]; omega
  · refine inv_cv.2 ?_
    rw [e2]
    refine allR_inv (inv_cv.1 h.inv) (fun x hx2 => ?_)
    obtain ⟨y, hy, rfl⟩ := List.mem_map.1 hx2
    have q := (hI _ hx y hy).t
    exact ⟨q.e, q.u, hl _ hx y hy⟩
  · rw [List.map_append, ← h.ew, List.map_map]; rfl
  · rw [List.map_append, ← h.et]; rfl
  · rw [List.length_append, List.length_map]; have := h.lw; omega
  · rw [List.length_append, h.lt]; rfl
  · rcases List.mem_append.1 hp with hp | hp
    · exact h.fw p hp
    · obtain ⟨x, hx, rfl⟩ := List.mem_map.1 hp
      exact (hv x hx).n
  · rcases List.mem_append.1 hp with hp | hp
    · exact h.ft p hp
    · rw [List.mem_singleton] at hp; subst hp; show n3 ≤ 60; omega
/-! ### memory -/
theorem Cin.stay {S : Nat → Prop} {w w' : World} {A : Option Addr} {c q B : Nat} {R : List Cg} (hq : q = R.length) (h : Cin w A c R) (o : Own w B 60 3 A q c (cgsC R)) (hl : ∀ x ∈ R, ∀ k, blk x.t.A x.t.c = some k → B ≤ k) (u : Upd S w w') (hS : ∀ k, B ≤ k → k < w.heap.size → ¬ S k) : Cin w' A c R := by
  refine ⟨?_, fun x hx => ?_⟩
  · rw [← hq]; exact (o.upd u (fun k hk => hS k (o.lt k hk).1 (o.lt k hk).2)).sl
  · refine Sl.upd (S := fun k => S k ∧ k < w.heap.size) (h.ls x hx) (u.mono (fun k a b => ⟨b, a⟩)) (fun k hk s => hS k (hl x hx k hk) s.2 s.1)
theorem Tout.stay {S : Nat → Prop} {w w' : World} {A : Option Addr} {c B : Nat} {R : List Tm} (h : Tout w B A c R) (u : Upd S w w') (hS : ∀ k, B ≤ k → k < w.heap.size → ¬ S k) : Tout w' B A c R :=
  ⟨h.own.upd u (fun k hk => hS k (h.own.lt k hk).1 (h.own.lt k hk).2), fun y hy => ⟨(h.ls y hy).1.upd u (fun k hk => hS k ((h.ls y hy).1.lt k hk).1 ((h.ls y hy).1.lt k hk).2), (h.ls y hy).2⟩, h.apart⟩
/-- the four blocks of the beginning -/
def tag0 (bm gc gr gb k : Nat) : Nat := if k = bm then 1 else if k = gc then 6 else if k = gr then 3 else if k = gb then 4 else 0
theorem CcM.start {w0 w : World} {gc bm gr gb : Nat} {D : DataW Value} (x : Ext w0 w) (h1 : w0.heap.size ≤ bm) (h2 : bm < gc) (h3 : gc < gr) (h4 : gr < gb) (cb : Bk w gc 178 #[.map (some bm)]) (mp : MapC w bm 0 D []) (br : Bk w gr 65 #[.slice none 0 0])
    (bb : Bk w gb 52 #[.slice none 0 0, .slice none 0 0, .slice none 0 0, .slice none 0 0, .slice none 0 0, .slice none 0 0, .slice none 0 0, .slice none 0 0, .slice none 0 0, .slice none 0 0, .slice none 0 0, .slice none 0 0, .slice none 0 0, .slice none 0 0]) :
    CcM w0 w gc bm 0 D [] gr none 0 0 [] gb (tag0 bm gc gr gb) [] [] En.zero En.zero [] [] := by
  have t1 : tag0 bm gc gr gb bm = 1 := by simp [tag0]
  have t2 : tag0 bm gc gr gb gc = 6 := by unfold tag0; rw [if_neg (by omega), if_pos rfl]
  have t3 : tag0 bm gc gr gb gr = 3 := by unfold tag0; rw [if_neg (by omega), if_neg (by omega), if_pos rfl]
  have t4 : tag0 bm gc gr gb gb = 4 := by unfold tag0; rw [if_neg (by omega), if_neg (by omega), if_neg (by omega), if_pos rfl]
  refine ⟨x, h1, by omega, fun k e => ?_, cb, mp, ⟨br, by omega, rfl, Own.nil _ _ _ _, (fun e => nomatch e), fun y hy => (nomatch hy), x⟩, bookR_new bb ⟨t4, bb.lt⟩, fun p hp => (nomatch hp), fun p hp => (nomatch hp), List.Pairwise.nil, List.Pairwise.nil, fun p hp => (nomatch hp), t1, t2, fun k hk => ?_, fun k hk => ?_, fun p hp => (nomatch hp), fun p hp => (nomatch hp)⟩
  · unfold tag0 at e
    split at e
    · omega
    · split at e
      · omega
      · split at e
        · omega
        · split at e
          · omega
          · omega
  · rcases hk with rfl | hk
    · exact t3
    · exact (nomatch hk)
  · obtain ⟨y, hy, _⟩ := hk
    exact (nomatch hy)
theorem changes_at (AL AM : Option Addr) (cL cM n n2 : Nat) (L M : List Cg) (w : World) (hn : Hid (n = L.length)) (hn2 : Hid (n2 = M.length)) (hL : Hid (Cin w AL cL L)) (hM : Hid (Cin w AM cM M)) (he : Hid (L.map Cg.cv = M.map Cg.cv)) :
    Calls Tryz.prog 36 #[.slice AL n cL, .slice AM n2 cM] w fun r w' => r = .returned (.bool true) ∧ Ext w w' := by
  have e : n2 = n := by rw [hn.out, hn2.out]; have := congrArg List.length he.out; simpa using this.symm
  subst e
  exact changes_yes AL AM cL cM n2 L M w hn hL hM he
set_option maxRecDepth 100000 in
set_option maxHeartbeats 16000000 in
theorem cc_any (A0 : Option Addr) (nM c0 : Nat) (M : List Gs) (e : Int) (At : Option Addr) (nt ct : Nat) (lt : List Int) (w : World) (G : Pow w) (hn : Hid (nM = M.length)) (hM : Hid (Gin w A0 c0 M)) (hI : Hid (∀ x ∈ M, (∀ y ∈ x.L, CgIn y) ∧ x.L.length ≤ 1048576)) (hl : nM ≤ 1048576) (ht : Hid (Sl w 1 At nt ct (wds lt))) (ut : U32 lt) (be : 0 ≤ e ∧ e ≤ 18446744073709551615) :
    Calls Tryz.prog 4 #[.slice A0 nM c0, .agg #[.int .u64 e, .slice At nt ct]] w fun r w' => r = .returned (.bool true) ∧ Ext w w' := by
  have UT := Lib.hid ut
  have BE := Lib.hid be
  clear ut be
  have hnt := ht.out.le
  go_enter Tryz.func4, Tryz.ntmps4
  go_wp2
  obtain ⟨wb, hwb⟩ : ∃ wb, wb = w.alloc (.cells #[.int .u64 e, .slice At nt ct] 26) := ⟨_, rfl⟩
  rw [← hwb]
  have XB : Hid (Ext w wb) := Lib.hid (by rw [hwb]; exact (Ext.refl _).alloc _)
  have BT : Hid (Bk wb w.heap.size 26 #[.int .u64 e, .slice At nt ct]) := Lib.hid (by rw [hwb]; exact Bk.new _ _ _)
  clear hwb
  go_loopg [5, 6] nM (fun z v5 v6 wr => ∃ (i N : Nat), z = nM - i ∧ i ≤ nM ∧ v6 = .int .i64 i ∧ v5 = .int .i64 N ∧ N ≤ 1152921504606847100 + i * 1048577 ∧ Hid (CntI M i N) ∧ Hid (wr = wb))
  case atStart => exact ⟨0, 0, rfl, Nat.zero_le _, rfl, rfl, by omega, Lib.hid ⟨by simp [sumLen], fun _ x hx => by simp at hx⟩, Lib.hid rfl⟩
  case round =>
    obtain ⟨i, N, rfl, hi, rfl, rfl, hN, HC, HE⟩ := hrel
    have hE := HE.out
    subst hE
    by_cases hlt : i < nM
    · have hiM : i < M.length := by rw [← hn.out]; exact hlt
      have HIM := Lib.hid hiM
      obtain ⟨ad, rfl, q0⟩ := (hM.out.ext XB.out).at hiM
      have hmem := getGs_mem hiM
      have hcin := (hM.out.ext XB.out).ls _ hmem
      have hlen := (hI.out _ hmem).2
      obtain ⟨x, hx⟩ : ∃ x, M.getD i Gs.zero = x := ⟨_, rfl⟩
      rw [hx] at q0 hcin hlen
      have HX := Lib.hid hx
      obtain ⟨Ax, cx, Lx⟩ := x
      obtain ⟨nx, hnx⟩ : ∃ nx, Lx.length = nx := ⟨_, rfl⟩
      replace q0 : wr.cell? (ad.add i) = some (.slice Ax Lx.length cx) := q0
      replace hlen : Lx.length ≤ 1048576 := hlen
      have HCI : Hid (Cin wr Ax cx Lx) := Lib.hid hcin
      rw [hnx] at q0 hlen
      have HNX := Lib.hid hnx
      clear hx hnx hmem hcin hiM
      go_wp2
      go_loopg [5, 7] nx (fun z v5 v7 wq => ∃ (k N2 : Nat), z = nx - k ∧ k ≤ nx ∧ v7 = .int .i64 k ∧ v5 = .int .i64 N2 ∧ N2 ≤ 1152921504606847100 + (i + 1) * 1048577 ∧ Hid (CntJ M Lx i N2 k) ∧ Hid (wq = wr))
      case atStart => exact ⟨0, N + (nx + 1), rfl, Nat.zero_le _, rfl, by go_num, by omega, Lib.hid ⟨by have := HC.out.ge; have := HNX.out; omega, fun h => HC.out.few (by omega), fun _ y hy => by simp at hy⟩, Lib.hid rfl⟩
      case round =>
        obtain ⟨k, N2, rfl, hk, rfl, rfl, hN2, HJ, HE2⟩ := hrel
        have hE := HE2.out
        subst hE
        by_cases hlk : k < nx
        · by_cases h60 : N2 ≤ 60
          · have hkL : k < Lx.length := by rw [HNX.out]; exact hlk
            have HKL := Lib.hid hkL
            obtain ⟨ad2, rfl, r0, r1, r2⟩ := HCI.out.at hkL
            have hcap := (HCI.out.ls _ (getG_mem hkL)).cap
            obtain ⟨y, hy⟩ : ∃ y, Lx.getD k Cg.zero = y := ⟨_, rfl⟩
            rw [hy] at r1 hcap
            have HY := Lib.hid hy
            obtain ⟨⟨ye, yA, yc, yl⟩, yd⟩ := y
            obtain ⟨ny, hny⟩ : ∃ ny, yl.length = ny := ⟨_, rfl⟩
            replace r1 : wr.cell? ⟨(ad2.add (k * 3)).block, (ad2.add (k * 3)).off + 1, none⟩ = some (.slice yA yl.length yc) := r1
            replace hcap : yl.length ≤ yc ∧ yc ≤ 9223372036854775807 := hcap
            rw [hny] at r1 hcap
            have HNY := Lib.hid hny
            clear hy hny r0 r2 hkL
            go_wp2
            go_roundg (nx - (k + 1))
            case measure => omega
            case rel =>
              refine ⟨k + 1, N2 + ny / 8, by omega, by omega, by go_num, by go_num, by omega, Lib.hid ⟨by have := HJ.out.ge; omega, fun h => HJ.out.few (by omega), fun h y hy => ?_⟩, Lib.hid rfl⟩
              rw [take_sG HKL.out, HY.out] at hy
              rcases List.mem_append.1 hy with hy | hy
              · exact HJ.out.few2 (by omega) y hy
              · rw [List.mem_singleton] at hy
                subst hy
                show yl.length ≤ 1000
                have := HNY.out
                omega
          · have hgt : ((N2 : Int) ≤ 60) = False := by simp; omega
            have HG := Lib.hid h60
            clear h60
            go_wp2
            go_roundg (nM - (i + 1))
            case measure => omega
            case rel => exact ⟨i + 1, N2, by omega, by omega, by go_num, rfl, by omega, Lib.hid ⟨by rw [sumLen_succ HIM.out, HX.out]; have := HJ.out.ge; show _ + Lx.length + _ ≤ _; omega, fun h => absurd h HG.out⟩, Lib.hid rfl⟩
        · obtain rfl : k = nx := by omega
          go_wp2
          go_roundg (nM - (i + 1))
          case measure => omega
          case rel =>
            refine ⟨i + 1, N2, by omega, by omega, by go_num, rfl, by omega, Lib.hid ⟨by rw [sumLen_succ HIM.out, HX.out]; have := HJ.out.ge; show _ + Lx.length + _ ≤ _; omega, fun h x hx => ?_⟩, Lib.hid rfl⟩
            rw [takeGs HIM.out, HX.out] at hx
            rcases List.mem_append.1 hx with hx | hx
            · exact HJ.out.few h x hx
            · rw [List.mem_singleton] at hx
              subst hx
              intro y hy
              exact HJ.out.few2 h y (by rw [List.take_of_length_le (by rw [HNX.out]; exact Nat.le_refl _)]; exact hy)
    · obtain rfl : i = nM := by omega
      have b0 : wr.cell? ⟨w.heap.size, 1, none⟩ = some (.slice At nt ct) := BT.out.cell 1
      by_cases h60 : N ≤ 60
      · by_cases ht60 : nt ≤ 60
        · have HS : Hid (sumLen M M.length + i ≤ 60) := Lib.hid (by have := HC.out.ge; rw [← hn.out]; omega)
          have HL : Hid (∀ x ∈ M, ∀ y ∈ x.L, y.t.l.length ≤ 1000) := Lib.hid (fun x hx => HC.out.few h60 x (by rw [List.take_of_length_le (by rw [hn.out]; exact Nat.le_refl _)]; exact hx))
          have HIV : Hid (InV (e, lt)) := Lib.hid ⟨BE.out, UT.out, by have := ht.out.wlen; show lt.length ≤ 1000; omega⟩
          have HV : Hid (∀ x ∈ M, ∀ y ∈ x.L, InV y.t.v) := Lib.hid (fun x hx y hy => by have q := ((hI.out x hx).1 y hy).t; exact ⟨q.e, q.u, HL.out x hx y hy⟩)
          have hi60 : i ≤ 60 := by have := HS.out; omega
          have p1 : True := trivial
          go_wp2_with (first
            | (go_at_call 30; have mk := p1; clear p1 mk; go_loud (refine (new_any _).mono ?_); rintro e_ w1 ⟨rfl, bk, mp0, x1⟩; have X1 := Lib.hid x1; have CB := Lib.hid bk; have MP := Lib.hid mp0; clear bk mp0 x1; have p2 : True := trivial)
            | (go_at_call 31; have mk := p2; clear p2 mk; go_loud (refine (known_true _ (G.ext (XB.out.trans X1.out))).mono ?_); rintro e_ w2 ⟨rfl, x2⟩; have X2 := Lib.hid x2; clear x2)
            | fail)
          obtain ⟨w4, hw4⟩ : ∃ w4, w4 = (w2.alloc (.cells #[.slice none 0 0] 65)).alloc (.cells #[.slice none 0 0, .slice none 0 0, .slice none 0 0, .slice none 0 0, .slice none 0 0, .slice none 0 0, .slice none 0 0, .slice none 0 0, .slice none 0 0, .slice none 0 0, .slice none 0 0, .slice none 0 0, .slice none 0 0, .slice none 0 0] 52) := ⟨_, rfl⟩
          rw [← hw4]
          obtain ⟨gr, hgr⟩ : ∃ g, g = w2.heap.size := ⟨_, rfl⟩
          rw [← hgr]
          obtain ⟨gb, hgb0⟩ : ∃ g, g = gr + 1 := ⟨_, rfl⟩
          rw [← hgb0]
          have hgb : gb = (w2.alloc (.cells #[.slice none 0 0] 65)).heap.size := by rw [hgb0, hgr]; simp
          obtain ⟨bm, hbm⟩ : ∃ g, g = wr.heap.size := ⟨_, rfl⟩
          rw [← hbm] at CB MP ⊢
          have X4 : Hid (Ext wr w4) := Lib.hid (by rw [hw4]; exact ((X1.out.trans X2.out).alloc _).alloc _)
          have HM0 : Hid (CcM wr w4 (bm + 1) bm 0 (.map []) [] gr none 0 0 [] gb (tag0 bm (bm + 1) gr gb) [] [] En.zero En.zero [] []) := Lib.hid (by
            have y2 : Ext w1 w4 := by rw [hw4]; exact (X2.out.alloc _).alloc _
            have l1 := (CB.out.ext X2.out).lt
            refine CcM.start X4.out (by omega) (by omega) (by omega) (by rw [hgb, hgr]; simp) (CB.out.ext y2) (MP.out.ext y2) ?_ ?_
            · rw [hw4, hgr]; exact (Bk.new w2 _ _).alloc _
            · rw [hw4, hgb]; exact Bk.new _ _ _)
          have HR0 : Hid (CcR M 0 0 0 [] [] [] [] [] []) := Lib.hid ⟨(sumLen_zero M).symm, Nat.zero_le _, List.Pairwise.nil, fun _ => rfl, fun x hx => (nomatch hx), rfl, rfl, Nat.le_refl _, rfl, fun p hp => (nomatch hp), fun p hp => (nomatch hp)⟩
          have HMW : Hid (Gin wr A0 c0 M) := Lib.hid (hM.out.ext XB.out)
          have HTW : Hid (Sl wr 1 At nt ct (wds lt)) := Lib.hid (ht.out.ext XB.out)
          have GW := Lib.hid (G.ext XB.out)
          clear hw4 hgr hgb hgb0 hbm CB MP X1 X2 b0 HC hN
          obtain ⟨wa, hwa⟩ : ∃ wa, wa = wr := ⟨_, rfl⟩
          subst hwa
          clear X4
          go_wp2
          go_loopg [11] i (fun z v11 wr => ∃ (j n m : Nat) (D : DataW Value) (L : List Cg) (A : Option Addr) (c : Nat) (L' : List Cg) (tg : Nat → Nat) (Lw Lt : List En) (w_ t_ : En) (Pw Pt : List (En × List Value)), z = i - j ∧ j ≤ i ∧ v11 = .int .i64 j ∧ Hid (CcM wa wr (bm + 1) bm n D L gr A c m L' gb tg Lw Lt w_ t_ Pw Pt) ∧ Hid (CcR M j n m L L' Lw Lt Pw Pt))
          case atStart => exact ⟨0, 0, 0, _, [], none, 0, [], _, [], [], _, _, [], [], rfl, Nat.zero_le _, rfl, HM0, HR0⟩
          case round =>
            clear HM0 HR0
            obtain ⟨j, n, m, D, L, A, c, L', tg, Lw, Lt, w_, t_, Pw, Pt, rfl, hj, rfl, HM, HR⟩ := hrel
            by_cases hltj : j < i
            · have hjM : j < M.length := by rw [← hn.out]; exact hltj
              have HJM := Lib.hid hjM
              have hmem := getGs_mem hjM
              have HINX := Lib.hid (HV.out _ hmem)
              have hcin := HMW.out.ls _ hmem
              have hn60 : n ≤ 60 := by have a := HR.out.n; have b := sumLen_le M j; have c := HS.out; omega
              have hm60 : m ≤ 60 := by have a := HR.out.m; have b := sumLen_le M j; have c := HS.out; omega
              have hsl : sumLen M (j + 1) ≤ 60 := by have b := sumLen_le M (j + 1); have c := HS.out; omega
              have hq0 : ∀ W, Ext wa W → ∃ ad, A0 = some ad ∧ W.cell? (ad.add j) = some (.slice (M.getD j Gs.zero).A (M.getD j Gs.zero).L.length (M.getD j Gs.zero).c) := fun W x => (HMW.out.ext x).at hjM
              have hlen : (M.getD j Gs.zero).L.length ≤ 60 := by have a := sumLen_succ hjM; omega
              obtain ⟨x, hx⟩ : ∃ x, M.getD j Gs.zero = x := ⟨_, rfl⟩
              rw [hx] at hq0 hcin HINX hlen
              have HX := Lib.hid hx
              obtain ⟨Ax, cx, Lx⟩ := x
              obtain ⟨nx, hnx⟩ : ∃ nx, Lx.length = nx := ⟨_, rfl⟩
              dsimp only at hq0 hcin HINX hlen
              have HCI : Hid (Cin wa Ax cx Lx) := Lib.hid hcin
              have HNX : Hid (nx = Lx.length) := Lib.hid hnx.symm
              rw [hnx] at hlen
              simp only [hnx] at hq0
              have HQ0 := Lib.hid hq0
              clear hx hnx hmem hcin hjM hq0 hsl
              obtain ⟨ad, eA, q0⟩ := HQ0.out wr HM.out.ext
              subst eA
              have p1 : True := trivial
              go_wp2_with (first
                | (go_at_call 32; have mk := p1; clear p1 mk; go_loud (refine (update_any wa (bm + 1) bm n D L Ax cx nx Lx _ GW.out (Lib.hid HM.out.ext) (Lib.hid HM.out.lb) (Lib.hid HM.out.cb) (Lib.hid HM.out.mp) HNX (Lib.hid (HCI.out.ext HM.out.ext)) HINX (by omega) (by omega)).mono ?_); rintro e_ w1 ⟨A1, c1, q1, R1, D1, L1, rfl, u1⟩; have U1 := Lib.hid u1; have H1 := Lib.hid (HM.out.cupd u1); obtain ⟨ad_, eA_, q1'⟩ := HQ0.out w1 H1.out.ext; cases eA_; clear u1; have p2 : True := trivial)
                | (go_at_call 33; have mk := p2; clear p2 mk; go_loud (refine (rupd_any gr m c A L' Ax cx nx Lx wa _ (Lib.hid H1.out.rc) (Lib.hid HR.out.kc) (Lib.hid HR.out.inv) HNX HCI HINX (by omega) (by omega)).mono ?_); rintro e_ w2 ⟨A2, c2, q2, R2, A', c', m', L2, rfl, u2⟩; have U2 := Lib.hid u2; have H2 := Lib.hid (H1.out.rupd u2); clear u2; have p3 : True := trivial)
                | (go_at_call 34; have mk := p3; clear p3 mk; go_loud (refine (frontier_any (bm + 1) bm (n + nx) D1 L1 _ (Lib.hid H2.out.cb) (Lib.hid H2.out.mp) (by omega)).mono ?_); rintro e_ w3 ⟨A3, c3, n3, M3, rfl, h3, t3, v3, x3⟩; have HN3 := Lib.hid h3; have HT3 := Lib.hid t3; have HV3 := Lib.hid v3; have X3 := Lib.hid x3; have H3 := Lib.hid (H2.out.told x3 h3 t3); clear h3 t3 v3 x3; have hn3 : n3 ≤ 60 := (by have a := congrArg List.length HV3.out; rw [List.length_map] at a; have b := ofV_len (liveV (L1.map Cg.cv)); have d := live_len (L1.map Cg.cv); rw [List.length_map] at d; have f := H1.out.mp.cnt; have g := sumLen_succ HJM.out; rw [HX.out] at g; have g2 : nx = Lx.length := HNX.out; have g3 := sumLen_le M (j + 1); have g4 := HS.out; have g5 := HR.out.n; have g6 := HN3.out; replace g : _ = _ + Lx.length := g; omega); have p4 : True := trivial)
                | (go_at_call 35; have mk := p4; clear p4 mk; go_loud (refine (bookTimes_any gb n3 c3 _ A3 M3 Lw Lt w_ t_ _ (Lib.hid H3.out.bo) (by have a := HR.out.lw; omega) (by have a := HR.out.lt; omega) HN3 (Lib.hid (by have q := HT3.out.tin.sl; rwa [← HN3.out] at q)) (Lib.hid (fun k hk q => by have a := H3.out.tt (⟨A3, n3, c3⟩, tmsC M3) (List.mem_append_right _ (List.mem_singleton.2 rfl)) k hk; have b := q.1; omega))).mono ?_); rintro e_ w4 ⟨rfl, yw, yt, b4, u4⟩; have U4 := Lib.hid u4; have H4 := Lib.hid (H3.out.book rfl b4 u4); clear b4 u4)
                | fail)
              clear q0 q1'
              have s1 := U1.out.upd.size
              have s2 := U2.out.upd.size
              have s3 := X3.out.size
              have HXX : Hid (Cin w4 A1 c1 R1) := Lib.hid (by
                have a := Cin.stay U1.out.len U1.out.out U1.out.own U1.out.far U2.out.upd (fun k h1 h2 q => by have := (HM.out.rc.low k q).2; omega)
                have o := U1.out.own.upd U2.out.upd (fun k hk q => by have := (HM.out.rc.low k q).2; have := (U1.out.own.lt k hk).1; omega)
                refine Cin.stay U1.out.len (a.ext X3.out) (o.ext X3.out) U1.out.far U4.out (fun k h1 h2 q => ?_)
                have q1 := q.1
                unfold tagN at q1
                split at q1
                · split at q1
                  · split at q1
                    · omega
                    · omega
                  · omega
                · omega)
              have HYY : Hid (Cin w4 A2 c2 R2) := Lib.hid ⟨by
                have o := (U2.out.own.ext X3.out).upd U4.out (fun k hk q => by
                  have h1 := (U2.out.own.lt k hk).1
                  have h2 := (U2.out.own.lt k hk).2
                  have q1 := q.1
                  unfold tagN at q1
                  split at q1
                  · split at q1
                    · omega
                    · omega
                  · omega)
                have := o.sl
                rwa [U2.out.len] at this, fun x hx => (U2.out.ls x hx).ext H4.out.ext⟩
              have HFT : Hid (Tin w4 A3 c3 M3) := Lib.hid (HT3.out.stay U4.out (fun k h1 h2 q => by
                have q1 := q.1
                unfold tagN at q1
                split at q1
                · omega
                · omega)).tin
              have HCR : Hid (CcR M (j + 1) (n + nx) m' L1 L2 (Lw ++ M3.map enT) (Lt ++ [⟨A3, n3, c3⟩]) (Pw ++ M3.map fun x => (enT x, wds x.l)) (Pt ++ [(⟨A3, n3, c3⟩, tmsC M3)])) := Lib.hid (by
                have e1 : (M.getD j Gs.zero).L = Lx := by rw [HX.out]
                have := HR.out.next (L1 := L1) (L2 := L2) (m' := m') (A3 := A3) (c3 := c3) HJM.out (fun x hx => (hI.out x hx).1) (by have := HS.out; omega) HL.out (by rw [e1]; exact U1.out.now) HM.out.mp.keys U1.out.map.inv (by rw [e1, ← HNX.out]; exact U1.out.map.cnt) (by rw [e1]; exact U2.out.now) (by rw [e1]; have a := U2.out.more; have b := HM.out.rc.len; omega) HN3.out HV3.out
                rwa [e1, ← HNX.out] at this)
              have HRR : Hid (R1.map Cg.cv = R2.map Cg.cv) := Lib.hid (by
                rw [U1.out.is, U2.out.is, ← U1.out.now, ← U2.out.now, live_same HR.out.kc HM.out.mp.keys HR.out.eq, live_same HCR.out.kc U1.out.map.keys HCR.out.eq])
              have hm61 : m' ≤ 200 := by have a := HCR.out.m; have b := sumLen_le M (j + 1); have d := HS.out; omega
              have HQ1 := Lib.hid U1.out.len
              have HQ2 := Lib.hid U2.out.len
              have HBT : Hid (Bk w4 w.heap.size 26 #[.int .u64 e, .slice At nt ct]) := Lib.hid (BT.out.ext H4.out.ext)
              have HGW : Hid (Pow w4) := Lib.hid (GW.out.ext H4.out.ext)
              have HTT : Hid (Sl w4 1 At nt ct (wds lt)) := Lib.hid (HTW.out.ext H4.out.ext)
              clear s1 s2 s3 U1 U2 U4 X3 H1 H2 H3 HM HR
              have XD : Ext w4 w4.drew := (Ext.refl _).drew
              obtain ⟨cnt, hcnt⟩ : ∃ z, getC (L1.map Cg.cv) (e, lt) = z := ⟨_, rfl⟩
              have HC1 := Lib.hid hcnt
              have HC2 : Hid (getC (L2.map Cg.cv) (e, lt) = cnt) := Lib.hid (by rw [HCR.out.eq]; exact hcnt)
              clear hcnt
              go_wp2
              refine wp_region_ord [0,0,3,7,15,31,31,95,255,511,1023,2047,4095,4095,16383,4095,4095,131071,262143,524287] (.flo [0,1] (.one 2 (.flo [3,4,6] (.pur [5] (.one 7 (.one 8 (.flo [9,10,11,12,13,15,16] (.ext 14 (.one 17 (.flo [18,19] (.fin))))))))))) (by kernel_rfl) (by kernel_rfl) (by intro _ _ d _ _ h; cases d <;> exact h) ?_
              (refine ord_flo (pick_cons rfl (pick_cons rfl pick_nil)) ?_; (repeat (go_big_quiet_step (fail))); refine wpQuiet_nil ?_; show ordWalk _ _ _ _ _ _ _)
              refine ord_one (pick_cons rfl pick_nil) ?_; intro K_ hK_
              have p1 : True := trivial
              go_wp2_with (go_at_call 36; have mk := p1; clear p1 mk; go_loud (refine (changes_at A1 A2 c1 c2 q1 q2 R1 R2 _ HQ1 HQ2 (Lib.hid (HXX.out.ext XD)) (Lib.hid (HYY.out.ext XD)) HRR).mono ?_); rintro e_ w5 ⟨rfl, x5⟩; have X5 := Lib.hid (XD.trans x5); clear x5)
              have g5 : ∀ y : Xt w5, y.W.cell? ⟨gr, 0, none⟩ = some (.slice A' m' c') := fun y => (H4.out.rc.bk.ext (X5.out.trans y.x)).cell 0
              (refine ord_flo (pick_cons rfl (pick_cons rfl (pick_cons rfl pick_nil))) ?_; (repeat (go_big_quiet_step (fail))); refine wpQuiet_nil ?_; show ordWalk _ _ _ _ _ _ _)
              (refine ord_pur (pick_cons rfl pick_nil) ?_; (repeat (go_big_quiet_step (fail))); refine wpQuiet_nil ?_; show ordWalk _ _ _ _ _ _ _)
              refine ord_one (pick_cons rfl pick_nil) ?_; intro K_ hK_
              have p1 : True := trivial
              go_wp2_with (go_at_call 38; have mk := p1; clear p1 mk; go_loud (refine (rfront_any gr m' c' A' L2 _ (Lib.hid (H4.out.rc.bk.ext X5.out)) (Lib.hid H4.out.rc.len) (Lib.hid (H4.out.rc.cin.ext X5.out)) (Lib.hid (cg_fine HCR.out.inv)) (by omega)).mono ?_); rintro e_ w6 ⟨A6, c6, n6, M6, rfl, h6, t6, v6, x6⟩; have HN6 := Lib.hid h6; have HT6 := Lib.hid t6; have HV6 := Lib.hid v6; have X6 := Lib.hid (X5.out.trans x6); clear h6 t6 v6 x6)
              refine ord_one (pick_cons rfl pick_nil) ?_; intro K_ hK_
              have p1 : True := trivial
              go_wp2_with (go_at_call 37; have mk := p1; clear p1 mk; go_loud (refine (sameTimes_yes A3 A6 n3 n6 c3 c6 M3 M6 _ HN3 HN6 (Lib.hid (HFT.out.ext X6.out)) HT6 (Lib.hid (by rw [HV3.out, HV6.out]; exact (live_same HCR.out.kc H4.out.mp.keys HCR.out.eq).symm))).mono ?_); rintro e_ w7 ⟨rfl, x7⟩; have X7 := Lib.hid (X6.out.trans x7); clear x7)
              have b0 : ∀ y : Xt w7, y.W.cell? ⟨w.heap.size, 0, none⟩ = some (.int .u64 e) := fun y => (HBT.out.ext (X7.out.trans y.x)).cell 0
              have b1 : ∀ y : Xt w7, y.W.cell? ⟨w.heap.size, 1, none⟩ = some (.slice At nt ct) := fun y => (HBT.out.ext (X7.out.trans y.x)).cell 1
              (refine ord_flo (pick_cons rfl (pick_cons rfl (pick_cons rfl (pick_cons rfl (pick_cons rfl (pick_cons rfl (pick_cons rfl pick_nil))))))) ?_; (repeat (go_big_quiet_step (fail))); refine wpQuiet_nil ?_; show ordWalk _ _ _ _ _ _ _)
              refine ord_ext (pick_cons rfl pick_nil) ?_; intro K_ hK_
              have p1 : True := trivial
              go_wp2_with (go_at_call 39; have mk := p1; clear p1 mk; go_loud (refine (chcount_any (bm + 1) bm (n + nx) D1 L1 e At nt ct lt _ (HGW.out.ext X7.out) (Lib.hid (H4.out.cb.ext X7.out)) (Lib.hid (H4.out.mp.ext X7.out)) (Lib.hid (HTT.out.ext X7.out)) HIV (by omega)).mono ?_); rintro e_ w8 ⟨rfl, x8⟩; rw [HC1.out]; have X8 := Lib.hid x8; clear x8)
              refine ordNext.mk X8.out ?_
              refine ord_one (pick_cons rfl pick_nil) ?_; intro K_ hK_
              have p1 : True := trivial
              go_wp2_with (go_at_call 40; have mk := p1; clear p1 mk; go_loud (refine (rcount_any gr m' c' A' L2 e At nt ct lt _ (Lib.hid (H4.out.rc.bk.ext (X7.out.trans X8.out))) (Lib.hid H4.out.rc.len) (Lib.hid (H4.out.rc.cin.ext (X7.out.trans X8.out))) (Lib.hid HCR.out.kc) (Lib.hid (cg_fine HCR.out.inv)) (Lib.hid (HTT.out.ext (X7.out.trans X8.out))) UT (by omega)).mono ?_); rintro e_ w9 ⟨rfl, x9⟩; rw [HC2.out]; have X9 := Lib.hid ((X7.out.trans X8.out).trans x9); clear x9)
              (refine ord_flo (pick_cons rfl (pick_cons rfl pick_nil)) ?_; (repeat (go_big_quiet_step (fail))); refine wpQuiet_nil ?_; show ordWalk _ _ _ _ _ _ _)
              refine ord_fin ?_
              go_wp2
              go_roundg (i - (j + 1))
              case measure => omega
              case rel => exact ⟨j + 1, n + nx, m', D1, L1, A', c', L2, _, _, _, yw, yt, _, _, by omega, by omega, by go_num, Lib.hid (H4.out.grow X9.out (t := 0) (by decide)), HCR⟩
            · obtain rfl : j = i := by omega
              have lw := lists_of HM.out.hw HM.out.fw
              have lt_ := lists_of HM.out.ht HM.out.ft
              rw [← HR.out.ew] at lw
              rw [← HR.out.et] at lt_
              have HLW := Lib.hid lw
              have HLT := Lib.hid lt_
              clear lw lt_
              have mem_w : ∀ k, Foot Lw k → ∃ p ∈ Pw, p.1.b = some k := fun k hk => by
                rw [HR.out.ew] at hk
                obtain ⟨x, hx, hb⟩ := foot_mem hk
                obtain ⟨p, hp, rfl⟩ := List.mem_map.1 hx
                exact ⟨p, hp, hb⟩
              have mem_t : ∀ k, Foot Lt k → ∃ p ∈ Pt, p.1.b = some k := fun k hk => by
                rw [HR.out.et] at hk
                obtain ⟨x, hx, hb⟩ := foot_mem hk
                obtain ⟨p, hp, rfl⟩ := List.mem_map.1 hx
                exact ⟨p, hp, hb⟩
              have HFW : Hid (Few Lw) := Lib.hid (by rw [HR.out.ew]; exact few_of_P (by rw [← HR.out.ew]; have := HR.out.lw; omega) HR.out.fw (by decide))
              have HFT : Hid (Few Lt) := Lib.hid (by rw [HR.out.et]; exact few_of_P (by rw [← HR.out.et]; have := HR.out.lt; omega) HR.out.ft (by decide))
              have HWT : Hid (∀ k, Foot Lw k → ¬ Foot Lt k) := Lib.hid (fun k h1 h2 => by
                obtain ⟨p, hp, e1⟩ := mem_w k h1
                obtain ⟨q, hq, e2⟩ := mem_t k h2
                exact HM.out.wt p hp q hq k e1 e2)
              have HNR : Hid (∀ k, OwnS Lw Lt k → ¬ (tg k = 4 ∧ k < wr.heap.size)) := Lib.hid (fun k hk q => by
                rcases hk with hk | hk
                · obtain ⟨p, hp, e1⟩ := mem_w k hk
                  have := HM.out.tw p hp k e1
                  omega
                · obtain ⟨p, hp, e1⟩ := mem_t k hk
                  have := HM.out.tt p hp k e1
                  omega)
              have HLO : Hid (∀ k, OwnS Lw Lt k → wa.heap.size ≤ k) := Lib.hid (fun k hk => by
                rcases hk with hk | hk
                · obtain ⟨p, hp, e1⟩ := mem_w k hk
                  exact ((HM.out.hw p hp).lt k e1).1
                · obtain ⟨p, hp, e1⟩ := mem_t k hk
                  exact ((HM.out.ht p hp).lt k e1).1)
              clear mem_w mem_t
              go_wp2_with (go_at_call 29; go_loud (refine (bookOwn_any gb wa.heap.size _ Lw Lt w_ t_ _ _ _ (Lib.hid HM.out.bo) HLW HLT HWT HNR HFW HFT (Lib.hid HM.out.ext.size)).mono ?_); rintro e_ w9 ⟨rfl, u9⟩; have XF : Hid (Ext wa w9) := Lib.hid (ext_upd HM.out.ext u9 HLO.out); clear u9)
              go_ret
              exact ⟨rfl, XB.out.trans XF.out⟩
        · have hgt : decide ((60 : Int) < (nt : Int)) = true := by simp; omega
          have hle : decide ((60 : Int) < (N : Int)) = false := by simp; omega
          go_wp2
          go_ret
          exact ⟨rfl, XB.out⟩
      · have hgt : decide ((60 : Int) < (N : Int)) = true := by simp; omega
        go_wp2
        go_ret
        exact ⟨rfl, XB.out⟩
end Go.Proofs.YtdgbkpoickbidaaGreatDoor
