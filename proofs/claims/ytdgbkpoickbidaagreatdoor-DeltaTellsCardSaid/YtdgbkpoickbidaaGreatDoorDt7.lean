/- chain.Advance: the time that stands for another one. delta.Advance: updates whose times nobody beyond since can tell. The plain law of penstockref10.add: one more update, put into its place. penstockref04.Leq, Cmp: what they answer. penstockref04.Cmp: what it answers. penstockref04.Leq, Cmp, their answer a name; a time in a list. penstockref01.sign, Cmp: they answer what datum's answer. penstockref02.Cmp: what it answers of any two rows. penstockref02.Cmp, its answer a name. penstockref10: cmp, add. penstockref10: Sum. penstockref00.LentRow: copies with marked room behind. penstockref02.Add, Sum at rows with counts. Conditions: each theorem states its own. -/
import Derived.Test.YtdgbkpoickbidaaGreatDoorDt6
import Derived.Test.YtdgbkpoickbidaaGreatDoorDt2
import Derived.Test.YtdgbkpoickbidaaGreatDoorDt1
import Derived.Test.YtdgbkpoickbidaaGreatDoorDt5
import Derived.Deep.LoopGhost
import Derived.Test.YtdgbkpoickbidaaGreatDoorDt3
import Derived.Test.YtdgbkpoickbidaaGreatDoorDt4
namespace Go.Proofs.YtdgbkpoickbidaaGreatDoor
open Go.RowKit

theorem u32_max {l m : List Int} (h : U32 l) (k : U32 m) : U32 (List.zipWith max l m) := by
  intro x hx
  obtain ⟨i, hi, rfl⟩ := List.getElem_of_mem hx
  rw [List.getElem_zipWith]
  rw [List.length_zipWith] at hi
  have a := h _ (List.getElem_mem (show i < l.length by omega))
  have b := k _ (List.getElem_mem (show i < m.length by omega))
  omega
theorem u32_min {l m : List Int} (h : U32 l) (k : U32 m) : U32 (List.zipWith min l m) := by
  intro x hx
  obtain ⟨i, hi, rfl⟩ := List.getElem_of_mem hx
  rw [List.getElem_zipWith]
  rw [List.length_zipWith] at hi
  have a := h _ (List.getElem_mem (show i < l.length by omega))
  have b := k _ (List.getElem_mem (show i < m.length by omega))
  omega
theorem meet_ok {mx : Int} {zl : List Int} (e1 e2 : Int) (A1 A2 : Option Addr) (n c1 c2 : Nat) (l1 l2 : List Int) (w : World) (hm : Hid (min e1 e2 = mx)) (hz : Hid (List.zipWith min l1 l2 = zl)) (h1 : Sl w 1 A1 n c1 (wds l1)) (h2 : Sl w 1 A2 n c2 (wds l2)) (u1 : U32 l1) (u2 : U32 l2) (hn : n ≤ 100000) :
    Calls Tryz.prog 192 #[.agg #[.int .u64 e1, .slice A1 n c1], .agg #[.int .u64 e2, .slice A2 n c2]] w fun e w' =>
      ∃ A c, e = .returned (.tuple #[.agg #[.int .u64 mx, .slice A n c], .int .u16 0]) ∧ Own w' w.heap.size 180 1 A n c (wds zl) ∧ Ext w w' := by
  rw [← hm.out, ← hz.out]
  exact meet_same e1 e2 A1 A2 n c1 c2 l1 l2 w h1 h2 u1 u2 (by omega)
/-- a time in memory of its own -/
def TimeR (v : TV) (w : World) (r : Ending) (w' : World) : Prop := ∃ A n c, r = .returned (.agg #[.int .u64 v.1, .slice A n c]) ∧ n = v.2.length ∧ Own w' w.heap.size 180 1 A n c (wds v.2) ∧ Ext w w'
/-- what stands within the loop: the one time that has been found so far lies in a block of its own -/
structure AdvI (w wr : World) (g : Nat) (A : Option Addr) (c n : Nat) (o : TV) : Prop where
  bk : Bk wr g 26 #[.int .u64 o.1, .slice A n c]
  own : Own wr w.heap.size 180 1 A n c (wds o.2)
  u : U32 o.2
theorem AdvI.grow {w wr w2 : World} {g : Nat} {A : Option Addr} {c n : Nat} {o : TV} (h : AdvI w wr g A c n o) (x : Ext wr w2) : AdvI w w2 g A c n o := ⟨h.bk.ext x, h.own.ext x, h.u⟩
theorem fold_take {V : List TV} {t : TV} {k : Nat} (h : k < V.length) : (V.take (k + 1)).foldl (advStep t) none = advStep t ((V.take k).foldl (advStep t) none) V[k] := by
  rw [List.take_succ_eq_append_getElem h, List.foldl_append]; rfl
/-- how the loop stands: nothing yet, or one -/
def AdvV (w wr : World) (v : Value) (n : Nat) (acc : Option TV) : Prop := (acc = none ∧ v = .slice none 0 0) ∨ ∃ g A c o, acc = some o ∧ v = .slice (some ⟨g, 0, none⟩) 1 1 ∧ AdvI w wr g A c n o
set_option maxRecDepth 100000 in
set_option maxHeartbeats 8000000 in
theorem advance_any (AL : Option Addr) (cL m : Nat) (L : List Tm) (e : Int) (A : Option Addr) (n c : Nat) (l : List Int) (w : World) (hm : Hid (m = L.length)) (hL : Hid (Tin w AL cL L)) (fL : Hid (Fine L)) (ht : Hid (Sl w 1 A n c (wds l))) (u : U32 l) (h9 : m ≤ 1000000) (hn : n ≤ 100000) :
    Calls Tryz.prog 110 #[.slice AL m cL, .agg #[.int .u64 e, .slice A n c]] w (TimeR (advV (L.map Tm.v) (e, l)) w) := by
  have HN : Hid (n = l.length) := Lib.hid ht.out.wlen.symm
  have HU := Lib.hid u
  clear u
  go_enter Tryz.func110, Tryz.ntmps110
  go_wp2
  obtain ⟨w0, hw0⟩ : ∃ w0, w0 = (w.alloc (Obj.cells #[Value.int IntKind.u64 e, Value.slice A n c] 26)).alloc (Obj.cells #[Value.int IntKind.u64 0, Value.slice none 0 0] 26) := ⟨_, rfl⟩
  have x0 : Ext w w0 := hw0 ▸ ((Ext.refl w).alloc _).alloc _
  have b0 : Bk w0 w.heap.size 26 #[Value.int IntKind.u64 e, Value.slice A n c] := by subst hw0; exact (Bk.new _ _ _).alloc _
  have r0 : Bk w0 (w.heap.size + 1) 26 #[Value.int IntKind.u64 0, Value.slice none 0 0] := by subst hw0; exact Bk.at (by simp)
  rw [← hw0]
  clear hw0
  have X0 := Lib.hid x0
  have B0 := Lib.hid b0
  have R0 := Lib.hid r0
  clear x0 b0 r0
  go_loopg [5, 12] m (fun z v5 v12 wr => ∃ (k : Nat) (acc : Option TV), z = m - k ∧ k ≤ m ∧ v12 = .int .i64 k ∧ Hid (((L.map Tm.v).take k).foldl (advStep (e, l)) none = acc) ∧ Hid (Ext w0 wr) ∧ AdvV w0 wr v5 n acc)
  case atStart => exact ⟨0, none, rfl, Nat.zero_le _, rfl, Lib.hid rfl, Lib.hid (Ext.refl _), .inl ⟨rfl, rfl⟩⟩
  case round =>
    obtain ⟨k, acc, rfl, hk, rfl, HF, HE, hacc⟩ := hrel
    have b0 : wr.cell? ⟨w.heap.size, 0, none⟩ = some (.int .u64 e) := (B0.out.ext HE.out).cell 0
    have b1 : wr.cell? ⟨w.heap.size, 1, none⟩ = some (.slice A n c) := (B0.out.ext HE.out).cell 1
    by_cases hlt : k < m
    · have hkL : k < L.length := by rw [← hm.out]; exact hlt
      obtain ⟨ad, rfl, q0, q1⟩ := (hL.out.ext (X0.out.trans HE.out)).at (i := k) hkL
      have HXS : Hid (Sl wr 1 (L.getD k Tm.zero).A (L.getD k Tm.zero).l.length (L.getD k Tm.zero).c (wds (L.getD k Tm.zero).l)) := Lib.hid ((hL.out.ext (X0.out.trans HE.out)).ls _ (getT_mem hkL))
      have hf := fL.out _ (getT_mem hkL)
      have hkv := map_at hkL
      obtain ⟨x, hx⟩ : ∃ x, L.getD k Tm.zero = x := ⟨_, rfl⟩
      rw [hx] at q0 q1 HXS hf hkv
      have HKV := Lib.hid hkv
      have HG := Lib.hid hf
      clear hx hkv hkL hf
      obtain ⟨f, Ax, cx, lx⟩ := x
      obtain ⟨nx, hnx⟩ : ∃ nx, lx.length = nx := ⟨_, rfl⟩
      have HNX := Lib.hid hnx
      replace q0 : wr.cell? (ad.add (k * 2)) = some (.int .u64 f) := q0
      replace q1 : wr.cell? ⟨(ad.add (k * 2)).block, (ad.add (k * 2)).off + 1, none⟩ = some (.slice Ax lx.length cx) := q1
      replace HXS : Hid (Sl wr 1 Ax lx.length cx (wds lx)) := HXS
      replace HG : Hid (U32 lx ∧ lx.length ≤ 100000) := HG
      rw [hnx] at q1 HXS
      clear hnx
      have XY : Hid (Ext wr (wr.alloc (.cells #[.int .u64 f, .slice Ax nx cx] 26))) := Lib.hid ((Ext.refl _).alloc _)
      have c0 : (wr.alloc (.cells #[.int .u64 f, .slice Ax nx cx] 26)).cell? ⟨w.heap.size, 0, none⟩ = some (.int .u64 e) := (B0.out.ext (HE.out.trans XY.out)).cell 0
      have c1 : (wr.alloc (.cells #[.int .u64 f, .slice Ax nx cx] 26)).cell? ⟨w.heap.size, 1, none⟩ = some (.slice A n c) := (B0.out.ext (HE.out.trans XY.out)).cell 1
      by_cases hs : n = nx
      · subst hs
        obtain ⟨mx, hmx⟩ : ∃ mx, max e f = mx := ⟨_, rfl⟩
        obtain ⟨zl, hzl⟩ : ∃ zl, List.zipWith max l lx = zl := ⟨_, rfl⟩
        have HMX := Lib.hid hmx
        have HZL := Lib.hid hzl
        clear hmx hzl
        have HZU : Hid (U32 zl) := Lib.hid (HZL.out ▸ u32_max HU.out HG.out.1)
        have HM : Hid (maxT (e, l) (f, lx) = (mx, zl)) := Lib.hid (by show (max e f, List.zipWith max l lx) = _; rw [HMX.out, HZL.out])
        have HSM : Hid (same (e, l) (f, lx) = true) := Lib.hid (decide_eq_true (by have a := HNX.out; have b := HN.out; show l.length = lx.length; omega))
        rcases hacc with ⟨rfl, rfl⟩ | ⟨g, A1, c1_, o, rfl, rfl, hI⟩
        · go_wp2_with (first
            | (go_at_call 191; go_loud (refine (join_ok e f A Ax n c cx l lx _ HMX HZL (ht.out.ext ((X0.out.trans HE.out).trans XY.out)) (HXS.out.ext XY.out) HU.out HG.out.1 hn).mono ?_); rintro r w3 ⟨A3, c3, rfl, o3, x3⟩; have HO3 := Lib.hid o3; have X3 := Lib.hid x3; clear o3 x3))
          go_roundg (m - (k + 1))
          case measure => omega
          case rel =>
            have hs3 := X3.out.size
            refine ⟨k + 1, some (mx, zl), by omega, by omega, by go_num, Lib.hid ?_, Lib.hid ((((HE.out.trans XY.out).trans X3.out).alloc _).alloc _), .inr ⟨w3.heap.size + 1, A3, c3, (mx, zl), rfl, rfl, ⟨Bk.at (by simp), ?_, HZU.out⟩⟩⟩
            · obtain ⟨h1, h2⟩ := HKV.out
              rw [fold_take h1, HF.out, h2]
              show (if same (e, l) (f, lx) = true then some (maxT (e, l) (f, lx)) else none) = _
              rw [if_pos HSM.out, HM.out]
            · exact ((HO3.out.mono (Nat.le_trans HE.out.size XY.out.size)).alloc _).alloc _
        · have HI := Lib.hid hI
          clear hI
          obtain ⟨mn, hmn⟩ : ∃ mn, min o.1 mx = mn := ⟨_, rfl⟩
          obtain ⟨zn, hzn⟩ : ∃ zn, List.zipWith min o.2 zl = zn := ⟨_, rfl⟩
          have HMN := Lib.hid hmn
          have HZN := Lib.hid hzn
          clear hmn hzn
          have HM2 : Hid (minT o (mx, zl) = (mn, zn)) := Lib.hid (by show (min o.1 mx, List.zipWith min o.2 zl) = _; rw [HMN.out, HZN.out])
          go_wp2_with (first
            | (go_at_call 191; go_loud (refine (join_ok e f A Ax n c cx l lx _ HMX HZL (ht.out.ext ((X0.out.trans HE.out).trans XY.out)) (HXS.out.ext XY.out) HU.out HG.out.1 hn).mono ?_); rintro r w3 ⟨A3, c3, rfl, o3, x3⟩; have HO3 := Lib.hid o3; have X3 := Lib.hid x3; clear o3 x3))
          obtain ⟨w8, hw8⟩ : ∃ w8, w8 = w3.alloc (Obj.cells #[Value.int IntKind.u64 mx, Value.slice A3 n c3] 26) := ⟨_, rfl⟩
          have x8 : Ext w3 w8 := hw8 ▸ (Ext.refl w3).alloc _
          have j8 : Bk w8 w3.heap.size 26 #[Value.int IntKind.u64 mx, Value.slice A3 n c3] := by subst hw8; exact Bk.new _ _ _
          rw [← hw8]
          clear hw8 c0 c1 b0 b1 q0 q1
          have X : Ext w8 w8.drew := (Ext.refl w8).drew
          have I8 : AdvI w0 w8.drew g A1 c1_ n o := HI.out.grow (((XY.out.trans X3.out).trans x8).trans X)
          have HI8 := Lib.hid I8
          have HJ8 := Lib.hid j8
          have HX8 := Lib.hid x8
          have y1 : ∀ y : Xt w8.drew, y.W.cell? ⟨g, 0, none⟩ = some (.int .u64 o.1) := fun y => (HI8.out.bk.ext y.x).cell 0
          have y2 : ∀ y : Xt w8.drew, y.W.cell? ⟨g, 1, none⟩ = some (.slice A1 n c1_) := fun y => (HI8.out.bk.ext y.x).cell 1
          have y3 : ∀ y : Xt w8.drew, y.W.cell? ⟨w3.heap.size, 0, none⟩ = some (.int .u64 mx) := fun y => (HJ8.out.ext (X.trans y.x)).cell 0
          have y4 : ∀ y : Xt w8.drew, y.W.cell? ⟨w3.heap.size, 1, none⟩ = some (.slice A3 n c3) := fun y => (HJ8.out.ext (X.trans y.x)).cell 1
          clear I8 j8 x8
          refine wp_region_ord [0,1,3,0,15,31,63,63,127] (.flo [0,1,2,3] (.one 4 (.flo [5,6] (.pur [7] (.one 8 (.fin)))))) (by kernel_rfl) (by kernel_rfl) (by intro _ _ d _ _ h; cases d <;> exact h) ?_
          (refine ord_flo (pick_cons rfl (pick_cons rfl (pick_cons rfl (pick_cons rfl pick_nil)))) ?_; (repeat (go_big_quiet_step (fail))); refine wpQuiet_nil ?_; show ordWalk _ _ _ _ _ _ _)
          refine ord_one (pick_cons rfl pick_nil) ?_; intro K_ hK_
          go_wp2_with (first
            | (go_at_call 192; go_loud (refine (meet_ok o.1 mx A1 A3 n c1_ c3 o.2 zl _ HMN HZN HI8.out.own.sl ((HO3.out.sl.ext HX8.out).ext X) HI8.out.u HZU.out hn).mono ?_); rintro r w5 ⟨A5, c5, rfl, o5, x5⟩; have HO5 := Lib.hid o5; have X5 := Lib.hid x5; clear o5 x5))
          have J5 := (HJ8.out.ext X).ext X5.out
          have z0 := J5.cell 0
          have z1 := J5.cell 1
          have z2 := J5.free 0
          have z3 := J5.free 1
          have z4 := J5.set2 (.int .u64 mn) (.slice A5 n c5)
          have z5 := z4.1
          have z6 := z4.2
          clear z4
          have HJ5 := Lib.hid J5
          clear J5
          (refine ord_flo (pick_cons rfl (pick_cons rfl pick_nil)) ?_; (repeat (go_big_quiet_step (fail))); refine wpQuiet_nil ?_; show ordWalk _ _ _ _ _ _ _)
          (refine ord_pur (pick_cons rfl pick_nil) ?_; (repeat (go_big_quiet_step (fail))); refine wpQuiet_nil ?_; show ordWalk _ _ _ _ _ _ _)
          refine ord_one (pick_cons rfl pick_nil) ?_; intro K_ hK_
          go_wp2
          refine ord_fin ?_
          go_wp2
          go_roundg (m - (k + 1))
          case measure => omega
          case rel =>
            have hb5 : w3.heap.size < w8.drew.heap.size := HJ8.out.lt
            have s8 : w3.heap.size ≤ w5.heap.size := Nat.le_trans (Nat.le_of_lt hb5) X5.out.size
            have e3 : Ext w0 w3 := (HE.out.trans XY.out).trans X3.out
            have e5 : Ext w0 w5 := ((e3.trans HX8.out).trans X).trans X5.out
            refine ⟨k + 1, some (mn, zn), by omega, by omega, by go_num, Lib.hid ?_, Lib.hid (((e5.set e3.size _).set e3.size _).alloc _), .inr ⟨w5.heap.size, A5, c5, (mn, zn), rfl, rfl, ⟨Bk.at (by simp), ?_, HZN.out ▸ u32_min HI8.out.u HZU.out⟩⟩⟩
            · obtain ⟨h1, h2⟩ := HKV.out
              rw [fold_take h1, HF.out, h2]
              show (if same (e, l) (f, lx) = true then some (minT o (maxT (e, l) (f, lx))) else _) = _
              rw [if_pos HSM.out, HM.out, HM2.out]
            · exact ((((HO5.out.far (HO5.out.ne hb5) _).far (HO5.out.ne hb5) _).mono (Nat.le_trans e3.size (Nat.le_of_lt hb5))).alloc _)
      · have hne : ((n : Int) != (nx : Int)) = true := by simp; omega
        have HS := Lib.hid hs
        clear hs
        go_wp2_with (first
          | (go_at_call 191; go_loud (refine (join_diff e f A Ax n nx c cx _ hne).mono ?_); rintro r w3 ⟨rfl, x3⟩; have X3 := Lib.hid x3; clear x3))
        go_roundg (m - (k + 1))
        case measure => omega
        case rel =>
          have XX := (XY.out.trans X3.out).alloc (.cells #[.int .u64 0, .slice none 0 0] 26)
          refine ⟨k + 1, acc, by omega, by omega, by go_num, Lib.hid ?_, Lib.hid (HE.out.trans XX), ?_⟩
          · obtain ⟨h1, h2⟩ := HKV.out
            rw [fold_take h1, HF.out, h2]
            unfold advStep
            rw [if_neg (by have a := HNX.out; have b := HN.out; have cc := HS.out; show ¬ same (e, l) (f, lx) = true; unfold same; rw [decide_eq_true_iff]; show ¬ l.length = lx.length; omega)]
          · rcases hacc with ⟨h1, h2⟩ | ⟨g, A1, c1_, o, h1, h2, hI⟩
            · exact .inl ⟨h1, h2⟩
            · exact .inr ⟨g, A1, c1_, o, h1, h2, hI.grow XX⟩
    · obtain rfl : k = m := by omega
      have HF2 : Hid (advO (L.map Tm.v) (e, l) = acc) := Lib.hid (by have := HF.out; rwa [show k = (L.map Tm.v).length by rw [List.length_map]; exact hm.out, List.take_length] at this)
      have HR := Lib.hid (R0.out.ext HE.out)
      rcases hacc with ⟨rfl, rfl⟩ | ⟨g, A1, c1_, o, rfl, rfl, hI⟩
      · go_wp2_with (first
          | (go_at_call 142; go_loud (refine (copied_any e A n c l _ (Lib.hid (ht.out.ext (X0.out.trans HE.out))) (by omega)).mono ?_); rintro r w4 ⟨A4, c4, rfl, o4, x4⟩; have HO4 := Lib.hid o4; have X4 := Lib.hid x4; clear o4 x4; have RB := HR.out.ext X4.out; have z0 := RB.cell 0; have z1 := RB.cell 1; have z2 := RB.free 0; have z3 := RB.free 1; have HRB := Lib.hid RB; clear RB))
        have bb := HRB.out.set2 (.int .u64 e) (.slice A4 n c4)
        have hb : w.heap.size + 1 < wr.heap.size := HR.out.lt
        refine bodyPost_ret (v := .agg #[.int .u64 e, .slice A4 n c4]) (by simp [results, Tryz.results110, go_sem, bb.1, bb.2]) rfl ⟨A4, n, c4, ?_, ?_, ?_, ?_⟩
        · unfold advV; rw [HF2.out]; rfl
        · unfold advV; rw [HF2.out]; exact HN.out
        · have : (advV (L.map Tm.v) (e, l)).2 = l := by unfold advV; rw [HF2.out]; rfl
          rw [this]
          exact (((HO4.out.far (HO4.out.ne hb) _).far (HO4.out.ne hb) _).mono (by omega))
        · exact ((((X0.out.trans HE.out).trans X4.out).set (by simp) _).set (by simp) _)
      · have I := Lib.hid hI
        have z0 := I.out.bk.cell 0
        have z1 := I.out.bk.cell 1
        have z2 := HR.out.cell 0
        have z3 := HR.out.cell 1
        have z4 := HR.out.free 0
        have z5 := HR.out.free 1
        clear hI
        replace z0 : wr.cell? ⟨g, 0, none⟩ = some (.int .u64 o.1) := z0
        replace z1 : wr.cell? ⟨g, 1, none⟩ = some (.slice A1 n c1_) := z1
        go_wp2
        have bb := HR.out.set2 (.int .u64 o.1) (.slice A1 n c1_)
        refine bodyPost_ret (v := .agg #[.int .u64 o.1, .slice A1 n c1_]) (by simp [results, Tryz.results110, go_sem, bb.1, bb.2]) rfl ⟨A1, n, c1_, ?_, ?_, ?_, ?_⟩
        · unfold advV; rw [HF2.out]; rfl
        · have q := advV_len (L.map Tm.v) (e, l)
          rw [q]; exact HN.out
        · have : (advV (L.map Tm.v) (e, l)).2 = o.2 := by unfold advV; rw [HF2.out]; rfl
          rw [this]
          exact ((I.out.own.far (I.out.own.ne R0.out.lt) _).far (I.out.own.ne R0.out.lt) _).mono X0.out.size
        · exact (((X0.out.trans HE.out).set (by simp) _).set (by simp) _)
end Go.Proofs.YtdgbkpoickbidaaGreatDoor
namespace Go.Proofs.YtdgbkpoickbidaaGreatDoor
open Go.RowKit

theorem uadvance_at {v : TV} (AL : Option Addr) (cL m : Nat) (L : List Tm) (e : Int) (A : Option Addr) (n c : Nat) (l : List Int) (w : World) (hv : Hid (advV (L.map Tm.v) (e, l) = v)) (hm : Hid (m = L.length)) (hL : Hid (Tin w AL cL L)) (fL : Hid (Fine L)) (ht : Hid (Sl w 1 A n c (wds l))) (u : U32 l) (h9 : m ≤ 1000000) (hn : n ≤ 100000) :
    Calls Tryz.prog 110 #[.slice AL m cL, .agg #[.int .u64 e, .slice A n c]] w (TimeR v w) := hv.out ▸ advance_any AL cL m L e A n c l w hm hL fL ht u h9 hn
def advK (S : List TV) (v : UV) : UV := ((v.1.1, advV S v.1.2), v.2)
theorem udsC_set12 (K R : List Ud) (x : Ud) (f : Int) (A : Option Addr) (c : Nat) (l : List Int) {i : Nat} (hi : i = K.length) : ((udsC (K ++ x :: R)).set (i * 4 + 1) (.int .u64 f)).set (i * 4 + 2) (.slice A l.length c) = udsC (K ++ ⟨x.A, x.c, x.l, ⟨f, A, c, l⟩, x.d⟩ :: R) := by
  subst hi
  have e : udsC (K ++ x :: R) = udsC K ++ (udC x ++ udsC R) := by rw [udsC_append]; rfl
  rw [e, List.set_append_right _ _ (by rw [udsC_len]; omega), udsC_len, Nat.add_sub_cancel_left, List.set_append_right _ _ (by rw [udsC_len]; omega), udsC_len, Nat.add_sub_cancel_left, udsC_append]
  rfl
/-- so far: K has the new times, the rest is as it was -/
structure UAdvI (w wr : World) (g c : Nat) (S : List TV) (L : List Ud) (i : Nat) (K : List Ud) : Prop where
  own : Own wr w.heap.size 95 4 (some ⟨g, 0, none⟩) L.length c (udsC (K ++ L.drop i))
  rws : UdS.Rws wr g (K ++ L.drop i)
  len : K.length = i
  vals : K.map Ud.uv = ((L.take i).map Ud.uv).map (advK S)
  ext : Ext w wr
  gl : w.heap.size ≤ g ∧ g < wr.heap.size
theorem UAdvI.mono {w wr w2 : World} {g c i : Nat} {S : List TV} {L K : List Ud} (h : UAdvI w wr g c S L i K) (x : Ext wr w2) : UAdvI w w2 g c S L i K :=
  ⟨h.own.ext x, h.rws.ext x, h.len, h.vals, h.ext.trans x, ⟨h.gl.1, Nat.lt_of_lt_of_le h.gl.2 x.size⟩⟩
theorem UAdvI.step {w wr w2 : World} {g c i : Nat} {S : List TV} {L K : List Ud} {x : Ud} {v : TV} {A : Option Addr} {nn cc : Nat} (h : UAdvI w wr g c S L i K) (hi : i < L.length) (hx : L.getD i Ud.zero = x) (hv : advV S x.t.v = v) (q : Ext wr w2) (hn : nn = v.2.length) (o : Own w2 wr.heap.size 180 1 A nn cc (wds v.2)) :
    UAdvI w ((w2.setCell ⟨g, i * 4 + 1, none⟩ (.int .u64 v.1)).setCell ⟨g, i * 4 + 2, none⟩ (.slice A nn cc)) g c S L (i + 1) (K ++ [⟨x.A, x.c, x.l, ⟨v.1, A, cc, v.2⟩, x.d⟩]) := by
  subst hn
  have h2 := h.mono q
  have hd : L.drop i = x :: L.drop (i + 1) := by rw [dropU hi, hx]
  have hup : w2.grownBy ((w2.setCell ⟨g, i * 4 + 1, none⟩ (.int .u64 v.1)).setCell ⟨g, i * 4 + 2, none⟩ (.slice A v.2.length cc)) (some g) := (upd_set w2 g _ _).trans (upd_set _ g _ _)
  have hxm : x ∈ K ++ L.drop i := by rw [hd]; simp
  refine ⟨?_, ?_, by rw [List.length_append, h.len]; rfl, ?_, ((h2.ext.set (p := ⟨g, _, none⟩) h.gl.1 _).set (p := ⟨g, _, none⟩) h.gl.1 _), ⟨h.gl.1, by rw [World.size_setCell, World.size_setCell]; exact h2.gl.2⟩⟩
  · have := (h2.own.put (i * 4 + 1) (.int .u64 v.1)).put (i * 4 + 2) (.slice A v.2.length cc)
    rw [hd, udsC_set12 K (L.drop (i + 1)) x v.1 A cc v.2 h.len.symm] at this
    rwa [List.append_assoc]
  · intro y hy
    rw [List.append_assoc] at hy
    rcases List.mem_append.1 hy with hy | hy
    · exact (h2.rws.upd hup) y (List.mem_append_left _ hy)
    · rcases List.mem_cons.1 hy with rfl | hy
      · have hxx := (h2.rws.upd hup) x hxm
        have ot := o.kept hup (by
          cases hb : blk A cc with
          | none => exact .inl rfl
          | some k => exact .inr (fun e => by injection e with e; have := (o.lt k hb).1; have := h.gl.2; omega))
        refine ⟨⟨hxx.1.r, ot.sl⟩, hxx.2.1, fun hn ad e => ?_⟩
        obtain ⟨k, e2, hb, hk, _⟩ := o.form hn
        replace e : A = some ad := e
        rw [e2] at e
        injection e with e
        subst e
        show k ≠ g
        have := h.gl.2
        omega
      · exact (h2.rws.upd hup) y (List.mem_append_right _ (by rw [hd]; exact List.mem_cons_of_mem _ hy))
  · rw [takeU hi, hx, List.map_append, List.map_append, List.map_append, h.vals]
    congr 1
    show [(((x.l, (v.1, v.2)), x.d) : UV)] = [advK S x.uv]
    unfold advK
    show _ = [((x.l, advV S x.t.v), x.d)]
    rw [hv]
/-- what Advance hands back -/
def DAdvRes (w : World) (V : List UV) (e : Ending) (w' : World) : Prop := ∃ A m R, e = .returned (.slice A m m) ∧ m = R.length ∧ Uout w' w.heap.size A m R ∧ R.map Ud.uv = V ∧ Ext w w'
theorem DAdvRes.of {w w0 w' : World} {L : List Ud} {V : List UV} {e : Ending} (h : UdS.DSumRes w0 L e w') (x : Ext w w0) (hv : UdS.sumV (L.map Ud.uv) = V) : DAdvRes w V e w' := by
  obtain ⟨A, m, R, e1, e2, o, v, x2⟩ := h
  exact ⟨A, m, R, e1, e2, o.mono x.size, by rw [v, hv], x.trans x2⟩
theorem dsum_at {V : List UV} (A : Option Addr) (c n : Nat) (L : List Ud) (w : World) (hv : Hid (UdS.sumV (L.map Ud.uv) = V)) (hn : Hid (n = L.length)) (h : Hid (Uin w A c L)) (h9 : n ≤ 1000000) (hin : Hid (∀ x ∈ L, UdS.InN x.uv)) (hr : Hid (∀ x ∈ L, x.l.length ≤ 1000000000 ∧ x.t.l.length ≤ 1000000000)) :
    Calls Tryz.prog 16 #[.slice A n c] w (DAdvRes w V) := (UdS.dsum_any A c n L w hn h h9 hin hr).mono fun _e _w' q => DAdvRes.of q (Ext.refl _) hv.out
set_option maxRecDepth 100000 in
set_option maxHeartbeats 4000000 in
theorem dadv_none (A : Option Addr) (c : Nat) (S0 : Value) (w : World) (h : Hid (Uin w A c [])) :
    Calls Tryz.prog 18 #[.slice A 0 c, S0] w (DAdvRes w []) := by
  have hn : Hid ((0 : Nat) = ([] : List Ud).length) := Lib.hid rfl
  have hin : Hid (∀ x ∈ ([] : List Ud), UdS.InN x.uv) := Lib.hid (fun x hx => nomatch hx)
  have hr : Hid (∀ x ∈ ([] : List Ud), x.l.length ≤ 1000000000 ∧ x.t.l.length ≤ 1000000000) := Lib.hid (fun x hx => nomatch hx)
  go_enter Tryz.func18, Tryz.ntmps18
  go_wp2_with (first
    | (go_at_call 101; go_loud (refine (clone_ups A 0 c [] _ hn h (by decide)).mono ?_); rintro r w1 ⟨A1, c1, rfl, o1, x1⟩; have X1 := Lib.hid x1; have HU : Hid (Uin w1 A1 c1 []) := Lib.hid ⟨o1.sl, fun x hx => nomatch hx⟩; clear o1 x1)
    | fail)
  go_loop [12] (fun u => u = .int .i64 0) (fun _ => 0)
  case atStart => rfl
  case round =>
    subst hrel
    go_wp2_with (first
      | (go_at_call 16; go_loud (refine (UdS.dsum_any A1 c1 0 [] _ hn HU (by decide) hin hr).mono ?_); rintro r w2 hres; have HR := Lib.hid (DAdvRes.of hres X1.out rfl); obtain ⟨A2, m2, R2, rfl, h2⟩ := hres; clear h2)
      | fail)
    go_ret
    exact HR.out
set_option maxRecDepth 100000 in
set_option maxHeartbeats 8000000 in
theorem dadv_some (A : Option Addr) (c n : Nat) (L : List Ud) (AS : Option Addr) (cS nS : Nat) (S : List Tm) (w : World) (h0 : 0 < n) (hn : Hid (n = L.length)) (h : Hid (Uin w A c L)) (h9 : n ≤ 1000000) (hin : Hid (∀ x ∈ L, InU x)) (hnS : Hid (nS = S.length)) (hS : Hid (Tin w AS cS S)) (fS : Hid (Fine S)) (h9S : nS ≤ 1000000) :
    Calls Tryz.prog 18 #[.slice A n c, .slice AS nS cS] w (DAdvRes w (UdS.sumV ((L.map Ud.uv).map (advK (S.map Tm.v))))) := by
  go_enter Tryz.func18, Tryz.ntmps18
  go_wp2_with (first
    | (go_at_call 101; go_loud (refine (clone_ups A n c L _ hn h h9).mono ?_); rintro r w1 ⟨A1, c1, rfl, o1, x1⟩; have hf := o1.form h0; obtain ⟨g, eA, hb, hg1, hg2, _, _⟩ := hf; subst eA; have HP0 : Hid (UAdvI w w1 g c1 (S.map Tm.v) L 0 []) := Lib.hid ⟨by rw [← hn.out]; exact o1, UdS.Rws.of h.out.ls x1 hg1, rfl, rfl, x1, ⟨hg1, hg2⟩⟩; clear o1 x1 hb hg1 hg2)
    | fail)
  go_loopg [12] n (fun z v wr => ∃ (i : Nat) (K : List Ud), z = n - i ∧ i ≤ n ∧ v = .int .i64 i ∧ Hid (UAdvI w wr g c1 (S.map Tm.v) L i K))
  case atStart => exact ⟨0, [], rfl, Nat.zero_le _, rfl, HP0⟩
  case round =>
    clear HP0
    obtain ⟨i, K, rfl, hi, rfl, HP⟩ := hrel
    by_cases hlt : i < n
    · have hil : i < L.length := by rw [← hn.out]; exact hlt
      have hKl : (K ++ L.drop i).length = L.length := by rw [List.length_append, HP.out.len, List.length_drop]; omega
      have hU : Uin wr (some ⟨g, 0, none⟩) c1 (K ++ L.drop i) := ⟨by have := HP.out.own.sl; rwa [← hKl] at this, fun y hy => (HP.out.rws y hy).1⟩
      obtain ⟨ad, eA, p0, p1, p2, p3⟩ := hU.at (i := i) (by rw [hKl]; exact hil)
      cases eA
      rw [show (⟨g, 0, none⟩ : Addr).add (i * 4) = ⟨g, i * 4, none⟩ from by unfold Addr.add; split <;> simp_all] at p0 p1 p2 p3
      have hm := getU_mem hil
      obtain ⟨x, hx⟩ : ∃ x, L.getD i Ud.zero = x := ⟨_, rfl⟩
      have hgx : (K ++ L.drop i).getD i Ud.zero = x := by
        rw [List.getD_eq_getElem?_getD, List.getElem?_append_right (by rw [HP.out.len]; exact Nat.le_refl _), HP.out.len, Nat.sub_self, dropU hil, hx]
        rfl
      have hxm : x ∈ K ++ L.drop i := by rw [dropU hil, hx]; simp
      have hux := (HP.out.rws x hxm).1
      rw [hgx] at p0 p1 p2 p3
      rw [hx] at hm
      obtain ⟨nx, hnx⟩ : ∃ nx, nx = x.l.length := ⟨_, rfl⟩
      obtain ⟨tx, htx⟩ : ∃ tx, tx = x.t.l.length := ⟨_, rfl⟩
      rw [← hnx] at p0
      rw [← htx] at p2
      have HX := Lib.hid hx
      have HIL := Lib.hid hil
      have HTX : Hid (∀ W, Ext wr W → Sl W 1 x.t.A tx x.t.c (wds x.t.l)) := Lib.hid (fun W q => by rw [htx]; exact hux.t.ext q)
      have htx9 : tx ≤ 100000 := by rw [htx]; exact (hin.out x hm).tn
      have UX := Lib.hid (hin.out x hm).tu
      obtain ⟨v, hv⟩ : ∃ v, advV (S.map Tm.v) (x.t.e, x.t.l) = v := ⟨_, rfl⟩
      have HV := Lib.hid hv
      have XA : Ext wr (wr.alloc (.cells #[.slice x.A nx x.c, .int .u64 x.t.e, .slice x.t.A tx x.t.c, .int .i64 x.d] 95)) := (Ext.refl wr).alloc _
      have HST : Hid (∀ W, Ext wr W → Tin W AS cS S) := Lib.hid (fun W q => (hS.out.ext HP.out.ext).ext q)
      have hgw := HP.out.gl.2
      clear hil hm hx hnx htx hv hU hKl hgx hxm hux
      go_wp2_with (first
        | (go_at_call 110; go_loud (refine (uadvance_at AS cS nS S x.t.e x.t.A tx x.t.c x.t.l _ HV hnS (Lib.hid (HST.out _ XA)) fS (Lib.hid (HTX.out _ XA)) UX.out h9S htx9).mono ?_); rintro r w3 ⟨A3, n3, c3, rfl, hn3, o3, x3⟩; have HN3 := Lib.hid hn3; have O3 : Hid (Own w3 wr.heap.size 180 1 A3 n3 c3 (wds v.2)) := Lib.hid (o3.mono XA.size); have X3 := Lib.hid (XA.trans x3); have H3 := HP.out.mono X3.out; obtain ⟨u1, y1⟩ := Option.isSome_iff_exists.1 (show (w3.cell? ⟨g, i * 4 + 1, none⟩).isSome = true by rw [X3.out.cell p1]; rfl); obtain ⟨u2, y2⟩ := Option.isSome_iff_exists.1 (show (w3.cell? ⟨g, i * 4 + 2, none⟩).isSome = true by rw [X3.out.cell p2]; rfl); have hfz := (H3.own.form (show 0 < L.length by have := HIL.out; omega)); obtain ⟨g', eg, _, _, _, _, hf⟩ := hfz; cases eg; have f1 := hf (i * 4 + 1); have f2 := hf (i * 4 + 2); clear hf H3 hn3 o3 x3)
        | fail)
      go_roundg (n - (i + 1))
      case measure => omega
      case rel => exact ⟨i + 1, _, rfl, by omega, by go_num, Lib.hid (HP.out.step HIL.out HX.out HV.out X3.out HN3.out O3.out)⟩
    · obtain rfl : i = n := by omega
      have hd : L.drop i = [] := List.drop_of_length_le (by rw [← hn.out]; exact Nat.le_refl _)
      have hKl : K.length = L.length := by rw [HP.out.len]; exact hn.out
      have HU : Hid (Uin wr (some ⟨g, 0, none⟩) c1 K) := Lib.hid ⟨by have := HP.out.own.sl; rw [hd, List.append_nil] at this; rwa [hKl], fun y hy => (HP.out.rws y (List.mem_append_left _ hy)).1⟩
      have hvals : K.map Ud.uv = (L.map Ud.uv).map (advK (S.map Tm.v)) := by have := HP.out.vals; rwa [List.take_of_length_le (by rw [← hn.out]; exact Nat.le_refl _)] at this
      have HN : Hid (i = K.length) := Lib.hid (by rw [hKl]; exact hn.out)
      have hpick : ∀ y ∈ K, ∃ x ∈ L, y.uv = advK (S.map Tm.v) x.uv := fun y hy => by
        have : y.uv ∈ K.map Ud.uv := List.mem_map.2 ⟨y, hy, rfl⟩
        rw [hvals, List.map_map] at this
        obtain ⟨x, hx, e⟩ := List.mem_map.1 this
        exact ⟨x, hx, e.symm⟩
      have HI : Hid (∀ y ∈ K, UdS.InN y.uv) := Lib.hid (fun y hy => by
        obtain ⟨x, hx, e⟩ := hpick y hy
        rw [e]
        exact (hin.out x hx).num)
      have HL : Hid (∀ y ∈ K, y.l.length ≤ 1000000000 ∧ y.t.l.length ≤ 1000000000) := Lib.hid (fun y hy => by
        obtain ⟨x, hx, e⟩ := hpick y hy
        have e1 : y.l = x.l := congrArg (fun q : UV => q.1.1) e
        have e2 : y.t.l = (advV (S.map Tm.v) x.t.v).2 := congrArg (fun q : UV => q.1.2.2) e
        rw [e1, e2]
        refine ⟨(hin.out x hx).lens.1, ?_⟩
        rw [advV_len]
        exact (hin.out x hx).lens.2)
      have HX := Lib.hid HP.out.ext
      have HV := Lib.hid (congrArg UdS.sumV hvals)
      clear hd hKl hvals hpick HP
      go_wp2_with (first
        | (go_at_call 16; go_loud (refine (UdS.dsum_any (some ⟨g, 0, none⟩) c1 i K _ HN HU h9 HI HL).mono ?_); rintro r w2 hres; have HR := Lib.hid (DAdvRes.of hres HX.out HV.out); obtain ⟨A2, m2, R2, rfl, h2⟩ := hres; clear h2)
        | fail)
      go_ret
      exact HR.out
theorem dadv_any {V : List UV} (A : Option Addr) (c n : Nat) (L : List Ud) (AS : Option Addr) (cS nS : Nat) (S : List Tm) (w : World) (hV : Hid (UdS.sumV ((L.map Ud.uv).map (advK (S.map Tm.v))) = V)) (hn : Hid (n = L.length)) (h : Hid (Uin w A c L)) (h9 : n ≤ 1000000) (hin : Hid (∀ x ∈ L, InU x)) (hnS : Hid (nS = S.length)) (hS : Hid (Tin w AS cS S)) (fS : Hid (Fine S)) (h9S : nS ≤ 1000000) :
    Calls Tryz.prog 18 #[.slice A n c, .slice AS nS cS] w (DAdvRes w V) := by
  rw [← hV.out]
  rcases Nat.eq_zero_or_pos n with h0 | h0
  · subst h0
    have e : L = [] := List.eq_nil_of_length_eq_zero hn.out.symm
    subst e
    exact dadv_none A c _ w h
  · exact dadv_some A c n L AS cS nS S w h0 hn h h9 hin hnS hS fS h9S
end Go.Proofs.YtdgbkpoickbidaaGreatDoor
namespace Go.Proofs.YtdgbkpoickbidaaGreatDoor
open Go.RowKit

namespace UdS
theorem addV_split : ∀ (P R : List V) (x : V), (∀ y ∈ P, cmpV y x < 0) → addV (P ++ R) x = P ++ addV R x
  | [], _, _, _ => rfl
  | y :: P, R, x, h => by
    show (if cmpV y x < 0 then y :: addV (P ++ R) x else _) = _
    rw [if_pos (h y (List.mem_cons_self ..)), addV_split P R x (fun z hz => h z (List.mem_cons_of_mem _ hz))]
    rfl
theorem addV_eq (y x : V) (R : List V) (h : cmpV y x = 0) : addV (y :: R) x = (y.1, w64 (y.2 + x.2)) :: R := by
  show (if cmpV y x < 0 then _ else if cmpV y x = 0 then _ else _) = _
  rw [if_neg (by omega), if_pos h]
theorem addV_gt (y x : V) (R : List V) (h : 0 < cmpV y x) : addV (y :: R) x = x :: y :: R := by
  show (if cmpV y x < 0 then _ else if cmpV y x = 0 then _ else _) = _
  rw [if_neg (by omega), if_neg (by omega)]
theorem addV_len : ∀ (R : List V) (x : V), (addV R x).length ≤ R.length + 1
  | [], _ => Nat.le_refl _
  | y :: R, x => by
    unfold addV
    split
    · rw [List.length_cons, List.length_cons]; have := addV_len R x; omega
    · split
      · rw [List.length_cons, List.length_cons]; omega
      · rw [List.length_cons, List.length_cons]; omega
/-- strictly sorted -/
def Srt (L : List Ud) : Prop := L.Pairwise fun a b => kcmp a.k b.k < 0
theorem Srt.of {L : List Ud} (h : (L.map Ud.uv).Pairwise fun a b => cmpV a b < 0) : Srt L := List.pairwise_map.1 h
theorem Srt.below {L : List Ud} (h : Srt L) {k : Nat} (hk : k < L.length) {x : Ud} (hx : kcmp (L.getD k Ud.zero).k x.k ≤ 0) : ∀ z ∈ L.take k, kcmp z.k x.k < 0 := fun z hz => by
  have hp : Srt (L.take (k + 1)) := List.Pairwise.sublist (List.take_sublist _ _) h
  rw [takeU hk] at hp
  exact kcmp_tot.lt_of_lt_le ((List.pairwise_append.1 hp).2.2 z hz _ (by simp)) hx
theorem add_at_eq {L : List Ud} (h : Srt L) {k : Nat} (hk : k < L.length) {x y : Ud} (hy : L.getD k Ud.zero = y) (hx : kcmp y.k x.k = 0) {s : Int} (hs : w64 (y.d + x.d) = s) : (L.set k ⟨y.A, y.c, y.l, y.t, s⟩).map Ud.uv = addV (L.map Ud.uv) x.uv := by
  have e : L = L.take k ++ y :: L.drop (k + 1) := by rw [← hy, ← dropU hk, List.take_append_drop]
  have hb := h.below hk (x := x) (by rw [hy, hx]; exact Int.le_refl _)
  have hl : (L.take k).length = k := by rw [List.length_take]; omega
  have e2 : L.set k ⟨y.A, y.c, y.l, y.t, s⟩ = L.take k ++ ⟨y.A, y.c, y.l, y.t, s⟩ :: L.drop (k + 1) := by
    have q : L.set k (⟨y.A, y.c, y.l, y.t, s⟩ : Ud) = (L.take k ++ y :: L.drop (k + 1)).set k ⟨y.A, y.c, y.l, y.t, s⟩ := congrArg (fun l => List.set l k (⟨y.A, y.c, y.l, y.t, s⟩ : Ud)) e
    rw [q, List.set_append_right _ _ (by rw [hl]; exact Nat.le_refl _), hl, Nat.sub_self, List.set_cons_zero]
  rw [e2]
  have e3 : L.map Ud.uv = (L.take k).map Ud.uv ++ y.uv :: (L.drop (k + 1)).map Ud.uv := by
    have q := congrArg (List.map Ud.uv) e
    rwa [List.map_append, List.map_cons] at q
  rw [e3, addV_split _ _ _ (fun z hz => by obtain ⟨q, hq, rfl⟩ := List.mem_map.1 hz; exact hb q hq), addV_eq _ _ _ (show cmpV y.uv x.uv = 0 from hx), List.map_append, List.map_cons, ← hs]
  rfl
theorem add_at_new {L : List Ud} (h : Srt L) {k : Nat} (hk : k ≤ L.length) {x z : Ud} (hz : z.uv = x.uv) (h1 : ∀ j, k = j + 1 → kcmp (L.getD j Ud.zero).k x.k < 0) (h2 : ∀ y, (L.drop k).head? = some y → 0 < kcmp y.k x.k) : (L.take k ++ z :: L.drop k).map Ud.uv = addV (L.map Ud.uv) x.uv := by
  have hb : ∀ y ∈ L.take k, kcmp y.k x.k < 0 := by
    cases k with
    | zero => intro y hy; simp at hy
    | succ j =>
      intro y hy
      have hj := h1 j rfl
      rw [takeU (show j < L.length by omega)] at hy
      rcases List.mem_append.1 hy with hy | hy
      · exact h.below (by omega) (Int.le_of_lt hj) y hy
      · rw [List.mem_singleton.1 hy]; exact hj
  have e3 : L.map Ud.uv = (L.take k).map Ud.uv ++ (L.drop k).map Ud.uv := by rw [← List.map_append, List.take_append_drop]
  rw [e3, addV_split _ _ _ (fun z hz => by obtain ⟨q, hq, rfl⟩ := List.mem_map.1 hz; exact hb q hq), List.map_append, List.map_cons, hz]
  congr 1
  cases hd : L.drop k with
  | nil => rfl
  | cons y R =>
    rw [List.map_cons, addV_gt _ _ _ (show 0 < cmpV y.uv x.uv from h2 y (by rw [hd]; rfl))]
def usumTo (L : List Ud) (i : Nat) : List V := ((L.take i).map Ud.uv).foldl addV []
theorem usumTo_succ {L : List Ud} {i : Nat} {x : Ud} (hi : i < L.length) (hx : L.getD i Ud.zero = x) : usumTo L (i + 1) = addV (usumTo L i) x.uv := by
  unfold usumTo
  rw [takeU hi, hx, List.map_append, List.foldl_append]
  rfl
theorem usumTo_len (L : List Ud) : ∀ i, (usumTo L i).length ≤ i
  | 0 => by unfold usumTo; simp
  | i + 1 => by
    have ih := usumTo_len L i
    by_cases hi : i < L.length
    · rw [usumTo_succ hi rfl]
      have := addV_len (usumTo L i) (L.getD i Ud.zero).uv
      omega
    · have e : usumTo L (i + 1) = usumTo L i := by unfold usumTo; rw [List.take_of_length_le (by omega), List.take_of_length_le (by omega)]
      rw [e]; omega
theorem usumTo_srt {L : List Ud} (hin : ∀ x ∈ L, InN x.uv) (i : Nat) : (usumTo L i).Pairwise fun a b => cmpV a b < 0 :=
  (Summed.all ((L.take i).map Ud.uv) (fun y hy => by obtain ⟨x, hx, rfl⟩ := List.mem_map.1 hy; exact hin x (List.mem_of_mem_take hx))).sorted
theorem udsC_set3 (L : List Ud) (k : Nat) (y : Ud) (s : Int) (hk : k < L.length) (hy : L.getD k Ud.zero = y) : (udsC L).set (k * 4 + 3) (.int .i64 s) = udsC (L.set k ⟨y.A, y.c, y.l, y.t, s⟩) := by
  have e : L = L.take k ++ y :: L.drop (k + 1) := by rw [← hy, ← dropU hk, List.take_append_drop]
  have hl : (L.take k).length = k := by rw [List.length_take]; omega
  have e2 : L.set k ⟨y.A, y.c, y.l, y.t, s⟩ = L.take k ++ ⟨y.A, y.c, y.l, y.t, s⟩ :: L.drop (k + 1) := by
    have q : L.set k (⟨y.A, y.c, y.l, y.t, s⟩ : Ud) = (L.take k ++ y :: L.drop (k + 1)).set k ⟨y.A, y.c, y.l, y.t, s⟩ := congrArg (fun l => List.set l k (⟨y.A, y.c, y.l, y.t, s⟩ : Ud)) e
    rw [q, List.set_append_right _ _ (by rw [hl]; exact Nat.le_refl _), hl, Nat.sub_self, List.set_cons_zero]
  rw [e2]
  have e3 : udsC L = udsC (L.take k) ++ (udC y ++ udsC (L.drop (k + 1))) := by
    have q := congrArg udsC e
    rw [udsC_append] at q
    exact q
  rw [e3, List.set_append_right _ _ (by rw [udsC_len, hl]; omega), udsC_len, hl, Nat.add_sub_cancel_left, udsC_append]
  rfl
end UdS
end Go.Proofs.YtdgbkpoickbidaaGreatDoor
namespace Go.Proofs.YtdgbkpoickbidaaGreatDoor
open Go.RowKit

set_option maxRecDepth 100000 in
set_option maxHeartbeats 400000 in
theorem rleq_diff (e1 e2 : Int) (A1 A2 : Option Addr) (n1 n2 c1 c2 : Nat) (w : World) (hne : ((n1 : Int) != (n2 : Int)) = true) :
    Calls Tryz.prog 119 #[.agg #[.int .u64 e1, .slice A1 n1 c1], .agg #[.int .u64 e2, .slice A2 n2 c2]] w fun e w' => e = .returned (.bool false) ∧ Ext w w' := by
  go_enter Tryz.func119, Tryz.ntmps119
  go_wp2
  go_ret
  exact ⟨rfl, ((Ext.refl w).alloc _).alloc _⟩
set_option maxRecDepth 100000 in
set_option maxHeartbeats 400000 in
theorem rleq_late (e1 e2 : Int) (A1 A2 : Option Addr) (n c1 c2 : Nat) (w : World) (hlt : e2 < e1) :
    Calls Tryz.prog 119 #[.agg #[.int .u64 e1, .slice A1 n c1], .agg #[.int .u64 e2, .slice A2 n c2]] w fun e w' => e = .returned (.bool false) ∧ Ext w w' := by
  have he : ((n : Int) != (n : Int)) = false := by simp
  go_enter Tryz.func119, Tryz.ntmps119
  go_wp2
  go_ret
  exact ⟨rfl, ((Ext.refl w).alloc _).alloc _⟩
set_option maxRecDepth 100000 in
set_option maxHeartbeats 400000 in
theorem rleq_same (e1 e2 : Int) (A1 A2 : Option Addr) (n c1 c2 : Nat) (l1 l2 : List Int) (w : World) (h1 : Sl w 1 A1 n c1 (wds l1)) (h2 : Sl w 1 A2 n c2 (wds l2)) (hle : e1 ≤ e2) :
    Calls Tryz.prog 119 #[.agg #[.int .u64 e1, .slice A1 n c1], .agg #[.int .u64 e2, .slice A2 n c2]] w fun e w' => e = .returned (.bool (decide (∀ k, k < n → l1.getD k 0 ≤ l2.getD k 0))) ∧ Ext w w' := by
  have hm := h1.le
  have he : ((n : Int) != (n : Int)) = false := by simp
  go_enter Tryz.func119, Tryz.ntmps119
  go_wp2
  obtain ⟨w0, hw0⟩ : ∃ w0, w0 = (w.alloc (Obj.cells #[Value.int IntKind.u64 e1, Value.slice A1 n c1] 26)).alloc (Obj.cells #[Value.int IntKind.u64 e2, Value.slice A2 n c2] 26) := ⟨_, rfl⟩
  have e0 : Ext w w0 := hw0 ▸ ((Ext.refl w).alloc _).alloc _
  have b1 : w0.cell? ⟨w.heap.size, 1, none⟩ = some (Value.slice A1 n c1) := by subst hw0; go_simp
  have b2 : w0.cell? ⟨w.heap.size + 1, 1, none⟩ = some (Value.slice A2 n c2) := by subst hw0; go_simp
  rw [← hw0]
  clear hw0
  go_loopw [5] (fun v wr => ∃ k : Nat, k ≤ n ∧ v = .int .i64 k ∧ (∀ j, j < k → l1.getD j 0 ≤ l2.getD j 0) ∧ ∃ m, wr = w0.drewN m) (fun v _ => n - (intOf v).toNat)
  case atStart => exact ⟨0, Nat.zero_le _, rfl, fun j hj => absurd hj (by omega), 0, rfl⟩
  case round =>
    obtain ⟨k, hk, rfl, hall, m, rfl⟩ := hrel
    have H := Lib.hid hall
    clear hall
    by_cases hlt : k < n
    · obtain ⟨a1, ha1, hc1, _⟩ := (h1.ext e0).word hlt
      obtain ⟨a2, ha2, hc2, _⟩ := (h2.ext e0).word hlt
      go_wp2
      go_quiet (fail)
      go_wp2
      · have hv : l2[k]?.getD 0 < l1[k]?.getD 0 := by assumption
        go_ret
        refine ⟨ret_bool (Eq.symm (decide_eq_false fun hh => ?_)), (e0.drewN _).drewN _⟩
        have := hh k hlt
        simp only [List.getD_eq_getElem?_getD] at this
        omega
      · have hv : l1[k]?.getD 0 ≤ l2[k]?.getD 0 := by assumption
        go_roundw
        case rel =>
          refine ⟨k + 1, by omega, by go_num, fun j hj => ?_, _, rfl⟩
          by_cases hjk : j < k
          · exact H.out j hjk
          · obtain rfl : j = k := by omega
            simpa only [List.getD_eq_getElem?_getD] using hv
        case measure => simp [intOf]; omega
    · go_wp2
      go_ret
      refine ⟨ret_bool (Eq.symm (decide_eq_true fun j hj => H.out j (by omega))), e0.drewN _⟩

theorem rleq_any (e1 e2 : Int) (A1 A2 : Option Addr) (n1 n2 c1 c2 : Nat) (l1 l2 : List Int) (w : World) (h1 : Sl w 1 A1 n1 c1 (wds l1)) (h2 : Sl w 1 A2 n2 c2 (wds l2)) :
    Calls Tryz.prog 119 #[.agg #[.int .u64 e1, .slice A1 n1 c1], .agg #[.int .u64 e2, .slice A2 n2 c2]] w fun e w' => e = .returned (.bool (leqT e1 l1 e2 l2)) ∧ Ext w w' := by
  have hl1 := h1.wlen
  have hl2 := h2.wlen
  by_cases hn : n1 = n2
  · subst hn
    by_cases hlt : e2 < e1
    · have hf : leqT e1 l1 e2 l2 = false := decide_eq_false fun hh => by have := hh.2.1; omega
      rw [hf]; exact rleq_late e1 e2 A1 A2 n1 c1 c2 w hlt
    · refine (rleq_same e1 e2 A1 A2 n1 c1 c2 l1 l2 w h1 h2 (by omega)).mono fun e w' ⟨he, hx⟩ => ⟨he.trans (ret_bool ?_), hx⟩
      unfold leqT
      rw [decide_eq_decide, hl1, hl2]
      exact ⟨fun h => ⟨rfl, by omega, h⟩, fun h => h.2.2⟩
  · have hf : leqT e1 l1 e2 l2 = false := decide_eq_false fun hh => by have := hh.1; omega
    rw [hf]
    exact rleq_diff e1 e2 A1 A2 n1 n2 c1 c2 w (by simp; omega)
end Go.Proofs.YtdgbkpoickbidaaGreatDoor
namespace Go.Proofs.YtdgbkpoickbidaaGreatDoor
open Go.RowKit

set_option maxRecDepth 100000 in
set_option maxHeartbeats 400000 in
theorem rsign_any (x y : Int) (w : World) : Calls Tryz.prog 210 #[.int .u64 x, .int .u64 y] w fun e w' => e = .returned (.int .i64 (cmpT x y)) ∧ w = w' := by
  rcases Int.lt_trichotomy x y with h | h | h
  · rw [cmpT_lt h]
    go_enter Tryz.func210, Tryz.ntmps210
    go_wp2
    go_ret
    exact ⟨rfl, rfl⟩
  · subst h
    rw [cmpT_self]
    go_enter Tryz.func210, Tryz.ntmps210
    go_wp2
    go_ret
    exact ⟨rfl, rfl⟩
  · rw [cmpT_gt h]
    have h2 : ¬ x < y := by omega
    go_enter Tryz.func210, Tryz.ntmps210
    go_wp2
    go_ret
    exact ⟨rfl, rfl⟩
theorem rsign_at {v : Int} (x y : Int) (w : World) (h : Hid (cmpT x y = v)) : Calls Tryz.prog 210 #[.int .u64 x, .int .u64 y] w fun e w' => e = .returned (.int .i64 v) ∧ w = w' := h.out ▸ rsign_any x y w
/-- what is told when k counters have been looked at -/
def fromK (l1 l2 : List Int) (k : Nat) (v : Int) : Int := if v = 0 then lexT (l1.drop k) (l2.drop k) else v
set_option maxRecDepth 100000 in
set_option maxHeartbeats 2000000 in
theorem rcmp_off (e1 e2 : Int) (A1 A2 : Option Addr) (n1 n2 c1 c2 : Nat) (w : World) (v : Int) (hv : Hid (cmpT n1 n2 = v)) (v0 : (v == 0) = false) (hn1 : n1 ≤ 1000000) (hn2 : n2 ≤ 1000000) :
    Calls Tryz.prog 149 #[.agg #[.int .u64 e1, .slice A1 n1 c1], .agg #[.int .u64 e2, .slice A2 n2 c2]] w fun e w' => e = .returned (.int .i64 v) ∧ Ext w w' := by
  have w1_ : IntKind.u64.wrap (n1 : Int) = n1 := IntWalk.u64_in _ (by omega)
  have w2_ : IntKind.u64.wrap (n2 : Int) = n2 := IntWalk.u64_in _ (by omega)
  go_enter Tryz.func149, Tryz.ntmps149
  go_wp2_with (go_at_call 210; refine (rsign_at _ _ _ hv).mono ?_; rintro r w1 ⟨rfl, rfl⟩)
  refine wp_loop_rounds 1 ?_
  rw [rounds_succ]
  go_wp2
  all_goals go_ret
  all_goals exact ⟨rfl, ((Ext.refl w).alloc _).alloc _⟩
set_option maxRecDepth 100000 in
set_option maxHeartbeats 4000000 in
theorem rcmp_same (e1 e2 : Int) (A1 A2 : Option Addr) (n c1 c2 : Nat) (l1 l2 : List Int) (w : World) (h1 : Sl w 1 A1 n c1 (wds l1)) (h2 : Sl w 1 A2 n c2 (wds l2)) (u1 : U32 l1) (u2 : U32 l2) (hn : n ≤ 1000000) :
    Calls Tryz.prog 149 #[.agg #[.int .u64 e1, .slice A1 n c1], .agg #[.int .u64 e2, .slice A2 n c2]] w fun e w' => e = .returned (.int .i64 (fromK l1 l2 0 (cmpT e1 e2))) ∧ Ext w w' := by
  have HL1 := Lib.hid h1.wlen
  have HL2 := Lib.hid h2.wlen
  have HU1 := Lib.hid u1
  have HU2 := Lib.hid u2
  have w1_ : IntKind.u64.wrap (n : Int) = n := IntWalk.u64_in _ (by omega)
  have hs : Hid (cmpT n n = 0) := Lib.hid (cmpT_self _)
  obtain ⟨R, hR⟩ : ∃ R, fromK l1 l2 0 (cmpT e1 e2) = R := ⟨_, rfl⟩
  rw [hR]
  have HR := Lib.hid hR
  obtain ⟨v, hv⟩ : ∃ v, cmpT e1 e2 = v := ⟨_, rfl⟩
  have hv1 := Lib.hid hv
  have HV : Hid (fromK l1 l2 0 v = R) := Lib.hid (by rw [← hv]; exact hR)
  clear hR hv u1 u2
  have m1 : True := trivial
  go_enter Tryz.func149, Tryz.ntmps149
  go_wp2_with (first
    | (go_at_call 210; have mk := m1; clear m1 mk; refine (rsign_at _ _ _ hs).mono ?_; rintro r w1 ⟨rfl, rfl⟩; have m2 : True := trivial)
    | (go_at_call 210; have mk := m2; clear m2 mk; refine (rsign_at _ _ _ hv1).mono ?_; rintro r w1 ⟨rfl, rfl⟩))
  obtain ⟨w0, hw0⟩ : ∃ w0, w0 = (w.alloc (Obj.cells #[Value.int IntKind.u64 e1, Value.slice A1 n c1] 26)).alloc (Obj.cells #[Value.int IntKind.u64 e2, Value.slice A2 n c2] 26) := ⟨_, rfl⟩
  have x0 : Ext w w0 := hw0 ▸ ((Ext.refl w).alloc _).alloc _
  have b1 : w0.cell? ⟨w.heap.size, 1, none⟩ = some (Value.slice A1 n c1) := by subst hw0; go_simp
  have b2 : w0.cell? ⟨w.heap.size + 1, 1, none⟩ = some (Value.slice A2 n c2) := by subst hw0; go_simp
  rw [← hw0]
  clear hw0
  go_loopw [5, 6] (fun u v wr => ∃ (k : Nat) (z : Int), k ≤ n ∧ v = .int .i64 k ∧ u = .int .i64 z ∧ Hid (fromK l1 l2 k z = R) ∧ Ext w0 wr) (fun _ v _ => n - (intOf v).toNat)
  case atStart => exact ⟨0, v, Nat.zero_le _, rfl, rfl, HV, Ext.refl _⟩
  case round =>
    obtain ⟨k, z, hk, rfl, rfl, HZ, er⟩ := hrel
    have d1 : wr.cell? ⟨w.heap.size, 1, none⟩ = some (Value.slice A1 n c1) := er.cell b1
    have d2 : wr.cell? ⟨w.heap.size + 1, 1, none⟩ = some (Value.slice A2 n c2) := er.cell b2
    by_cases hlt : k < n
    · by_cases hz : z = 0
      · subst hz
        obtain ⟨a1, ha1, hc1, _⟩ := (h1.ext (x0.trans er)).word hlt
        obtain ⟨a2, ha2, hc2, _⟩ := (h2.ext (x0.trans er)).word hlt
        obtain ⟨x, hx⟩ : ∃ x, l1.getD k 0 = x := ⟨_, rfl⟩
        obtain ⟨y, hy⟩ : ∃ y, l2.getD k 0 = y := ⟨_, rfl⟩
        obtain ⟨q, hq⟩ : ∃ q, cmpT x y = q := ⟨_, rfl⟩
        have ux := HU1.out.getD k
        have uy := HU2.out.getD k
        rw [hx] at ux hc1
        rw [hy] at uy hc2
        have wx : IntKind.u64.wrap x = x := IntWalk.u64_in _ (by omega)
        have wy : IntKind.u64.wrap y = y := IntWalk.u64_in _ (by omega)
        have HN : Hid (fromK l1 l2 (k + 1) q = R) := Lib.hid (by
          have h := HZ.out
          have e1 := HL1.out
          have e2 := HL2.out
          unfold fromK at h ⊢
          rw [if_pos rfl, lexT_step k l1 l2 (by omega) (by omega), hx, hy, hq] at h
          exact h)
        have HQ := Lib.hid hq
        clear hq hx hy HZ
        go_wp2
        have X : Ext wr wr.drew := (Ext.refl wr).drew
        have q1 : ∀ y : Xt wr.drew, y.W.cell? ⟨w.heap.size, 1, none⟩ = some (.slice A1 n c1) := fun y => y.x.cell (X.cell d1)
        have q2 : ∀ y : Xt wr.drew, y.W.cell? ⟨w.heap.size + 1, 1, none⟩ = some (.slice A2 n c2) := fun y => y.x.cell (X.cell d2)
        have q3 : ∀ y : Xt wr.drew, y.W.cell? (a1.add k) = some (.int .u32 x) := fun y => y.x.cell (X.cell hc1)
        have q4 : ∀ z : Xt wr.drew, z.W.cell? (a2.add k) = some (.int .u32 y) := fun z => z.x.cell (X.cell hc2)
        refine wp_region_ord [0,1,0,7,15,31,0,64,0,448,960,1984,4095,8191] (.flo [0,1,2,3,4,5,6,7,8,9,10,11] (.one 12 (.flo [13] (.fin)))) (by kernel_rfl) (by kernel_rfl) (by intro _ _ d _ _ h; cases d <;> exact h) ?_
        (refine ord_flo (pick_cons rfl (pick_cons rfl (pick_cons rfl (pick_cons rfl (pick_cons rfl (pick_cons rfl (pick_cons rfl (pick_cons rfl (pick_cons rfl (pick_cons rfl (pick_cons rfl (pick_cons rfl pick_nil)))))))))))) ?_; (repeat (go_big_quiet_step (fail))); refine wpQuiet_nil ?_; show ordWalk _ _ _ _ _ _ _)
        refine ord_one (pick_cons rfl pick_nil) ?_; intro K_ hK_
        go_wp2_with (go_at_call 210; refine (rsign_at _ _ _ HQ).mono ?_; rintro r w1 ⟨rfl, rfl⟩)
        (refine ord_flo (pick_cons rfl pick_nil) ?_; (repeat (go_big_quiet_step (fail))); refine wpQuiet_nil ?_; show ordWalk _ _ _ _ _ _ _)
        refine ord_fin ?_
        go_wp2
        rw [← ha1, ← ha2]
        go_roundw
        case rel => exact ⟨k + 1, q, by omega, by go_num, rfl, HN, er.trans X⟩
        case measure => simp [intOf]; omega
      · have z0 : (z == 0) = false := by simpa using hz
        have HF : Hid (z = R) := Lib.hid (by have h := HZ.out; unfold fromK at h; rwa [if_neg hz] at h)
        clear hz HZ
        go_wp2
        go_ret
        exact ⟨by rw [← HF.out]; rfl, x0.trans er⟩
    · obtain rfl : k = n := by omega
      have HF : Hid (z = R) := Lib.hid (by
        have h := HZ.out
        have e1 := HL1.out
        have e2 := HL2.out
        unfold fromK at h
        split at h
        · rename_i h0
          rw [List.drop_eq_nil_of_le (by omega), List.drop_eq_nil_of_le (by omega)] at h
          rw [h0]
          exact h
        · exact h)
      clear HZ
      go_wp2
      all_goals go_ret
      all_goals exact ⟨by rw [← HF.out]; rfl, x0.trans er⟩
theorem rcmp_any (e1 e2 : Int) (A1 A2 : Option Addr) (n1 n2 c1 c2 : Nat) (l1 l2 : List Int) (w : World) (h1 : Sl w 1 A1 n1 c1 (wds l1)) (h2 : Sl w 1 A2 n2 c2 (wds l2)) (u1 : U32 l1) (u2 : U32 l2) (hn1 : n1 ≤ 1000000) (hn2 : n2 ≤ 1000000) :
    Calls Tryz.prog 149 #[.agg #[.int .u64 e1, .slice A1 n1 c1], .agg #[.int .u64 e2, .slice A2 n2 c2]] w fun e w' => e = .returned (.int .i64 (cmpTT e1 l1 e2 l2)) ∧ Ext w w' := by
  have hl1 := h1.wlen
  have hl2 := h2.wlen
  unfold cmpTT
  rw [hl1, hl2]
  by_cases h : n1 = n2
  · subst h
    rw [show orT (cmpT n1 n1) (cmpT e1 e2) (lexT l1 l2) = fromK l1 l2 0 (cmpT e1 e2) by
      rw [cmpT_self]; rfl]
    exact rcmp_same e1 e2 A1 A2 n1 c1 c2 l1 l2 w h1 h2 u1 u2 hn1
  · have h9 : cmpT n1 n2 ≠ 0 := fun h9 => h (by have := cmpT_zero.1 h9; omega)
    rw [show orT (cmpT n1 n2) (cmpT e1 e2) (lexT l1 l2) = cmpT n1 n2 from if_neg h9]
    exact rcmp_off e1 e2 A1 A2 n1 n2 c1 c2 w _ (Lib.hid rfl) (by simpa using h9) hn1 hn2
end Go.Proofs.YtdgbkpoickbidaaGreatDoor
namespace Go.Proofs.YtdgbkpoickbidaaGreatDoor
open Go.RowKit

theorem rtq_at {v : Bool} (e1 e2 : Int) (A1 A2 : Option Addr) (n1 n2 c1 c2 : Nat) (l1 l2 : List Int) (w : World) (hr : Hid (tleq (e1, l1) (e2, l2) = v)) (h1 : Hid (Sl w 1 A1 n1 c1 (wds l1))) (h2 : Hid (Sl w 1 A2 n2 c2 (wds l2))) :
    Calls Tryz.prog 119 #[.agg #[.int .u64 e1, .slice A1 n1 c1], .agg #[.int .u64 e2, .slice A2 n2 c2]] w fun e w' => e = .returned (.bool v) ∧ Ext w w' := hr.out ▸ rleq_any e1 e2 A1 A2 n1 n2 c1 c2 l1 l2 w h1.out h2.out
theorem rtc_at {v : Int} (e1 e2 : Int) (A1 A2 : Option Addr) (n1 n2 c1 c2 : Nat) (l1 l2 : List Int) (w : World) (hr : Hid (tcmp (e1, l1) (e2, l2) = v)) (h1 : Hid (Sl w 1 A1 n1 c1 (wds l1))) (h2 : Hid (Sl w 1 A2 n2 c2 (wds l2))) (u1 : Hid (U32 l1)) (u2 : Hid (U32 l2)) (hn1 : n1 ≤ 1000000) (hn2 : n2 ≤ 1000000) :
    Calls Tryz.prog 149 #[.agg #[.int .u64 e1, .slice A1 n1 c1], .agg #[.int .u64 e2, .slice A2 n2 c2]] w fun e w' => e = .returned (.int .i64 v) ∧ Ext w w' := hr.out ▸ rcmp_any e1 e2 A1 A2 n1 n2 c1 c2 l1 l2 w h1.out h2.out u1.out u2.out hn1 hn2
/-- an element, its parts named: what the regions that draw want to know -/
structure TmAt (wr : World) (A : Option Addr) (k : Nat) (e : Int) (B : Option Addr) (n c : Nat) (l : List Int) (ad : Addr) : Prop where
  addr : A = some ad
  c0 : ∀ y : Xt wr, y.W.cell? (ad.add (k * 2)) = some (.int .u64 e)
  c1 : ∀ y : Xt wr, y.W.cell? ⟨(ad.add (k * 2)).block, (ad.add (k * 2)).off + 1, none⟩ = some (.slice B n c)
  sl : ∀ y : Xt wr, Hid (Sl y.W 1 B n c (wds l))
theorem Tin.tmAt {wr : World} {A : Option Addr} {c : Nat} {L : List Tm} (h : Tin wr A c L) {k : Nat} (hk : k < L.length) : ∃ e B n cc l ad, TmAt wr A k e B n cc l ad ∧ L.getD k Tm.zero = ⟨e, B, cc, l⟩ ∧ n = l.length := by
  obtain ⟨ad, rfl, q0, q1⟩ := h.at hk
  have hs := h.ls _ (getT_mem hk)
  obtain ⟨x, hx⟩ : ∃ x, L.getD k Tm.zero = x := ⟨_, rfl⟩
  rw [hx] at q0 q1 hs
  obtain ⟨e, B, cc, l⟩ := x
  exact ⟨e, B, l.length, cc, l, ad, ⟨rfl, fun y => y.x.cell q0, fun y => y.x.cell q1, fun y => Lib.hid (hs.ext y.x)⟩, hx, rfl⟩
end Go.Proofs.YtdgbkpoickbidaaGreatDoor
namespace Go.Proofs.YtdgbkpoickbidaaGreatDoor
open Go.RowKit

def signI (l s : Bool) : Int := if l then -1 else if s then 0 else 1
set_option maxRecDepth 100000 in
set_option maxHeartbeats 400000 in
theorem sign_any (l s : Bool) (w : World) : Calls Tryz.prog 219 #[.bool l, .bool s] w fun e w' => e = .returned (.int .i64 (signI l s)) ∧ w = w' := by
  cases l <;> cases s
  all_goals
    go_enter Tryz.func219, Tryz.ntmps219
    go_wp2
    go_ret
    exact ⟨rfl, rfl⟩
set_option maxRecDepth 100000 in
set_option maxHeartbeats 800000 in
theorem rcmp_klt (ka na kb nb : Int) (ba bb : Bool) (sa sb : ByteArray) (w : World) (h : ka < kb) : Calls Tryz.prog 165 #[.agg #[.int .u8 (ka), .bool (ba), .int .i64 (na), .string (sa)], .agg #[.int .u8 (kb), .bool (bb), .int .i64 (nb), .string (sb)]] w fun e w' => e = .returned (.int .i64 (-1)) ∧ Ext w w' := by
  have z : (ka != kb) = true := by simp; omega
  go_enter Tryz.func165, Tryz.ntmps165
  go_wp2_with (go_at_call 219; refine (sign_any _ _ _).mono ?_; rintro e w1 ⟨rfl, rfl⟩)
  go_ret
  exact ⟨rfl, ((Ext.refl w).alloc _).alloc _⟩
set_option maxRecDepth 100000 in
set_option maxHeartbeats 800000 in
theorem rcmp_kgt (ka na kb nb : Int) (ba bb : Bool) (sa sb : ByteArray) (w : World) (h : kb < ka) : Calls Tryz.prog 165 #[.agg #[.int .u8 (ka), .bool (ba), .int .i64 (na), .string (sa)], .agg #[.int .u8 (kb), .bool (bb), .int .i64 (nb), .string (sb)]] w fun e w' => e = .returned (.int .i64 (1)) ∧ Ext w w' := by
  have z : (ka != kb) = true := by simp; omega
  have z2 : decide (ka < kb) = false := by simp; omega
  go_enter Tryz.func165, Tryz.ntmps165
  go_wp2_with (go_at_call 219; refine (sign_any _ _ _).mono ?_; rintro e w1 ⟨rfl, rfl⟩)
  go_ret
  exact ⟨rfl, ((Ext.refl w).alloc _).alloc _⟩
set_option maxRecDepth 100000 in
set_option maxHeartbeats 800000 in
theorem rcmp_b_false_false (na nb : Int) (sa sb : ByteArray) (w : World)  : Calls Tryz.prog 165 #[.agg #[.int .u8 (2), .bool (false), .int .i64 (na), .string (sa)], .agg #[.int .u8 (2), .bool (false), .int .i64 (nb), .string (sb)]] w fun e w' => e = .returned (.int .i64 (0)) ∧ Ext w w' := by
  go_enter Tryz.func165, Tryz.ntmps165
  go_wp2_with (go_at_call 219; refine (sign_any _ _ _).mono ?_; rintro e w1 ⟨rfl, rfl⟩)
  go_ret
  exact ⟨rfl, ((Ext.refl w).alloc _).alloc _⟩
set_option maxRecDepth 100000 in
set_option maxHeartbeats 800000 in
theorem rcmp_b_false_true (na nb : Int) (sa sb : ByteArray) (w : World)  : Calls Tryz.prog 165 #[.agg #[.int .u8 (2), .bool (false), .int .i64 (na), .string (sa)], .agg #[.int .u8 (2), .bool (true), .int .i64 (nb), .string (sb)]] w fun e w' => e = .returned (.int .i64 (-1)) ∧ Ext w w' := by
  go_enter Tryz.func165, Tryz.ntmps165
  go_wp2_with (go_at_call 219; refine (sign_any _ _ _).mono ?_; rintro e w1 ⟨rfl, rfl⟩)
  go_ret
  exact ⟨rfl, ((Ext.refl w).alloc _).alloc _⟩
set_option maxRecDepth 100000 in
set_option maxHeartbeats 800000 in
theorem rcmp_b_true_false (na nb : Int) (sa sb : ByteArray) (w : World)  : Calls Tryz.prog 165 #[.agg #[.int .u8 (2), .bool (true), .int .i64 (na), .string (sa)], .agg #[.int .u8 (2), .bool (false), .int .i64 (nb), .string (sb)]] w fun e w' => e = .returned (.int .i64 (1)) ∧ Ext w w' := by
  go_enter Tryz.func165, Tryz.ntmps165
  go_wp2_with (go_at_call 219; refine (sign_any _ _ _).mono ?_; rintro e w1 ⟨rfl, rfl⟩)
  go_ret
  exact ⟨rfl, ((Ext.refl w).alloc _).alloc _⟩
set_option maxRecDepth 100000 in
set_option maxHeartbeats 800000 in
theorem rcmp_b_true_true (na nb : Int) (sa sb : ByteArray) (w : World)  : Calls Tryz.prog 165 #[.agg #[.int .u8 (2), .bool (true), .int .i64 (na), .string (sa)], .agg #[.int .u8 (2), .bool (true), .int .i64 (nb), .string (sb)]] w fun e w' => e = .returned (.int .i64 (0)) ∧ Ext w w' := by
  go_enter Tryz.func165, Tryz.ntmps165
  go_wp2_with (go_at_call 219; refine (sign_any _ _ _).mono ?_; rintro e w1 ⟨rfl, rfl⟩)
  go_ret
  exact ⟨rfl, ((Ext.refl w).alloc _).alloc _⟩
set_option maxRecDepth 100000 in
set_option maxHeartbeats 800000 in
theorem rcmp_nlt (na nb : Int) (ba bb : Bool) (sa sb : ByteArray) (w : World) (h : na < nb) : Calls Tryz.prog 165 #[.agg #[.int .u8 (3), .bool (ba), .int .i64 (na), .string (sa)], .agg #[.int .u8 (3), .bool (bb), .int .i64 (nb), .string (sb)]] w fun e w' => e = .returned (.int .i64 (-1)) ∧ Ext w w' := by
  have z : (na == nb) = false := by simp; omega
  go_enter Tryz.func165, Tryz.ntmps165
  go_wp2_with (go_at_call 219; refine (sign_any _ _ _).mono ?_; rintro e w1 ⟨rfl, rfl⟩)
  go_ret
  exact ⟨rfl, ((Ext.refl w).alloc _).alloc _⟩
set_option maxRecDepth 100000 in
set_option maxHeartbeats 800000 in
theorem rcmp_neq (na : Int) (ba bb : Bool) (sa sb : ByteArray) (w : World)  : Calls Tryz.prog 165 #[.agg #[.int .u8 (3), .bool (ba), .int .i64 (na), .string (sa)], .agg #[.int .u8 (3), .bool (bb), .int .i64 (na), .string (sb)]] w fun e w' => e = .returned (.int .i64 (0)) ∧ Ext w w' := by
  have z2 : decide (na < na) = false := by simp
  go_enter Tryz.func165, Tryz.ntmps165
  go_wp2_with (go_at_call 219; refine (sign_any _ _ _).mono ?_; rintro e w1 ⟨rfl, rfl⟩)
  go_ret
  exact ⟨rfl, ((Ext.refl w).alloc _).alloc _⟩
set_option maxRecDepth 100000 in
set_option maxHeartbeats 800000 in
theorem rcmp_ngt (na nb : Int) (ba bb : Bool) (sa sb : ByteArray) (w : World) (h : nb < na) : Calls Tryz.prog 165 #[.agg #[.int .u8 (3), .bool (ba), .int .i64 (na), .string (sa)], .agg #[.int .u8 (3), .bool (bb), .int .i64 (nb), .string (sb)]] w fun e w' => e = .returned (.int .i64 (1)) ∧ Ext w w' := by
  have z : (na == nb) = false := by simp; omega
  have z2 : decide (na < nb) = false := by simp; omega
  go_enter Tryz.func165, Tryz.ntmps165
  go_wp2_with (go_at_call 219; refine (sign_any _ _ _).mono ?_; rintro e w1 ⟨rfl, rfl⟩)
  go_ret
  exact ⟨rfl, ((Ext.refl w).alloc _).alloc _⟩
set_option maxRecDepth 100000 in
set_option maxHeartbeats 800000 in
theorem rcmp_slt (na nb : Int) (ba bb : Bool) (sa sb : ByteArray) (w : World) (h : Op.bytesLess sa.toList sb.toList = true) : Calls Tryz.prog 165 #[.agg #[.int .u8 (4), .bool (ba), .int .i64 (na), .string (sa)], .agg #[.int .u8 (4), .bool (bb), .int .i64 (nb), .string (sb)]] w fun e w' => e = .returned (.int .i64 (-1)) ∧ Ext w w' := by
  go_enter Tryz.func165, Tryz.ntmps165
  go_wp2_with (go_at_call 219; refine (sign_any _ _ _).mono ?_; rintro e w1 ⟨rfl, rfl⟩)
  go_ret
  exact ⟨rfl, ((Ext.refl w).alloc _).alloc _⟩
set_option maxRecDepth 100000 in
set_option maxHeartbeats 800000 in
theorem rcmp_seq (na nb : Int) (ba bb : Bool) (sa sb : ByteArray) (w : World) (h : Op.bytesLess sa.toList sb.toList = false) (h2 : (sa.toList == sb.toList) = true) : Calls Tryz.prog 165 #[.agg #[.int .u8 (4), .bool (ba), .int .i64 (na), .string (sa)], .agg #[.int .u8 (4), .bool (bb), .int .i64 (nb), .string (sb)]] w fun e w' => e = .returned (.int .i64 (0)) ∧ Ext w w' := by
  go_enter Tryz.func165, Tryz.ntmps165
  go_wp2_with (go_at_call 219; refine (sign_any _ _ _).mono ?_; rintro e w1 ⟨rfl, rfl⟩)
  go_ret
  exact ⟨rfl, ((Ext.refl w).alloc _).alloc _⟩
set_option maxRecDepth 100000 in
set_option maxHeartbeats 800000 in
theorem rcmp_sgt (na nb : Int) (ba bb : Bool) (sa sb : ByteArray) (w : World) (h : Op.bytesLess sa.toList sb.toList = false) (h2 : (sa.toList == sb.toList) = false) : Calls Tryz.prog 165 #[.agg #[.int .u8 (4), .bool (ba), .int .i64 (na), .string (sa)], .agg #[.int .u8 (4), .bool (bb), .int .i64 (nb), .string (sb)]] w fun e w' => e = .returned (.int .i64 (1)) ∧ Ext w w' := by
  go_enter Tryz.func165, Tryz.ntmps165
  go_wp2_with (go_at_call 219; refine (sign_any _ _ _).mono ?_; rintro e w1 ⟨rfl, rfl⟩)
  go_ret
  exact ⟨rfl, ((Ext.refl w).alloc _).alloc _⟩
set_option maxRecDepth 100000 in
set_option maxHeartbeats 800000 in
theorem rcmp_oth (k : Int) (na nb : Int) (ba bb : Bool) (sa sb : ByteArray) (w : World) (h2 : ¬ k = 2) (h3 : ¬ k = 3) (h4 : ¬ k = 4) : Calls Tryz.prog 165 #[.agg #[.int .u8 (k), .bool (ba), .int .i64 (na), .string (sa)], .agg #[.int .u8 (k), .bool (bb), .int .i64 (nb), .string (sb)]] w fun e w' => e = .returned (.int .i64 (0)) ∧ Ext w w' := by
  have z : (k != k) = false := by simp
  have z2 : (k == 2) = false := by simpa using h2
  have z3 : (k == 3) = false := by simpa using h3
  have z4 : (k == 4) = false := by simpa using h4
  go_enter Tryz.func165, Tryz.ntmps165
  go_wp2
  go_ret
  exact ⟨rfl, ((Ext.refl w).alloc _).alloc _⟩
theorem rdcmp_any (ka na kb nb : Int) (ba bb : Bool) (sa sb : ByteArray) (w : World) : Calls Tryz.prog 165 #[.agg #[.int .u8 (ka), .bool (ba), .int .i64 (na), .string (sa)], .agg #[.int .u8 (kb), .bool (bb), .int .i64 (nb), .string (sb)]] w fun e w' => e = .returned (.int .i64 (cmpD ⟨ka, ba, na, sa⟩ ⟨kb, bb, nb, sb⟩)) ∧ Ext w w' := by
  unfold cmpD
  simp only
  by_cases h : ka = kb
  · subst h
    rw [if_pos rfl]
    by_cases h2 : ka = 2
    · subst h2
      rw [if_pos rfl]
      cases ba <;> cases bb
      · exact rcmp_b_false_false na nb sa sb w
      · exact rcmp_b_false_true na nb sa sb w
      · exact rcmp_b_true_false na nb sa sb w
      · exact rcmp_b_true_true na nb sa sb w
    rw [if_neg h2]
    by_cases h3 : ka = 3
    · subst h3
      rw [if_pos rfl]
      rcases Int.lt_trichotomy na nb with h | h | h
      · rw [cmpI_lt h]; exact rcmp_nlt na nb ba bb sa sb w h
      · subst h; rw [cmpI_self]; exact rcmp_neq na ba bb sa sb w
      · rw [cmpI_gt h]; exact rcmp_ngt na nb ba bb sa sb w h
    rw [if_neg h3]
    by_cases h4 : ka = 4
    · subst h4
      rw [if_pos rfl]
      unfold cmpS
      cases h1 : Op.bytesLess sa.toList sb.toList
      · cases h2 : (sa.toList == sb.toList)
        · exact rcmp_sgt na nb ba bb sa sb w h1 h2
        · exact rcmp_seq na nb ba bb sa sb w h1 h2
      · exact rcmp_slt na nb ba bb sa sb w h1
    rw [if_neg h4]
    exact rcmp_oth ka na nb ba bb sa sb w h2 h3 h4
  · rw [if_neg h]
    rcases Int.lt_or_gt_of_ne h with h | h
    · rw [cmpI_lt h]; exact rcmp_klt ka na kb nb ba bb sa sb w h
    · rw [cmpI_gt h]; exact rcmp_kgt ka na kb nb ba bb sa sb w h
theorem rcmp_at {c : Int} (ka na kb nb : Int) (ba bb : Bool) (sa sb : ByteArray) (w : World) (h : Hid (cmpD ⟨ka, ba, na, sa⟩ ⟨kb, bb, nb, sb⟩ = c)) : Calls Tryz.prog 165 #[.agg #[.int .u8 (ka), .bool (ba), .int .i64 (na), .string (sa)], .agg #[.int .u8 (kb), .bool (bb), .int .i64 (nb), .string (sb)]] w fun e w' => e = .returned (.int .i64 c) ∧ Ext w w' := h.out ▸ rdcmp_any ka na kb nb ba bb sa sb w
theorem rcmpD_lit {v : Int} (ka na kb nb : Int) (ba bb : Bool) (sa sb : ByteArray) (w : World) (h : Hid (cmpD ⟨ka, ba, na, sa⟩ ⟨kb, bb, nb, sb⟩ = v)) :
    Calls Tryz.prog 165 #[.agg #[.int .u8 ka, .bool ba, .int .i64 na, .string sa], .agg #[.int .u8 kb, .bool bb, .int .i64 nb, .string sb]] w fun e w' => e = .returned (.int .i64 v) ∧ Ext w w' := rcmp_at _ _ _ _ _ _ _ _ _ h
end Go.Proofs.YtdgbkpoickbidaaGreatDoor
namespace Go.Proofs.YtdgbkpoickbidaaGreatDoor
open Go.RowKit

set_option maxRecDepth 100000 in
set_option maxHeartbeats 4000000 in
theorem rowRCmp_any (A1 A2 : Option Addr) (c1 c2 n1 n2 : Nat) (l m : List Dat) (w : World) (e1 : n1 = l.length) (e2 : n2 = m.length) (h1 : Rw w A1 c1 l) (h2 : Rw w A2 c2 m) :
    Calls Tryz.prog 53 #[.slice A1 n1 c1, .slice A2 n2 c2] w fun e w' => e = .returned (.int .i64 (cmpR l m)) ∧ Ext w w' := by
  have E1 := Lib.hid e1
  have E2 := Lib.hid e2
  have hl1 := h1.le
  have hl2 := h2.le
  rw [← e1] at hl1
  rw [← e2] at hl2
  have H1 := Lib.hid h1
  have H2 := Lib.hid h2
  clear e1 e2 h1 h2
  go_enter Tryz.func53, Tryz.ntmps53
  go_wp2
  go_loopw [5] (fun v wr => ∃ i : Nat, i ≤ n1 ∧ v = .int .i64 i ∧ Hid (i ≤ m.length ∧ cmpR (l.drop i) (m.drop i) = cmpR l m) ∧ Ext w wr) (fun v _ => n1 - (intOf v).toNat)
  case atStart => exact ⟨0, Nat.zero_le _, rfl, Lib.hid ⟨Nat.zero_le _, rfl⟩, Ext.refl _⟩
  case round =>
    obtain ⟨i, hi, rfl, hr, er⟩ := hrel
    have hsz := er.size
    by_cases hlt : i < n1
    · by_cases hlt2 : i < n2
      · obtain ⟨a1, rfl, p0, p1, p2, p3⟩ := (H1.out.ext er).at (show i < l.length by rw [← E1.out]; exact hlt)
        obtain ⟨d, hd⟩ : ∃ d, l.getD i Dat.zero = d := ⟨_, rfl⟩
        rw [hd] at p0 p1 p2 p3
        obtain ⟨a2, rfl, q0, q1, q2, q3⟩ := (H2.out.ext er).at (show i < m.length by rw [← E2.out]; exact hlt2)
        obtain ⟨d2, hd2⟩ : ∃ d, m.getD i Dat.zero = d := ⟨_, rfl⟩
        rw [hd2] at q0 q1 q2 q3
        obtain ⟨v, hv⟩ : ∃ v, cmpD d d2 = v := ⟨_, rfl⟩
        have HS : Hid (cmpR l m = if v = 0 then cmpR (l.drop (i + 1)) (m.drop (i + 1)) else v) := Lib.hid (by rw [← hr.out.2, cmpR_drop (by rw [← E1.out]; exact hlt) (by rw [← E2.out]; exact hlt2), hd, hd2, hv])
        have HB : Hid (i + 1 ≤ m.length) := Lib.hid (by rw [← E2.out]; exact hlt2)
        clear hd hd2 hr
        obtain ⟨ka, ba, na, sa⟩ := d
        obtain ⟨kb, bb, nb, sb⟩ := d2
        simp only at p0 p1 p2 p3 q0 q1 q2 q3
        have HV := Lib.hid hv
        clear hv
        have X : Ext wr wr.drew := (Ext.refl wr).drew
        have P0 : ∀ y : Xt wr.drew, y.W.cell? (a1.add (i * 4)) = some (.int .u8 ka) := fun y => (X.trans y.x).cell p0
        have P1 : ∀ y : Xt wr.drew, y.W.cell? ⟨(a1.add (i * 4)).block, (a1.add (i * 4)).off + 1, none⟩ = some (.bool ba) := fun y => (X.trans y.x).cell p1
        have P2 : ∀ y : Xt wr.drew, y.W.cell? ⟨(a1.add (i * 4)).block, (a1.add (i * 4)).off + 2, none⟩ = some (.int .i64 na) := fun y => (X.trans y.x).cell p2
        have P3 : ∀ y : Xt wr.drew, y.W.cell? ⟨(a1.add (i * 4)).block, (a1.add (i * 4)).off + 3, none⟩ = some (.string sa) := fun y => (X.trans y.x).cell p3
        have Q0 : ∀ y : Xt wr.drew, y.W.cell? (a2.add (i * 4)) = some (.int .u8 kb) := fun y => (X.trans y.x).cell q0
        have Q1 : ∀ y : Xt wr.drew, y.W.cell? ⟨(a2.add (i * 4)).block, (a2.add (i * 4)).off + 1, none⟩ = some (.bool bb) := fun y => (X.trans y.x).cell q1
        have Q2 : ∀ y : Xt wr.drew, y.W.cell? ⟨(a2.add (i * 4)).block, (a2.add (i * 4)).off + 2, none⟩ = some (.int .i64 nb) := fun y => (X.trans y.x).cell q2
        have Q3 : ∀ y : Xt wr.drew, y.W.cell? ⟨(a2.add (i * 4)).block, (a2.add (i * 4)).off + 3, none⟩ = some (.string sb) := fun y => (X.trans y.x).cell q3
        by_cases hv0 : v = 0
        · subst hv0
          go_upto_region 4 with fail
          refine wp_region_ord [0,0,3,7,0,0,48,112,255,511] (.flo [0,1,2,3,4,5,6,7] (.one 8 (.flo [9] (.fin)))) (by kernel_rfl) (by kernel_rfl) (by intro _ _ d _ _ h; cases d <;> exact h) ?_
          (refine ord_flo (pick_cons rfl (pick_cons rfl (pick_cons rfl (pick_cons rfl (pick_cons rfl (pick_cons rfl (pick_cons rfl (pick_cons rfl pick_nil)))))))) ?_; (repeat (go_big_quiet_step (fail))); refine wpQuiet_nil ?_; show ordWalk _ _ _ _ _ _ _)
          refine ord_one (pick_cons rfl pick_nil) ?_; intro K_ hK_
          go_wp2_with (go_at_call 165; refine (rcmpD_lit _ _ _ _ _ _ _ _ _ HV).mono ?_; rintro e w1 ⟨rfl, x1⟩)
          (refine ord_flo (pick_cons rfl pick_nil) ?_; (repeat (go_big_quiet_step (fail))); refine wpQuiet_nil ?_; show ordWalk _ _ _ _ _ _ _)
          refine ord_fin ?_
          go_wp2
          go_roundw
          case rel => exact ⟨i + 1, by omega, by go_num, Lib.hid ⟨HB.out, by rw [HS.out]; simp⟩, er.trans (X.trans x1)⟩
          case measure => simp [intOf]; omega
        · have z : (v != 0) = true := by simpa using hv0
          have HZ := Lib.hid hv0
          clear hv0
          go_upto_region 4 with fail
          refine wp_region_ord [0,0,3,7,0,0,48,112,255,511] (.flo [0,1,2,3,4,5,6,7] (.one 8 (.flo [9] (.fin)))) (by kernel_rfl) (by kernel_rfl) (by intro _ _ d _ _ h; cases d <;> exact h) ?_
          (refine ord_flo (pick_cons rfl (pick_cons rfl (pick_cons rfl (pick_cons rfl (pick_cons rfl (pick_cons rfl (pick_cons rfl (pick_cons rfl pick_nil)))))))) ?_; (repeat (go_big_quiet_step (fail))); refine wpQuiet_nil ?_; show ordWalk _ _ _ _ _ _ _)
          refine ord_one (pick_cons rfl pick_nil) ?_; intro K_ hK_
          go_wp2_with (go_at_call 165; refine (rcmpD_lit _ _ _ _ _ _ _ _ _ HV).mono ?_; rintro e w1 ⟨rfl, x1⟩)
          (refine ord_flo (pick_cons rfl pick_nil) ?_; (repeat (go_big_quiet_step (fail))); refine wpQuiet_nil ?_; show ordWalk _ _ _ _ _ _ _)
          refine ord_fin ?_
          go_wp2
          go_ret
          exact ⟨(by rw [HS.out, if_neg HZ.out]; rfl), er.trans (X.trans x1)⟩
      · have HS : Hid (cmpR l m = 1) := Lib.hid (by rw [← hr.out.2]; exact cmpR_more (by rw [← E1.out]; exact hlt) (by rw [← E2.out]; omega))
        have h3 : n2 < n1 := by omega
        clear hr
        go_wp2
        go_ret
        exact ⟨(by rw [HS.out]; rfl), er⟩
    · have HS : Hid (cmpR l m = if i < m.length then -1 else 0) := Lib.hid (by rw [← hr.out.2]; exact cmpR_end (by rw [← E1.out]; omega))
      have HB : Hid (i ≤ m.length) := Lib.hid hr.out.1
      obtain rfl : i = n1 := by omega
      by_cases h2 : i < n2
      · have HT : Hid (cmpR l m = -1) := Lib.hid (by rw [HS.out, if_pos (by rw [← E2.out]; exact h2)])
        clear HS hr
        go_wp2
        go_ret
        exact ⟨(by rw [HT.out]; rfl), er⟩
      · have HT : Hid (cmpR l m = 0) := Lib.hid (by rw [HS.out, if_neg (by rw [← E2.out]; exact h2)])
        have h3 : ¬ n2 < i := by have := HB.out; rw [← E2.out] at this; omega
        clear HS hr
        go_wp2
        go_ret
        exact ⟨(by rw [HT.out]; rfl), er⟩
end Go.Proofs.YtdgbkpoickbidaaGreatDoor
namespace Go.Proofs.YtdgbkpoickbidaaGreatDoor
open Go.RowKit

theorem rowRCmp_lit {v : Int} (A1 A2 : Option Addr) (c1 c2 n1 n2 : Nat) (l m : List Dat) (w : World) (hv : Hid (cmpR l m = v)) (e1 : Hid (n1 = l.length)) (e2 : Hid (n2 = m.length)) (h1 : Hid (Rw w A1 c1 l)) (h2 : Hid (Rw w A2 c2 m)) :
    Calls Tryz.prog 53 #[.slice A1 n1 c1, .slice A2 n2 c2] w fun e w' => e = .returned (.int .i64 v) ∧ Ext w w' := hv.out ▸ rowRCmp_any A1 A2 c1 c2 n1 n2 l m w e1.out e2.out h1.out h2.out
end Go.Proofs.YtdgbkpoickbidaaGreatDoor
namespace Go.Proofs.YtdgbkpoickbidaaGreatDoor
open Go.RowKit

set_option maxRecDepth 100000 in
set_option maxHeartbeats 2000000 in
theorem rucmp_any (x y : Ud) (nx ny tx ty : Nat) (v : Int) (w : World) (hv : Hid (UdS.cmpC x y = v)) (hnx : Hid (nx = x.l.length)) (hny : Hid (ny = y.l.length)) (htx : Hid (tx = x.t.l.length)) (hty : Hid (ty = y.t.l.length)) (hx : Hid (UdR w x)) (hy : Hid (UdR w y)) (ux : Hid (U32 x.t.l)) (uy : Hid (U32 y.t.l)) (h9 : tx ≤ 1000000) (h8 : ty ≤ 1000000) :
    Calls Tryz.prog 194 #[.agg #[.slice x.A nx x.c, .int .u64 x.t.e, .slice x.t.A tx x.t.c, .int .i64 x.d], .agg #[.slice y.A ny y.c, .int .u64 y.t.e, .slice y.t.A ty y.t.c, .int .i64 y.d]] w fun e w' => e = .returned (.int .i64 v) ∧ Ext w w' := by
  obtain ⟨r, hr⟩ : ∃ r, cmpR x.l y.l = r := ⟨_, rfl⟩
  obtain ⟨t, ht⟩ : ∃ t, tcmp (x.t.e, x.t.l) (y.t.e, y.t.l) = t := ⟨_, rfl⟩
  have hvv : (if r = 0 then t else r) = v := by rw [← hv.out, ← hr, ← ht]; rfl
  have HR := Lib.hid hr
  have HT := Lib.hid ht
  have X1 : Hid (∀ W, Ext w W → Sl W 1 x.t.A tx x.t.c (wds x.t.l)) := Lib.hid (fun W q => by rw [htx.out]; exact hx.out.t.ext q)
  have Y1 : Hid (∀ W, Ext w W → Sl W 1 y.t.A ty y.t.c (wds y.t.l)) := Lib.hid (fun W q => by rw [hty.out]; exact hy.out.t.ext q)
  clear hr ht
  go_enter Tryz.func194, Tryz.ntmps194
  have x0 : Ext w ((w.alloc (Obj.cells #[.slice x.A nx x.c, .int .u64 x.t.e, .slice x.t.A tx x.t.c, .int .i64 x.d] 95)).alloc (Obj.cells #[.slice y.A ny y.c, .int .u64 y.t.e, .slice y.t.A ty y.t.c, .int .i64 y.d] 95)) := ((Ext.refl w).alloc _).alloc _
  have a0 : Hid (Bk ((w.alloc (Obj.cells #[.slice x.A nx x.c, .int .u64 x.t.e, .slice x.t.A tx x.t.c, .int .i64 x.d] 95)).alloc (Obj.cells #[.slice y.A ny y.c, .int .u64 y.t.e, .slice y.t.A ty y.t.c, .int .i64 y.d] 95)) w.heap.size 95 #[.slice x.A nx x.c, .int .u64 x.t.e, .slice x.t.A tx x.t.c, .int .i64 x.d]) := Lib.hid ((Bk.new _ _ _).alloc _)
  have b0 : Hid (Bk ((w.alloc (Obj.cells #[.slice x.A nx x.c, .int .u64 x.t.e, .slice x.t.A tx x.t.c, .int .i64 x.d] 95)).alloc (Obj.cells #[.slice y.A ny y.c, .int .u64 y.t.e, .slice y.t.A ty y.t.c, .int .i64 y.d] 95)) (w.heap.size + 1) 95 #[.slice y.A ny y.c, .int .u64 y.t.e, .slice y.t.A ty y.t.c, .int .i64 y.d]) := Lib.hid (Bk.at (by simp))
  have p0 := a0.out.cell 0
  have p1 := b0.out.cell 0
  have m1 : True := trivial
  by_cases hr0 : r = 0
  · subst hr0
    rw [if_pos rfl] at hvv
    have HV := Lib.hid hvv
    clear hvv
    go_wp2_with (first
      | (go_at_call 53; have mk := m1; clear m1 mk; go_loud (refine (rowRCmp_lit x.A y.A x.c y.c nx ny x.l y.l _ HR hnx hny (Lib.hid (hx.out.r.ext x0)) (Lib.hid (hy.out.r.ext x0))).mono ?_); rintro e w1 ⟨rfl, x1⟩; have r1 := (a0.out.ext x1).cell 1; have r2 := (a0.out.ext x1).cell 2; have s1 := (b0.out.ext x1).cell 1; have s2 := (b0.out.ext x1).cell 2; have X2 := Lib.hid (x0.trans x1); clear x1; have m2 : True := trivial)
      | (go_at_call 149; have mk := m2; clear m2 mk; go_loud (refine (rtc_at x.t.e y.t.e x.t.A y.t.A tx ty x.t.c y.t.c x.t.l y.t.l _ HT (Lib.hid (X1.out _ X2.out)) (Lib.hid (Y1.out _ X2.out)) ux uy h9 h8).mono ?_); rintro e w2 ⟨rfl, x2⟩)
      | fail)
    go_ret
    exact ⟨ret_int HV.out, X2.out.trans x2⟩
  · have zr : (r == 0) = false := by simpa using hr0
    rw [if_neg hr0] at hvv
    have HV := Lib.hid hvv
    clear hvv
    go_wp2_with (first
      | (go_at_call 53; have mk := m1; clear m1 mk; go_loud (refine (rowRCmp_lit x.A y.A x.c y.c nx ny x.l y.l _ HR hnx hny (Lib.hid (hx.out.r.ext x0)) (Lib.hid (hy.out.r.ext x0))).mono ?_); rintro e w1 ⟨rfl, x1⟩)
      | fail)
    go_ret
    exact ⟨ret_int HV.out, x0.trans x1⟩
/-- what add hands back -/
def AddU (w : World) (V : List UV) (e : Ending) (w' : World) : Prop := ∃ A m c M, e = .returned (.slice A m c) ∧ m = M.length ∧ Uin w' A c M ∧ M.map Ud.uv = V ∧ Ext w w'
theorem Uin.dropS {w : World} {A : Option Addr} {c n k : Nat} {L : List Ud} (h : Uin w A c L) (hn : n = L.length) (hk : k ≤ n) : Sl w 4 (if c = k then A else A.map (·.add (k * 4))) (n - k) (c - k) (udsC (L.drop k)) := by
  have := Sl.drop (k := k) h.sl (by omega)
  rwa [udsC_drop, ← hn] at this
theorem Uin.takeS {w : World} {A : Option Addr} {c n k : Nat} {L : List Ud} (h : Uin w A c L) (hn : n = L.length) (hk : k ≤ n) : Sl w 4 A k c (udsC (L.take k)) := by
  have := Sl.take (k := k) h.sl (by omega)
  rwa [udsC_take] at this
theorem addu_new {w w' : World} {L : List Ud} {A A6 : Option Addr} {c c6 n k m B : Nat} {x : Ud} (hn : n = L.length) (hk : k ≤ n) (h : Uin w A c L) (hx : UdR w x) (hs : UdS.Srt L) (h1 : ∀ j, k = j + 1 → kcmp (L.getD j Ud.zero).k x.k < 0) (h2 : ∀ y ∈ L.drop k, 0 < UdS.cmpC y x) (hm : m = n + 1)
    (o : Own w' B 95 4 A6 m c6 (udsC (L.take k) ++ udC x ++ udsC (L.drop k))) (X : Ext w w') : AddU w (UdS.addV (L.map Ud.uv) x.uv) (.returned (.slice A6 m c6)) w' := by
  have hl : (L.take k ++ x :: L.drop k).length = m := by rw [List.length_append, List.length_cons, List.length_take, List.length_drop]; omega
  refine ⟨A6, m, c6, L.take k ++ x :: L.drop k, rfl, hl.symm, ⟨?_, fun y hy => ?_⟩, UdS.add_at_new hs (by omega) rfl h1 (fun y hy => h2 y (List.mem_of_mem_head? hy)), X⟩
  · have e : udsC (L.take k ++ x :: L.drop k) = udsC (L.take k) ++ udC x ++ udsC (L.drop k) := by rw [udsC_append, List.append_assoc]; rfl
    rw [e, hl]
    exact o.sl
  · rcases List.mem_append.1 hy with hy | hy
    · exact (h.ls y (List.mem_of_mem_take hy)).ext X
    · rcases List.mem_cons.1 hy with rfl | hy
      · exact hx.ext X
      · exact (h.ls y (List.mem_of_mem_drop hy)).ext X
theorem addu_eq {w w3 : World} {L : List Ud} {A : Option Addr} {c c3 n j g B : Nat} {x y : Ud} {s : Int} (hn : n = L.length) (hj : j < n) (h : Uin w A c L) (hs : UdS.Srt L) (hy : L.getD j Ud.zero = y) (hv : UdS.cmpC y x = 0) (hsm : w64 (y.d + x.d) = s) (hg : w.heap.size ≤ g)
    (o : Own w3 B 95 4 (some ⟨g, 0, none⟩) n c3 (udsC L)) (X : Ext w w3) : AddU w (UdS.addV (L.map Ud.uv) x.uv) (.returned (.slice (some ⟨g, 0, none⟩) n c3)) (w3.setCell ⟨g, j * 4 + 3, none⟩ (.int .i64 s)) := by
  have XE : Ext w (w3.setCell ⟨g, j * 4 + 3, none⟩ (.int .i64 s)) := X.set (p := ⟨g, _, none⟩) hg _
  refine ⟨_, n, c3, L.set j ⟨y.A, y.c, y.l, y.t, s⟩, rfl, by rw [List.length_set]; exact hn, ⟨?_, fun z hz => ?_⟩, UdS.add_at_eq hs (by omega) hy hv hsm, XE⟩
  · have := (o.put (j * 4 + 3) (.int .i64 s)).sl
    rw [UdS.udsC_set3 L j y s (by omega) hy] at this
    rw [List.length_set, ← hn]
    exact this
  · rcases List.mem_or_eq_of_mem_set hz with hz | rfl
    · exact (h.ls z hz).ext XE
    · have := h.ls y (hy ▸ getU_mem (by omega))
      exact ⟨this.r.ext XE, this.t.ext XE⟩
set_option maxRecDepth 100000 in
set_option maxHeartbeats 16000000 in
theorem radd10_any {V : List UV} (A : Option Addr) (c n : Nat) (L : List Ud) (x : Ud) (nx tx : Nat) (w : World) (hV : Hid (UdS.addV (L.map Ud.uv) x.uv = V)) (hn : Hid (n = L.length)) (hnx : Hid (nx = x.l.length)) (htx : Hid (tx = x.t.l.length)) (h : Hid (Uin w A c L)) (hx : Hid (UdR w x)) (hs : Hid (UdS.Srt L)) (ux : Hid (U32 x.t.l)) (uL : Hid (∀ y ∈ L, U32 y.t.l ∧ y.t.l.length ≤ 1000000)) (h9 : n ≤ 1000000) (h8 : tx ≤ 1000000) :
    Calls Tryz.prog 118 #[.slice A n c, .agg #[.slice x.A nx x.c, .int .u64 x.t.e, .slice x.t.A tx x.t.c, .int .i64 x.d]] w (AddU w V) := by
  rw [← hV.out]
  have hcap : n ≤ c ∧ c ≤ 9223372036854775807 := by have := h.out.sl.cap; rwa [← hn.out] at this
  go_enter Tryz.func118, Tryz.ntmps118
  go_wp2
  obtain ⟨wb, hwb⟩ : ∃ wb, wb = w.alloc (.cells #[.slice x.A nx x.c, .int .u64 x.t.e, .slice x.t.A tx x.t.c, .int .i64 x.d] 95) := ⟨_, rfl⟩
  have XB : Hid (Ext w wb) := Lib.hid (by rw [hwb]; exact (Ext.refl _).alloc _)
  have BU : Hid (Bk wb w.heap.size 95 #[.slice x.A nx x.c, .int .u64 x.t.e, .slice x.t.A tx x.t.c, .int .i64 x.d]) := Lib.hid (by rw [hwb]; exact Bk.new _ _ _)
  rw [← hwb]
  clear hwb
  obtain ⟨gu, hgu⟩ : ∃ k, k = w.heap.size := ⟨_, rfl⟩
  rw [← hgu] at BU ⊢
  clear hgu
  have HXN : Hid (udC x = [.slice x.A nx x.c, .int .u64 x.t.e, .slice x.t.A tx x.t.c, .int .i64 x.d]) := Lib.hid (by rw [hnx.out, htx.out]; rfl)
  have HD0 : Hid (∀ y ∈ L.drop n, 0 < UdS.cmpC y x) := Lib.hid (fun y hy => by rw [List.drop_of_length_le (by rw [← hn.out]; exact Nat.le_refl _)] at hy; cases hy)
  go_loopg [5] n (fun z v wr => ∃ k : Nat, z = k ∧ k ≤ n ∧ v = .int .i64 k ∧ Hid (∀ y ∈ L.drop k, 0 < UdS.cmpC y x) ∧ Hid (Ext wb wr))
  case atStart => exact ⟨n, rfl, Nat.le_refl _, rfl, HD0, Lib.hid (Ext.refl _)⟩
  case round =>
    clear HD0
    obtain ⟨k, hzk, hk, rfl, HD, HE⟩ := hrel
    have X : Ext wr wr.drew := (Ext.refl wr).drew
    have q0 : ∀ z : Xt wr.drew, z.W.cell? ⟨gu, 0, none⟩ = some (.slice x.A nx x.c) := fun z => (BU.out.ext ((HE.out.trans X).trans z.x)).cell 0
    have q1 : ∀ z : Xt wr.drew, z.W.cell? ⟨gu, 1, none⟩ = some (.int .u64 x.t.e) := fun z => (BU.out.ext ((HE.out.trans X).trans z.x)).cell 1
    have q2 : ∀ z : Xt wr.drew, z.W.cell? ⟨gu, 2, none⟩ = some (.slice x.t.A tx x.t.c) := fun z => (BU.out.ext ((HE.out.trans X).trans z.x)).cell 2
    have q3 : ∀ z : Xt wr.drew, z.W.cell? ⟨gu, 3, none⟩ = some (.int .i64 x.d) := fun z => (BU.out.ext ((HE.out.trans X).trans z.x)).cell 3
    have HUX : Hid (∀ W, Ext wb W → UdR W x) := Lib.hid (fun W q => (hx.out.ext XB.out).ext q)
    cases k with
    | zero =>
      go_upto_region 2 with fail
      refine wp_region_ord [0,1,3,7,7,23,63,127,7,511,1023,2047] (.flo [0,1,2,3,4,5,6,7,8] (.one 9 (.flo [10,11] (.fin)))) (by kernel_rfl) (by kernel_rfl) (by intro _ _ d _ _ h; cases d <;> exact h) ?_
      (refine ord_flo (pick_cons rfl (pick_cons rfl (pick_cons rfl (pick_cons rfl (pick_cons rfl (pick_cons rfl (pick_cons rfl (pick_cons rfl (pick_cons rfl pick_nil))))))))) ?_; (repeat (go_big_quiet_step (fail))); refine wpQuiet_nil ?_; show ordWalk _ _ _ _ _ _ _)
      refine ord_one (pick_cons rfl pick_nil) ?_; intro K_ hK_
      go_wp2
      (refine ord_flo (pick_cons rfl (pick_cons rfl pick_nil)) ?_; (repeat (go_big_quiet_step (fail))); refine wpQuiet_nil ?_; show ordWalk _ _ _ _ _ _ _)
      refine ord_fin ?_
      have x3 : Ext wr.drew wr.drew := Ext.refl _
      obtain ⟨w3, hw3⟩ : ∃ W : World, W = wr.drew := ⟨_, rfl⟩
      rw [← hw3] at X x3 ⊢
      have x3 : Ext w3 w3 := Ext.refl _
      clear hw3
      have HE := Lib.hid (HE.out.trans (X.trans x3))
      clear q0 q1 q2 q3 X
      obtain ⟨wr, hwr⟩ : ∃ W : World, W = w3 := ⟨_, rfl⟩
      rw [← hwr] at HE ⊢
      clear hwr x3
      have X : Ext wr wr.drew := (Ext.refl wr).drew
      have q0 : ∀ z : Xt wr.drew, z.W.cell? ⟨gu, 0, none⟩ = some (.slice x.A nx x.c) := fun z => (BU.out.ext ((HE.out.trans X).trans z.x)).cell 0
      have q1 : ∀ z : Xt wr.drew, z.W.cell? ⟨gu, 1, none⟩ = some (.int .u64 x.t.e) := fun z => (BU.out.ext ((HE.out.trans X).trans z.x)).cell 1
      have q2 : ∀ z : Xt wr.drew, z.W.cell? ⟨gu, 2, none⟩ = some (.slice x.t.A tx x.t.c) := fun z => (BU.out.ext ((HE.out.trans X).trans z.x)).cell 2
      have q3 : ∀ z : Xt wr.drew, z.W.cell? ⟨gu, 3, none⟩ = some (.int .i64 x.d) := fun z => (BU.out.ext ((HE.out.trans X).trans z.x)).cell 3
      go_upto_region 4 with fail
      refine wp_region_ord [0,1,3,7,7,23,63,127,7,511,1023,2047] (.flo [0,1,2,3,4,5,6,7,8] (.one 9 (.flo [10,11] (.fin)))) (by kernel_rfl) (by kernel_rfl) (by intro _ _ d _ _ h; cases d <;> exact h) ?_
      (refine ord_flo (pick_cons rfl (pick_cons rfl (pick_cons rfl (pick_cons rfl (pick_cons rfl (pick_cons rfl (pick_cons rfl (pick_cons rfl (pick_cons rfl pick_nil))))))))) ?_; (repeat (go_big_quiet_step (fail))); refine wpQuiet_nil ?_; show ordWalk _ _ _ _ _ _ _)
      refine ord_one (pick_cons rfl pick_nil) ?_; intro K_ hK_
      go_wp2
      (refine ord_flo (pick_cons rfl (pick_cons rfl pick_nil)) ?_; (repeat (go_big_quiet_step (fail))); refine wpQuiet_nil ?_; show ordWalk _ _ _ _ _ _ _)
      refine ord_fin ?_
      have x3 : Ext wr.drew wr.drew := Ext.refl _
      obtain ⟨w3, hw3⟩ : ∃ W : World, W = wr.drew := ⟨_, rfl⟩
      rw [← hw3] at X x3 ⊢
      have x3 : Ext w3 w3 := Ext.refl _
      clear hw3
      have HE := Lib.hid (HE.out.trans (X.trans x3))
      clear q0 q1 q2 q3 X
      obtain ⟨wr, hwr⟩ : ∃ W : World, W = w3 := ⟨_, rfl⟩
      rw [← hwr] at HE ⊢
      clear hwr x3
      have ST : Hid (Sl wr 4 A (0) c (udsC (L.take (0)))) := Lib.hid ((h.out.ext (XB.out.trans HE.out)).takeS hn.out hk)
      have SD : Hid (Sl wr 4 (if c = 0 then A else A.map (·.add ((0) * 4))) (n - (0)) (c - (0)) (udsC (L.drop (0)))) := Lib.hid ((h.out.ext (XB.out.trans HE.out)).dropS hn.out hk)
      cases A with
      | none =>
        obtain rfl : c = 0 := h.out.sl.2.2.2.1 rfl
        have hn0 : n = 0 := by omega
        subst hn0
        have p1 : True := trivial
        go_wp2_with (first
          | (at_builtin; have mk := p1; clear p1 mk; go_loud (refine wpList_append_two _ elem_ud wr.heap.size _ _ rfl rfl none 0 0 [] rfl (Own.nil _ _ _ _) none 0 0 (udsC (L.take 0)) rfl ST.out (udsC_one _) (by omega) (by decide) (Nat.le_refl _) ?_); intro A4 c4 w4 o4 g4 h4; clear h4; have y4 : Ext wr w4 := Ext.grown (Ext.refl _) g4 (fun k e => nomatch e); have O4 : Hid (Own w4 wr.heap.size 95 4 A4 0 c4 (udsC (L.take 0))) := Lib.hid (by have := o4; rwa [Nat.zero_add, List.nil_append] at this); have e0 := (BU.out.ext (HE.out.trans y4)).cell 0; have e1 := (BU.out.ext (HE.out.trans y4)).cell 1; have e2 := (BU.out.ext (HE.out.trans y4)).cell 2; have e3 := (BU.out.ext (HE.out.trans y4)).cell 3; have Y4 := Lib.hid y4; clear o4 g4 y4; have p2 : True := trivial)
          | (at_builtin; have mk := p2; clear p2 mk; go_loud (refine wpList_append_two _ elem_ud wr.heap.size _ _ rfl rfl A4 0 c4 (udsC (L.take 0)) rfl (O4.out.alloc _) (some ⟨w4.heap.size, 0, none⟩) 1 1 [.slice x.A nx x.c, .int .u64 x.t.e, .slice x.t.A tx x.t.c, .int .i64 x.d] rfl (Sl.one w4 #[.slice x.A nx x.c, .int .u64 x.t.e, .slice x.t.A tx x.t.c, .int .i64 x.d] 95 4 rfl) (by intro u hu; simp at hu; rcases hu with rfl | rfl | rfl | rfl <;> rfl) (by omega) (by decide) (Nat.le_trans Y4.out.size ((Ext.refl w4).alloc _).size) ?_); intro A5 c5 w5 o5 g5 h5; clear h5; have Y5 : Hid (Ext wr w5) := Lib.hid (Ext.grown (Y4.out.alloc _) g5 (fun k e => (O4.out.lt k e).1)); have O5 := Lib.hid o5; clear o5 g5; have p3 : True := trivial)
          | (at_builtin; have mk := p3; clear p3 mk; go_loud (refine wpList_append_two _ elem_ud wr.heap.size _ _ rfl rfl A5 (0 + 1) c5 _ rfl O5.out none (0) (0) (udsC (L.drop 0)) rfl ((Sl.ext (by have := SD.out; simpa using this) Y5.out)) (udsC_one _) (by omega) (by decide) Y5.out.size ?_); intro A6 c6 w6 o6 g6 h6; clear h6; have Y6 : Hid (Ext wr w6) := Lib.hid (Ext.grown Y5.out g6 (fun k e => (O5.out.lt k e).1)); have O6 := Lib.hid o6; clear o6 g6)
          | fail)
        go_ret
        exact addu_new (k := 0) (m := 0 + 1 + (0)) hn.out (by omega) h.out hx.out hs.out (fun j e => by omega) HD.out (by omega) (by have := O6.out; rw [HXN.out]; exact this) ((XB.out.trans HE.out).trans Y6.out)
      | some a3 =>
        by_cases hcj : c = 0
        · subst hcj
          have hn0 : n = 0 := by omega
          subst hn0
          have p1 : True := trivial
          go_wp2_with (first
            | (at_builtin; have mk := p1; clear p1 mk; go_loud (refine wpList_append_two _ elem_ud wr.heap.size _ _ rfl rfl none 0 0 [] rfl (Own.nil _ _ _ _) (some a3) 0 0 (udsC (L.take 0)) rfl ST.out (udsC_one _) (by omega) (by decide) (Nat.le_refl _) ?_); intro A4 c4 w4 o4 g4 h4; clear h4; have y4 : Ext wr w4 := Ext.grown (Ext.refl _) g4 (fun k e => nomatch e); have O4 : Hid (Own w4 wr.heap.size 95 4 A4 0 c4 (udsC (L.take 0))) := Lib.hid (by have := o4; rwa [Nat.zero_add, List.nil_append] at this); have e0 := (BU.out.ext (HE.out.trans y4)).cell 0; have e1 := (BU.out.ext (HE.out.trans y4)).cell 1; have e2 := (BU.out.ext (HE.out.trans y4)).cell 2; have e3 := (BU.out.ext (HE.out.trans y4)).cell 3; have Y4 := Lib.hid y4; clear o4 g4 y4; have p2 : True := trivial)
            | (at_builtin; have mk := p2; clear p2 mk; go_loud (refine wpList_append_two _ elem_ud wr.heap.size _ _ rfl rfl A4 0 c4 (udsC (L.take 0)) rfl (O4.out.alloc _) (some ⟨w4.heap.size, 0, none⟩) 1 1 [.slice x.A nx x.c, .int .u64 x.t.e, .slice x.t.A tx x.t.c, .int .i64 x.d] rfl (Sl.one w4 #[.slice x.A nx x.c, .int .u64 x.t.e, .slice x.t.A tx x.t.c, .int .i64 x.d] 95 4 rfl) (by intro u hu; simp at hu; rcases hu with rfl | rfl | rfl | rfl <;> rfl) (by omega) (by decide) (Nat.le_trans Y4.out.size ((Ext.refl w4).alloc _).size) ?_); intro A5 c5 w5 o5 g5 h5; clear h5; have Y5 : Hid (Ext wr w5) := Lib.hid (Ext.grown (Y4.out.alloc _) g5 (fun k e => (O4.out.lt k e).1)); have O5 := Lib.hid o5; clear o5 g5; have p3 : True := trivial)
            | (at_builtin; have mk := p3; clear p3 mk; go_loud (refine wpList_append_two _ elem_ud wr.heap.size _ _ rfl rfl A5 (0 + 1) c5 _ rfl O5.out _ (0) (0) (udsC (L.drop 0)) rfl ((Sl.ext (by have := SD.out; simpa using this) Y5.out)) (udsC_one _) (by omega) (by decide) Y5.out.size ?_); intro A6 c6 w6 o6 g6 h6; clear h6; have Y6 : Hid (Ext wr w6) := Lib.hid (Ext.grown Y5.out g6 (fun k e => (O5.out.lt k e).1)); have O6 := Lib.hid o6; clear o6 g6)
            | fail)
          go_ret
          exact addu_new (k := 0) (m := 0 + 1 + (0)) hn.out (by omega) h.out hx.out hs.out (fun j e => by omega) HD.out (by omega) (by have := O6.out; rw [HXN.out]; exact this) ((XB.out.trans HE.out).trans Y6.out)
        · have p1 : True := trivial
          go_wp2_with (first
            | (at_builtin; have mk := p1; clear p1 mk; go_loud (refine wpList_append_two _ elem_ud wr.heap.size _ _ rfl rfl none 0 0 [] rfl (Own.nil _ _ _ _) (some a3) 0 c (udsC (L.take 0)) rfl ST.out (udsC_one _) (by omega) (by decide) (Nat.le_refl _) ?_); intro A4 c4 w4 o4 g4 h4; clear h4; have y4 : Ext wr w4 := Ext.grown (Ext.refl _) g4 (fun k e => nomatch e); have O4 : Hid (Own w4 wr.heap.size 95 4 A4 0 c4 (udsC (L.take 0))) := Lib.hid (by have := o4; rwa [Nat.zero_add, List.nil_append] at this); have e0 := (BU.out.ext (HE.out.trans y4)).cell 0; have e1 := (BU.out.ext (HE.out.trans y4)).cell 1; have e2 := (BU.out.ext (HE.out.trans y4)).cell 2; have e3 := (BU.out.ext (HE.out.trans y4)).cell 3; have Y4 := Lib.hid y4; clear o4 g4 y4; have p2 : True := trivial)
            | (at_builtin; have mk := p2; clear p2 mk; go_loud (refine wpList_append_two _ elem_ud wr.heap.size _ _ rfl rfl A4 0 c4 (udsC (L.take 0)) rfl (O4.out.alloc _) (some ⟨w4.heap.size, 0, none⟩) 1 1 [.slice x.A nx x.c, .int .u64 x.t.e, .slice x.t.A tx x.t.c, .int .i64 x.d] rfl (Sl.one w4 #[.slice x.A nx x.c, .int .u64 x.t.e, .slice x.t.A tx x.t.c, .int .i64 x.d] 95 4 rfl) (by intro u hu; simp at hu; rcases hu with rfl | rfl | rfl | rfl <;> rfl) (by omega) (by decide) (Nat.le_trans Y4.out.size ((Ext.refl w4).alloc _).size) ?_); intro A5 c5 w5 o5 g5 h5; clear h5; have Y5 : Hid (Ext wr w5) := Lib.hid (Ext.grown (Y4.out.alloc _) g5 (fun k e => (O4.out.lt k e).1)); have O5 := Lib.hid o5; clear o5 g5; have p3 : True := trivial)
            | (at_builtin; have mk := p3; clear p3 mk; go_loud (refine wpList_append_two _ elem_ud wr.heap.size _ _ rfl rfl A5 (0 + 1) c5 _ rfl O5.out _ (n) (c) (udsC (L.drop 0)) rfl ((Sl.ext (by have := SD.out; rw [if_neg hcj] at this; simpa [Addr.add] using this) Y5.out)) (udsC_one _) (by omega) (by decide) Y5.out.size ?_); intro A6 c6 w6 o6 g6 h6; clear h6; have Y6 : Hid (Ext wr w6) := Lib.hid (Ext.grown Y5.out g6 (fun k e => (O5.out.lt k e).1)); have O6 := Lib.hid o6; clear o6 g6)
            | fail)
          go_ret
          exact addu_new (k := 0) (m := 0 + 1 + (n)) hn.out (by omega) h.out hx.out hs.out (fun j e => by omega) HD.out (by omega) (by have := O6.out; rw [HXN.out]; exact this) ((XB.out.trans HE.out).trans Y6.out)
    | succ j =>
      have hjL : j < L.length := by rw [← hn.out]; omega
      have hcel : ∀ W, Ext wb W → ∃ ad, A = some ad ∧ W.cell? (ad.add (j * 4)) = some (.slice (L.getD j Ud.zero).A (L.getD j Ud.zero).l.length (L.getD j Ud.zero).c) ∧
          W.cell? ⟨(ad.add (j * 4)).block, (ad.add (j * 4)).off + 1, none⟩ = some (.int .u64 (L.getD j Ud.zero).t.e) ∧ W.cell? ⟨(ad.add (j * 4)).block, (ad.add (j * 4)).off + 2, none⟩ = some (.slice (L.getD j Ud.zero).t.A (L.getD j Ud.zero).t.l.length (L.getD j Ud.zero).t.c) ∧
          W.cell? ⟨(ad.add (j * 4)).block, (ad.add (j * 4)).off + 3, none⟩ = some (.int .i64 (L.getD j Ud.zero).d) := fun W q => ((h.out.ext XB.out).ext q).at hjL
      obtain ⟨ad, eA, _⟩ := hcel wb (Ext.refl _)
      have hUY : ∀ W, Ext wb W → UdR W (L.getD j Ud.zero) := fun W q => ((h.out.ls _ (getU_mem hjL)).ext XB.out).ext q
      have h32 := uL.out _ (getU_mem hjL)
      have hdrop : L.drop j = L.getD j Ud.zero :: L.drop (j + 1) := dropU hjL
      obtain ⟨y, hy⟩ : ∃ y, L.getD j Ud.zero = y := ⟨_, rfl⟩
      simp only [hy, eA, Option.some.injEq, exists_eq_left'] at hcel hUY h32 hdrop
      obtain ⟨ny, hny⟩ : ∃ ny, ny = y.l.length := ⟨_, rfl⟩
      obtain ⟨ty, hty⟩ : ∃ ty, ty = y.t.l.length := ⟨_, rfl⟩
      simp only [← hny, ← hty] at hcel
      have HNY := Lib.hid hny
      have HTY := Lib.hid hty
      have HY := Lib.hid hy
      have HUY := Lib.hid hUY
      have HU32 : Hid (U32 y.t.l) := Lib.hid h32.1
      have hty9 : ty ≤ 1000000 := by rw [hty]; exact h32.2
      have HDR := Lib.hid hdrop
      have HC0 := Lib.hid (fun W q => (hcel W q).1)
      have HC1 := Lib.hid (fun W q => (hcel W q).2.1)
      have HC2 := Lib.hid (fun W q => (hcel W q).2.2.1)
      have HC3 := Lib.hid (fun W q => (hcel W q).2.2.2)
      obtain ⟨v, hv⟩ : ∃ v, UdS.cmpC y x = v := ⟨_, rfl⟩
      have HV := Lib.hid hv
      subst eA
      clear hcel hUY h32 hy hny hty hv hdrop hjL
      have za : decide ((0 : Int) < (j : Int) + 1) = true := decide_eq_true (by omega)
      have s0 : ∀ z : Xt wr.drew, z.W.cell? (ad.add (j * 4)) = some (.slice y.A ny y.c) := fun z => HC0.out _ ((HE.out.trans X).trans z.x)
      have s1 : ∀ z : Xt wr.drew, z.W.cell? ⟨(ad.add (j * 4)).block, (ad.add (j * 4)).off + 1, none⟩ = some (.int .u64 y.t.e) := fun z => HC1.out _ ((HE.out.trans X).trans z.x)
      have s2 : ∀ z : Xt wr.drew, z.W.cell? ⟨(ad.add (j * 4)).block, (ad.add (j * 4)).off + 2, none⟩ = some (.slice y.t.A ty y.t.c) := fun z => HC2.out _ ((HE.out.trans X).trans z.x)
      have s3 : ∀ z : Xt wr.drew, z.W.cell? ⟨(ad.add (j * 4)).block, (ad.add (j * 4)).off + 3, none⟩ = some (.int .i64 y.d) := fun z => HC3.out _ ((HE.out.trans X).trans z.x)
      by_cases hp : 0 < v
      · have zv : decide (0 < v) = true := decide_eq_true hp
        have HP := Lib.hid hp
        clear hp
        go_upto_region 2 with fail
        refine wp_region_ord [0,1,3,7,7,23,63,127,7,511,1023,2047] (.flo [0,1,2,3,4,5,6,7,8] (.one 9 (.flo [10,11] (.fin)))) (by kernel_rfl) (by kernel_rfl) (by intro _ _ d _ _ h; cases d <;> exact h) ?_
        (refine ord_flo (pick_cons rfl (pick_cons rfl (pick_cons rfl (pick_cons rfl (pick_cons rfl (pick_cons rfl (pick_cons rfl (pick_cons rfl (pick_cons rfl pick_nil))))))))) ?_; (repeat (go_big_quiet_step (fail))); refine wpQuiet_nil ?_; show ordWalk _ _ _ _ _ _ _)
        refine ord_one (pick_cons rfl pick_nil) ?_; intro K_ hK_
        go_wp2_with (go_at_call 194; go_loud (refine (rucmp_any y x ny nx ty tx _ _ HV HNY hnx HTY htx (Lib.hid (HUY.out _ (HE.out.trans X))) (Lib.hid (HUX.out _ (HE.out.trans X))) HU32 ux hty9 h8).mono ?_); rintro e w3 ⟨rfl, x3⟩)
        (refine ord_flo (pick_cons rfl (pick_cons rfl pick_nil)) ?_; (repeat (go_big_quiet_step (fail))); refine wpQuiet_nil ?_; show ordWalk _ _ _ _ _ _ _)
        refine ord_fin ?_
        go_wp2
        go_roundg j
        case measure => omega
        case rel => exact ⟨j, rfl, by omega, by go_num, Lib.hid (fun z hz => by rw [HDR.out] at hz; rcases List.mem_cons.1 hz with rfl | hz; (rw [HV.out]; exact HP.out); exact HD.out z hz), Lib.hid (HE.out.trans (X.trans x3))⟩
      · have zv : decide (0 < v) = false := decide_eq_false hp
        have HNP := Lib.hid hp
        clear hp
        go_upto_region 2 with fail
        refine wp_region_ord [0,1,3,7,7,23,63,127,7,511,1023,2047] (.flo [0,1,2,3,4,5,6,7,8] (.one 9 (.flo [10,11] (.fin)))) (by kernel_rfl) (by kernel_rfl) (by intro _ _ d _ _ h; cases d <;> exact h) ?_
        (refine ord_flo (pick_cons rfl (pick_cons rfl (pick_cons rfl (pick_cons rfl (pick_cons rfl (pick_cons rfl (pick_cons rfl (pick_cons rfl (pick_cons rfl pick_nil))))))))) ?_; (repeat (go_big_quiet_step (fail))); refine wpQuiet_nil ?_; show ordWalk _ _ _ _ _ _ _)
        refine ord_one (pick_cons rfl pick_nil) ?_; intro K_ hK_
        go_wp2_with (go_at_call 194; go_loud (refine (rucmp_any y x ny nx ty tx _ _ HV HNY hnx HTY htx (Lib.hid (HUY.out _ (HE.out.trans X))) (Lib.hid (HUX.out _ (HE.out.trans X))) HU32 ux hty9 h8).mono ?_); rintro e w3 ⟨rfl, x3⟩)
        (refine ord_flo (pick_cons rfl (pick_cons rfl pick_nil)) ?_; (repeat (go_big_quiet_step (fail))); refine wpQuiet_nil ?_; show ordWalk _ _ _ _ _ _ _)
        refine ord_fin ?_
        clear s0 s1 s2 s3
        have HE := Lib.hid (HE.out.trans (X.trans x3))
        clear q0 q1 q2 q3 X
        obtain ⟨wr, hwr⟩ : ∃ W : World, W = w3 := ⟨_, rfl⟩
        rw [← hwr] at HE ⊢
        clear hwr x3
        have X : Ext wr wr.drew := (Ext.refl wr).drew
        have q0 : ∀ z : Xt wr.drew, z.W.cell? ⟨gu, 0, none⟩ = some (.slice x.A nx x.c) := fun z => (BU.out.ext ((HE.out.trans X).trans z.x)).cell 0
        have q1 : ∀ z : Xt wr.drew, z.W.cell? ⟨gu, 1, none⟩ = some (.int .u64 x.t.e) := fun z => (BU.out.ext ((HE.out.trans X).trans z.x)).cell 1
        have q2 : ∀ z : Xt wr.drew, z.W.cell? ⟨gu, 2, none⟩ = some (.slice x.t.A tx x.t.c) := fun z => (BU.out.ext ((HE.out.trans X).trans z.x)).cell 2
        have q3 : ∀ z : Xt wr.drew, z.W.cell? ⟨gu, 3, none⟩ = some (.int .i64 x.d) := fun z => (BU.out.ext ((HE.out.trans X).trans z.x)).cell 3
        have s0 : ∀ z : Xt wr.drew, z.W.cell? (ad.add (j * 4)) = some (.slice y.A ny y.c) := fun z => HC0.out _ ((HE.out.trans X).trans z.x)
        have s1 : ∀ z : Xt wr.drew, z.W.cell? ⟨(ad.add (j * 4)).block, (ad.add (j * 4)).off + 1, none⟩ = some (.int .u64 y.t.e) := fun z => HC1.out _ ((HE.out.trans X).trans z.x)
        have s2 : ∀ z : Xt wr.drew, z.W.cell? ⟨(ad.add (j * 4)).block, (ad.add (j * 4)).off + 2, none⟩ = some (.slice y.t.A ty y.t.c) := fun z => HC2.out _ ((HE.out.trans X).trans z.x)
        have s3 : ∀ z : Xt wr.drew, z.W.cell? ⟨(ad.add (j * 4)).block, (ad.add (j * 4)).off + 3, none⟩ = some (.int .i64 y.d) := fun z => HC3.out _ ((HE.out.trans X).trans z.x)
        by_cases hv0 : v = 0
        · have HV0 := Lib.hid hv0
          subst hv0
          go_upto_region 4 with fail
          refine wp_region_ord [0,1,3,7,7,23,63,127,7,511,1023,2047] (.flo [0,1,2,3,4,5,6,7,8] (.one 9 (.flo [10,11] (.fin)))) (by kernel_rfl) (by kernel_rfl) (by intro _ _ d _ _ h; cases d <;> exact h) ?_
          (refine ord_flo (pick_cons rfl (pick_cons rfl (pick_cons rfl (pick_cons rfl (pick_cons rfl (pick_cons rfl (pick_cons rfl (pick_cons rfl (pick_cons rfl pick_nil))))))))) ?_; (repeat (go_big_quiet_step (fail))); refine wpQuiet_nil ?_; show ordWalk _ _ _ _ _ _ _)
          refine ord_one (pick_cons rfl pick_nil) ?_; intro K_ hK_
          go_wp2_with (go_at_call 194; go_loud (refine (rucmp_any y x ny nx ty tx _ _ HV HNY hnx HTY htx (Lib.hid (HUY.out _ (HE.out.trans X))) (Lib.hid (HUX.out _ (HE.out.trans X))) HU32 ux hty9 h8).mono ?_); rintro e w3 ⟨rfl, x3⟩)
          (refine ord_flo (pick_cons rfl (pick_cons rfl pick_nil)) ?_; (repeat (go_big_quiet_step (fail))); refine wpQuiet_nil ?_; show ordWalk _ _ _ _ _ _ _)
          refine ord_fin ?_
          have HE := Lib.hid (HE.out.trans (X.trans x3))
          clear q0 q1 q2 q3 s0 s1 s2 s3 X
          obtain ⟨wr, hwr⟩ : ∃ W : World, W = w3 := ⟨_, rfl⟩
          rw [← hwr] at HE ⊢
          clear hwr x3
          have SL : Hid (Sl wr 4 (some ad) n c (udsC L)) := Lib.hid (by have := (h.out.ext (XB.out.trans HE.out)).sl; rwa [← hn.out] at this)
          obtain ⟨s, hsm⟩ : ∃ s, w64 (y.d + x.d) = s := ⟨_, rfl⟩
          have hsm2 : IntKind.i64.wrap (y.d + x.d) = s := hsm
          have HSM := Lib.hid hsm
          clear hsm
          go_upto_region 7 with (first
            | (at_builtin; go_loud (refine wpList_append_two _ elem_ud wr.heap.size _ _ rfl rfl none 0 0 [] rfl (Own.nil _ _ _ _) (some ad) n c (udsC L) rfl SL.out (udsC_one _) (by omega) (by decide) (Nat.le_refl _) ?_); intro A4 c4 w4 o4 g4 h4; clear h4; have y4 : Ext wr w4 := Ext.grown (Ext.refl _) g4 (fun k e => nomatch e); have o4 : Own w4 wr.heap.size 95 4 A4 n c4 (udsC L) := (by have := o4; rwa [Nat.zero_add, List.nil_append] at this); have hf := o4.form (show 0 < n by omega); obtain ⟨g4', eA4, _, hg4, _, hc4, hf4⟩ := hf; subst eA4; have O4 := Lib.hid o4; have Y4 := Lib.hid y4; have HG4 := Lib.hid hg4; have d3 := hc4 (j * 4 + 3) (.int .i64 y.d) (by rw [udsC_at L j 3 (by rw [← hn.out]; omega) (by omega), HY.out]; rfl); have f3 := hf4 (j * 4 + 3); clear o4 g4 hg4 hc4 hf4)
            | fail)
          have X : Ext w4 w4.drew := (Ext.refl w4).drew
          have e3 : ∀ z : Xt w4.drew, z.W.cell? ⟨g4', j * 4 + 3, none⟩ = some (.int .i64 y.d) := fun z => (X.trans z.x).cell d3
          have u3 : ∀ z : Xt w4.drew, z.W.cell? ⟨gu, 3, none⟩ = some (.int .i64 x.d) := fun z => (BU.out.ext (((HE.out.trans Y4.out).trans X).trans z.x)).cell 3
          have HRES := Lib.hid (addu_eq (B := wr.heap.size) (n := n) (x := x) hn.out (by omega) h.out hs.out HY.out HV.out HSM.out (Nat.le_trans (XB.out.trans HE.out).size HG4.out) (O4.out.ext X) (((XB.out.trans HE.out).trans Y4.out).trans X))
          refine wp_region_ord [0,0,2,7,15,31,0,64,255,511,1023,2047] (.flo [0,1,2,3,4,5,6,7,8,9,10] (.one 11 (.fin))) (by kernel_rfl) (by kernel_rfl) (by intro _ _ d _ _ h; cases d <;> exact h) ?_
          (refine ord_flo (pick_cons rfl (pick_cons rfl (pick_cons rfl (pick_cons rfl (pick_cons rfl (pick_cons rfl (pick_cons rfl (pick_cons rfl (pick_cons rfl (pick_cons rfl (pick_cons rfl pick_nil))))))))))) ?_; (repeat (go_big_quiet_step (fail))); refine wpQuiet_nil ?_; show ordWalk _ _ _ _ _ _ _)
          refine ord_one (pick_cons rfl pick_nil) ?_; intro K_ hK_
          go_wp2
          refine ord_fin ?_
          go_wp2
          go_ret
          exact HRES.out
        · have zv0 : (v == 0) = false := by simpa using hv0
          have HLT : Hid (kcmp y.k x.k < 0) := Lib.hid (by have a := HNP.out; have b := HV.out; show UdS.cmpC y x < 0; omega)
          clear hv0
          go_upto_region 4 with fail
          refine wp_region_ord [0,1,3,7,7,23,63,127,7,511,1023,2047] (.flo [0,1,2,3,4,5,6,7,8] (.one 9 (.flo [10,11] (.fin)))) (by kernel_rfl) (by kernel_rfl) (by intro _ _ d _ _ h; cases d <;> exact h) ?_
          (refine ord_flo (pick_cons rfl (pick_cons rfl (pick_cons rfl (pick_cons rfl (pick_cons rfl (pick_cons rfl (pick_cons rfl (pick_cons rfl (pick_cons rfl pick_nil))))))))) ?_; (repeat (go_big_quiet_step (fail))); refine wpQuiet_nil ?_; show ordWalk _ _ _ _ _ _ _)
          refine ord_one (pick_cons rfl pick_nil) ?_; intro K_ hK_
          go_wp2_with (go_at_call 194; go_loud (refine (rucmp_any y x ny nx ty tx _ _ HV HNY hnx HTY htx (Lib.hid (HUY.out _ (HE.out.trans X))) (Lib.hid (HUX.out _ (HE.out.trans X))) HU32 ux hty9 h8).mono ?_); rintro e w3 ⟨rfl, x3⟩)
          (refine ord_flo (pick_cons rfl (pick_cons rfl pick_nil)) ?_; (repeat (go_big_quiet_step (fail))); refine wpQuiet_nil ?_; show ordWalk _ _ _ _ _ _ _)
          refine ord_fin ?_
          clear s0 s1 s2 s3
          have HE := Lib.hid (HE.out.trans (X.trans x3))
          clear q0 q1 q2 q3 X
          obtain ⟨wr, hwr⟩ : ∃ W : World, W = w3 := ⟨_, rfl⟩
          rw [← hwr] at HE ⊢
          clear hwr x3
          have ST : Hid (Sl wr 4 (some ad) (j + 1) c (udsC (L.take (j + 1)))) := Lib.hid ((h.out.ext (XB.out.trans HE.out)).takeS hn.out hk)
          have SD : Hid (Sl wr 4 (if c = j + 1 then some ad else (some ad : Option Addr).map (·.add ((j + 1) * 4))) (n - (j + 1)) (c - (j + 1)) (udsC (L.drop (j + 1)))) := Lib.hid ((h.out.ext (XB.out.trans HE.out)).dropS hn.out hk)
          by_cases hcj : c = j + 1
          · obtain rfl : n = j + 1 := by omega
            subst hcj
            have p1 : True := trivial
            go_wp2_with (first
              | (at_builtin; have mk := p1; clear p1 mk; go_loud (refine wpList_append_two _ elem_ud wr.heap.size _ _ rfl rfl none 0 0 [] rfl (Own.nil _ _ _ _) (some ad) (j + 1) (j + 1) (udsC (L.take (j + 1))) rfl ST.out (udsC_one _) (by omega) (by decide) (Nat.le_refl _) ?_); intro A4 c4 w4 o4 g4 h4; clear h4; have y4 : Ext wr w4 := Ext.grown (Ext.refl _) g4 (fun k e => nomatch e); have O4 : Hid (Own w4 wr.heap.size 95 4 A4 (j + 1) c4 (udsC (L.take (j + 1)))) := Lib.hid (by have := o4; rwa [Nat.zero_add, List.nil_append] at this); have e0 := (BU.out.ext (HE.out.trans y4)).cell 0; have e1 := (BU.out.ext (HE.out.trans y4)).cell 1; have e2 := (BU.out.ext (HE.out.trans y4)).cell 2; have e3 := (BU.out.ext (HE.out.trans y4)).cell 3; have Y4 := Lib.hid y4; clear o4 g4 y4; have p2 : True := trivial)
              | (at_builtin; have mk := p2; clear p2 mk; go_loud (refine wpList_append_two _ elem_ud wr.heap.size _ _ rfl rfl A4 (j + 1) c4 (udsC (L.take (j + 1))) rfl (O4.out.alloc _) (some ⟨w4.heap.size, 0, none⟩) 1 1 [.slice x.A nx x.c, .int .u64 x.t.e, .slice x.t.A tx x.t.c, .int .i64 x.d] rfl (Sl.one w4 #[.slice x.A nx x.c, .int .u64 x.t.e, .slice x.t.A tx x.t.c, .int .i64 x.d] 95 4 rfl) (by intro u hu; simp at hu; rcases hu with rfl | rfl | rfl | rfl <;> rfl) (by omega) (by decide) (Nat.le_trans Y4.out.size ((Ext.refl w4).alloc _).size) ?_); intro A5 c5 w5 o5 g5 h5; clear h5; have Y5 : Hid (Ext wr w5) := Lib.hid (Ext.grown (Y4.out.alloc _) g5 (fun k e => (O4.out.lt k e).1)); have O5 := Lib.hid o5; clear o5 g5; have p3 : True := trivial)
              | (at_builtin; have mk := p3; clear p3 mk; go_loud (refine wpList_append_two _ elem_ud wr.heap.size _ _ rfl rfl A5 ((j + 1) + 1) c5 _ rfl O5.out _ (0) (0) (udsC (L.drop (j + 1))) rfl ((Sl.ext (by have := SD.out; rw [if_pos rfl, Nat.sub_self] at this; exact this) Y5.out)) (udsC_one _) (by omega) (by decide) Y5.out.size ?_); intro A6 c6 w6 o6 g6 h6; clear h6; have Y6 : Hid (Ext wr w6) := Lib.hid (Ext.grown Y5.out g6 (fun k e => (O5.out.lt k e).1)); have O6 := Lib.hid o6; clear o6 g6)
              | fail)
            go_ret
            exact addu_new (k := (j + 1)) (m := (j + 1) + 1 + (0)) hn.out (by omega) h.out hx.out hs.out (fun j' e => by obtain rfl : j = j' := (by omega); rw [HY.out]; exact HLT.out) HD.out (by omega) (by have := O6.out; rw [HXN.out]; exact this) ((XB.out.trans HE.out).trans Y6.out)
          · have p1 : True := trivial
            go_wp2_with (first
              | (at_builtin; have mk := p1; clear p1 mk; go_loud (refine wpList_append_two _ elem_ud wr.heap.size _ _ rfl rfl none 0 0 [] rfl (Own.nil _ _ _ _) (some ad) (j + 1) c (udsC (L.take (j + 1))) rfl ST.out (udsC_one _) (by omega) (by decide) (Nat.le_refl _) ?_); intro A4 c4 w4 o4 g4 h4; clear h4; have y4 : Ext wr w4 := Ext.grown (Ext.refl _) g4 (fun k e => nomatch e); have O4 : Hid (Own w4 wr.heap.size 95 4 A4 (j + 1) c4 (udsC (L.take (j + 1)))) := Lib.hid (by have := o4; rwa [Nat.zero_add, List.nil_append] at this); have e0 := (BU.out.ext (HE.out.trans y4)).cell 0; have e1 := (BU.out.ext (HE.out.trans y4)).cell 1; have e2 := (BU.out.ext (HE.out.trans y4)).cell 2; have e3 := (BU.out.ext (HE.out.trans y4)).cell 3; have Y4 := Lib.hid y4; clear o4 g4 y4; have p2 : True := trivial)
              | (at_builtin; have mk := p2; clear p2 mk; go_loud (refine wpList_append_two _ elem_ud wr.heap.size _ _ rfl rfl A4 (j + 1) c4 (udsC (L.take (j + 1))) rfl (O4.out.alloc _) (some ⟨w4.heap.size, 0, none⟩) 1 1 [.slice x.A nx x.c, .int .u64 x.t.e, .slice x.t.A tx x.t.c, .int .i64 x.d] rfl (Sl.one w4 #[.slice x.A nx x.c, .int .u64 x.t.e, .slice x.t.A tx x.t.c, .int .i64 x.d] 95 4 rfl) (by intro u hu; simp at hu; rcases hu with rfl | rfl | rfl | rfl <;> rfl) (by omega) (by decide) (Nat.le_trans Y4.out.size ((Ext.refl w4).alloc _).size) ?_); intro A5 c5 w5 o5 g5 h5; clear h5; have Y5 : Hid (Ext wr w5) := Lib.hid (Ext.grown (Y4.out.alloc _) g5 (fun k e => (O4.out.lt k e).1)); have O5 := Lib.hid o5; clear o5 g5; have p3 : True := trivial)
              | (at_builtin; have mk := p3; clear p3 mk; go_loud (refine wpList_append_two _ elem_ud wr.heap.size _ _ rfl rfl A5 ((j + 1) + 1) c5 _ rfl O5.out (some (ad.add ((j + 1) * 4))) (n - (j + 1)) (c - (j + 1)) (udsC (L.drop (j + 1))) rfl ((Sl.ext (by have := SD.out; rw [if_neg hcj] at this; exact this) Y5.out)) (udsC_one _) (by omega) (by decide) Y5.out.size ?_); intro A6 c6 w6 o6 g6 h6; clear h6; have Y6 : Hid (Ext wr w6) := Lib.hid (Ext.grown Y5.out g6 (fun k e => (O5.out.lt k e).1)); have O6 := Lib.hid o6; clear o6 g6)
              | fail)
            go_ret
            exact addu_new (k := (j + 1)) (m := (j + 1) + 1 + (n - (j + 1))) hn.out (by omega) h.out hx.out hs.out (fun j' e => by obtain rfl : j = j' := (by omega); rw [HY.out]; exact HLT.out) HD.out (by omega) (by have := O6.out; rw [HXN.out]; exact this) ((XB.out.trans HE.out).trans Y6.out)
end Go.Proofs.YtdgbkpoickbidaaGreatDoor
namespace Go.Proofs.YtdgbkpoickbidaaGreatDoor
open Go.RowKit

namespace UdS
theorem addV_key : ∀ (R : List V) (x y : V), y ∈ addV R x → y.1 = x.1 ∨ ∃ z ∈ R, z.1 = y.1
  | [], x, y, h => .inl (by rw [List.mem_singleton.1 h])
  | a :: R, x, y, h => by
    unfold addV at h
    split at h
    · rcases List.mem_cons.1 h with rfl | h
      · exact .inr ⟨_, List.mem_cons_self .., rfl⟩
      · rcases addV_key R x y h with q | ⟨z, hz, q⟩
        · exact .inl q
        · exact .inr ⟨z, List.mem_cons_of_mem _ hz, q⟩
    · split at h
      · rcases List.mem_cons.1 h with rfl | h
        · exact .inr ⟨_, List.mem_cons_self .., rfl⟩
        · exact .inr ⟨y, List.mem_cons_of_mem _ h, rfl⟩
      · rcases List.mem_cons.1 h with rfl | h
        · exact .inl rfl
        · exact .inr ⟨y, h, rfl⟩
theorem usumTo_key {L : List Ud} : ∀ (i : Nat) (y : V), y ∈ usumTo L i → ∃ x ∈ L, x.k = y.1
  | 0, y, h => by unfold usumTo at h; simp at h
  | i + 1, y, h => by
    by_cases hi : i < L.length
    · rw [usumTo_succ hi rfl] at h
      rcases addV_key _ _ _ h with q | ⟨z, hz, q⟩
      · exact ⟨_, getU_mem hi, q.symm⟩
      · obtain ⟨x, hx, e⟩ := usumTo_key i z hz
        exact ⟨x, hx, e.trans q⟩
    · have e : usumTo L (i + 1) = usumTo L i := by unfold usumTo; rw [List.take_of_length_le (by omega), List.take_of_length_le (by omega)]
      rw [e] at h
      exact usumTo_key i y h
end UdS
/-- what is not none, so far -/
def LeftU (w1 wr : World) (M : List Ud) (j : Nat) (A : Option Addr) (m c : Nat) : Prop := m = ((M.take j).filter UdS.nzC).length ∧ Own wr w1.heap.size 95 4 A m c (udsC ((M.take j).filter UdS.nzC)) ∧ Ext w1 wr
theorem LeftU.skip {w1 wr : World} {M : List Ud} {j m c : Nat} {A : Option Addr} {x : Ud} (h : LeftU w1 wr M j A m c) (hj : j < M.length) (hx : M.getD j Ud.zero = x) (hz : (x.d == 0) = true) : LeftU w1 wr M (j + 1) A m c := by
  have e : (M.take (j + 1)).filter UdS.nzC = (M.take j).filter UdS.nzC := by
    rw [takeU hj, hx, List.filter_append]
    have : [x].filter UdS.nzC = [] := by simp [UdS.nzC, hz]
    rw [this, List.append_nil]
  unfold LeftU
  rw [e]
  exact h
theorem LeftU.more {w1 wr w2 : World} {M : List Ud} {j m c m2 c2 : Nat} {A A2 : Option Addr} {x : Ud} (h : LeftU w1 wr M j A m c) (hj : j < M.length) (hx : M.getD j Ud.zero = x) (hz : (x.d == 0) = false) (hm : m2 = m + 1)
    (o : Own w2 w1.heap.size 95 4 A2 m2 c2 (udsC ((M.take j).filter UdS.nzC) ++ udC x)) (X : Ext w1 w2) : LeftU w1 w2 M (j + 1) A2 m2 c2 := by
  have e : (M.take (j + 1)).filter UdS.nzC = (M.take j).filter UdS.nzC ++ [x] := by
    rw [takeU hj, hx, List.filter_append]
    have : [x].filter UdS.nzC = [x] := by simp [UdS.nzC, hz]
    rw [this]
  unfold LeftU
  rw [e, List.length_append, udsC_append]
  exact ⟨by rw [hm, h.1]; rfl, by rw [show udsC [x] = udC x by simp [udsC]]; exact o, X⟩
def RefAtU (w wr : World) (L : List Ud) (i : Nat) (A : Option Addr) (m c : Nat) : Prop := ∃ M, m = M.length ∧ Uin wr A c M ∧ M.map Ud.uv = UdS.usumTo L i ∧ Ext w wr
set_option maxRecDepth 100000 in
set_option maxHeartbeats 8000000 in
theorem refSum10_any {V : List UV} (A : Option Addr) (c n : Nat) (L : List Ud) (w : World) (hV : Hid (UdS.sumV (L.map Ud.uv) = V)) (hn : Hid (n = L.length)) (h : Hid (Uin w A c L)) (h9 : n ≤ 900000) (hin : Hid (∀ x ∈ L, UdS.InN x.uv)) (uL : Hid (∀ y ∈ L, U32 y.t.l ∧ y.t.l.length ≤ 1000000)) :
    Calls Tryz.prog 24 #[.slice A n c] w (AddU w V) := by
  have HR0 : Hid (RefAtU w w L 0 none 0 0) := Lib.hid ⟨[], rfl, Uin.nil _, rfl, Ext.refl w⟩
  go_enter Tryz.func24, Tryz.ntmps24
  go_wp2
  go_loopg [3, 4] n (fun z u v wr => ∃ (i m c3 : Nat) (A3 : Option Addr), z = n - i ∧ i ≤ n ∧ m ≤ i ∧ u = .slice A3 m c3 ∧ v = .int .i64 i ∧ Hid (RefAtU w wr L i A3 m c3))
  case atStart => exact ⟨0, 0, 0, none, rfl, Nat.zero_le _, Nat.le_refl _, rfl, rfl, HR0⟩
  case round =>
    clear HR0
    obtain ⟨i, m, c3, A3, rfl, hi, hmi, rfl, rfl, HP⟩ := hrel
    by_cases hlt : i < n
    · obtain ⟨M, hM, hC, hv, X⟩ := HP.out
      have hil : i < L.length := by rw [← hn.out]; exact hlt
      obtain ⟨ad, rfl, p0, p1, p2, p3⟩ := (h.out.ext X).at hil
      have hm := getU_mem hil
      obtain ⟨x, hx⟩ : ∃ x, L.getD i Ud.zero = x := ⟨_, rfl⟩
      rw [hx] at p0 p1 p2 p3 hm
      obtain ⟨nx, hnx⟩ : ∃ nx, nx = x.l.length := ⟨_, rfl⟩
      obtain ⟨tx, htx⟩ : ∃ tx, tx = x.t.l.length := ⟨_, rfl⟩
      rw [← hnx] at p0
      rw [← htx] at p2
      have HUX := Lib.hid ((h.out.ls x hm).ext X)
      have HMC := Lib.hid hC
      have HNX := Lib.hid hnx
      have HTX := Lib.hid htx
      have HMM := Lib.hid hM
      have UX : Hid (U32 x.t.l) := Lib.hid (uL.out x hm).1
      have htx9 : tx ≤ 1000000 := by rw [htx]; exact (uL.out x hm).2
      have HS : Hid (UdS.Srt M) := Lib.hid (UdS.Srt.of (by rw [hv]; exact UdS.usumTo_srt hin.out i))
      have HML : Hid (∀ y ∈ M, U32 y.t.l ∧ y.t.l.length ≤ 1000000) := Lib.hid (fun y hy => by
        have : y.uv ∈ UdS.usumTo L i := by rw [← hv]; exact List.mem_map.2 ⟨y, hy, rfl⟩
        obtain ⟨z, hz, e⟩ := UdS.usumTo_key i _ this
        have e2 : z.t.l = y.t.l := congrArg (fun q : UK => q.2.2) e
        rw [← e2]
        exact uL.out z hz)
      have HV : Hid (UdS.addV (M.map Ud.uv) x.uv = UdS.usumTo L (i + 1)) := Lib.hid (by rw [UdS.usumTo_succ hil hx, hv])
      have HXX := Lib.hid X
      clear hM hC hv X hil hm hx hnx htx HP
      go_wp2_with (go_at_call 118; go_loud (refine (radd10_any A3 c3 m M x nx tx _ HV HMM HNX HTX HMC HUX HS UX HML (by omega) htx9).mono ?_); rintro e w1 ⟨A4, m4, c4, M4, rfl, hm4, hC4, hv4, X4⟩; have hml : m4 ≤ i + 1 := (by rw [hm4]; have q := congrArg List.length hv4; rw [List.length_map] at q; rw [q]; exact UdS.usumTo_len L (i + 1)); have HP4 : Hid (RefAtU w w1 L (i + 1) A4 m4 c4) := Lib.hid ⟨M4, hm4, hC4, hv4, HXX.out.trans X4⟩; clear hm4 hC4 hv4 X4)
      go_roundg (n - (i + 1))
      case measure => omega
      case rel => exact ⟨i + 1, m4, c4, A4, rfl, by omega, hml, rfl, by go_num, HP4⟩
    · obtain rfl : i = n := by omega
      obtain ⟨M, hM, hC, hv, X⟩ := HP.out
      obtain ⟨w1, hw1⟩ : ∃ w1 : World, w1 = wr := ⟨_, rfl⟩
      rw [← hw1] at hC X ⊢
      clear hw1
      have HM := Lib.hid hM
      have HC := Lib.hid hC
      have HMV := Lib.hid hv
      have HX := Lib.hid X
      have HL0 : Hid (LeftU w1 w1 M 0 none 0 0) := Lib.hid ⟨rfl, Own.nil _ _ _ _, Ext.refl _⟩
      clear hM hC hv X HP
      go_wp2
      go_loopg [5, 6] m (fun z u v wr => ∃ (j n5 c5 : Nat) (A5 : Option Addr), z = m - j ∧ j ≤ m ∧ n5 ≤ j ∧ u = .slice A5 n5 c5 ∧ v = .int .i64 j ∧ Hid (LeftU w1 wr M j A5 n5 c5))
      case atStart => exact ⟨0, 0, 0, none, rfl, Nat.zero_le _, Nat.le_refl _, rfl, rfl, HL0⟩
      case round =>
        clear HL0
        obtain ⟨j, n5, c5, A5, rfl, hj, hnj, rfl, rfl, HQ⟩ := hrel
        by_cases hlt : j < m
        · have hjl : j < M.length := by rw [← HM.out]; exact hlt
          obtain ⟨ad, rfl, p0, p1, p2, p3⟩ := (HC.out.ext HQ.out.2.2).at hjl
          obtain ⟨x, hx⟩ : ∃ x, M.getD j Ud.zero = x := ⟨_, rfl⟩
          rw [hx] at p0 p1 p2 p3
          obtain ⟨nx, hnx⟩ : ∃ nx, nx = x.l.length := ⟨_, rfl⟩
          obtain ⟨tx, htx⟩ : ∃ tx, tx = x.t.l.length := ⟨_, rfl⟩
          rw [← hnx] at p0
          rw [← htx] at p2
          have HJ := Lib.hid hjl
          have HXJ := Lib.hid hx
          have HXN : Hid (udC x = [.slice x.A nx x.c, .int .u64 x.t.e, .slice x.t.A tx x.t.c, .int .i64 x.d]) := Lib.hid (by rw [hnx, htx]; rfl)
          clear hjl hx hnx htx
          cases hz : (x.d == 0)
          · have HZ := Lib.hid hz
            go_wp2_with (at_builtin; go_loud (refine wpList_append_two _ elem_ud w1.heap.size _ _ rfl rfl A5 n5 c5 (udsC ((M.take j).filter UdS.nzC)) rfl (Own.alloc HQ.out.2.1 _) (some ⟨wr.heap.size, 0, none⟩) 1 1 [.slice x.A nx x.c, .int .u64 x.t.e, .slice x.t.A tx x.t.c, .int .i64 x.d] rfl (Sl.one wr #[.slice x.A nx x.c, .int .u64 x.t.e, .slice x.t.A tx x.t.c, .int .i64 x.d] 95 4 rfl) (by intro u hu; simp at hu; rcases hu with rfl | rfl | rfl | rfl <;> rfl) (by omega) (by decide) (by have := Ext.size HQ.out.2.2; simp; omega) ?_); intro A6 c6 w6 o6 g6 h6; clear h6; have HQ6 := Lib.hid (LeftU.more (m2 := n5 + 1) HQ.out HJ.out HXJ.out HZ.out rfl (by rw [HXN.out]; exact o6) (Ext.grown (Ext.alloc HQ.out.2.2 _) g6 (fun k e => (HQ.out.2.1.lt k e).1))); clear o6 g6)
            go_roundg (m - (j + 1))
            case measure => omega
            case rel => exact ⟨j + 1, n5 + 1, c6, A6, rfl, by omega, by omega, rfl, by go_num, HQ6⟩
          · have HQ6 := Lib.hid (HQ.out.skip HJ.out HXJ.out hz)
            go_wp2
            go_roundg (m - (j + 1))
            case measure => omega
            case rel => exact ⟨j + 1, n5, c5, A5, rfl, by omega, by omega, rfl, by go_num, HQ6⟩
        · obtain rfl : j = m := by omega
          have HE : Hid (AddU w V (.returned (.slice A5 n5 c5)) wr) := Lib.hid (by
            obtain ⟨q1, q2, q3⟩ := HQ.out
            rw [List.take_of_length_le (by rw [← HM.out]; exact Nat.le_refl _)] at q1 q2
            refine ⟨A5, n5, c5, M.filter UdS.nzC, rfl, q1, ⟨by rw [← q1]; exact q2.sl, fun x hx => (HC.out.ls x (List.mem_filter.1 hx).1).ext q3⟩, ?_, HX.out.trans q3⟩
            have e : M.map Ud.uv = UdS.sumAll (L.map Ud.uv) := by rw [HMV.out]; unfold UdS.usumTo UdS.sumAll; rw [List.take_of_length_le (by rw [← hn.out]; exact Nat.le_refl _)]
            rw [← hV.out]
            unfold UdS.sumV
            rw [← e, List.filter_map]
            rfl)
          go_wp2
          go_ret
          exact HE.out
end Go.Proofs.YtdgbkpoickbidaaGreatDoor
namespace Go.Proofs.YtdgbkpoickbidaaGreatDoor
open Go.RowKit

/-- append with room: it stays -/
theorem elem_datum : Elem Tryz.prog 78 204 4 32 (.agg #[.int .u8 0, .bool false, .int .i64 0, .string ⟨#[]⟩]) := ⟨by kernel_rfl, by kernel_rfl, rfl, by decide⟩
def madeData (n : Nat) : Obj := .cells (madeCells #[.int .u8 0, .bool false, .int .i64 0, .string ⟨#[]⟩] (n * 4)) 204
theorem make_data (n : Nat) (hn : n ≤ 1000000000) (W : World) : (Instr.makeSlice 78 (.int .i64 0) (.int .i64 (n : Int))).run Tryz.prog W = .ok (.slice (some ⟨W.heap.size, 0, none⟩) 0 n) (W.alloc (madeData n)) := by
  obtain ⟨i, hi, hz, hs, hb⟩ := info_parts elem_datum.info
  have := run_make (P := Tryz.prog) (w := W) 78 204 i _ elem_datum.under hi hz .i64 .i64 0 (n : Int) (Int.le_refl _) (by omega) (by rw [hb]; omega) (by omega)
  rw [hs] at this
  exact this
theorem own_data (W : World) (n : Nat) (hn : n ≤ 1000000000) : Own (W.alloc (madeData n)) W.heap.size 204 4 (some ⟨W.heap.size, 0, none⟩) 0 n [] :=
  ⟨rfl, .inr ⟨W.heap.size, _, rfl, Nat.le_refl _, heap_alloc_new W _, Nat.zero_le _, by unfold maxLen; omega, Nat.le_of_eq (size_madeCells _ _).symm, rfl⟩⟩
def mark_ (k : Int) : Dat := ⟨k, false, 0, ⟨#[]⟩⟩
def marks : List Dat := [mark_ 91, mark_ 92]
/-- what LentRow hands back -/
def LentR (w : World) (n : Nat) (l : List Dat) (e : Ending) (w' : World) : Prop := ∃ g, e = .returned (.slice (some ⟨g, 0, none⟩) n (n + 2)) ∧ w.heap.size ≤ g ∧ Own w' w.heap.size 204 4 (some ⟨g, 0, none⟩) (n + 2) (n + 2) (rowC (l ++ marks)) ∧ Ext w w'
set_option maxRecDepth 100000 in
set_option maxHeartbeats 2000000 in
theorem lentRow_any (A : Option Addr) (c n : Nat) (l : List Dat) (w : World) (hn : n = l.length) (h : Rw w A c l) (hs : n ≤ 1000000) :
    Calls Tryz.prog 99 #[.slice A n c] w (LentR w n l) := by
  have HN := Lib.hid hn
  have H := Lib.hid h
  have hmk := make_data (n + 2) (by omega)
  have hmk2 : ∀ W : World, (Instr.makeSlice 78 (.int .i64 0) (.int .i64 ((n : Int) + 2))).run Tryz.prog W = .ok (.slice (some ⟨W.heap.size, 0, none⟩) 0 (n + 2)) (W.alloc (madeData (n + 2))) := hmk
  have m1 : True := trivial
  clear hn h hmk
  go_enter Tryz.func99, Tryz.ntmps99
  go_wp2_with (first
    | (at_builtin; have mk := m1; clear m1; refine wpList_append_fit _ elem_datum w.heap.size _ _ rfl rfl w.heap.size 0 (n + 2) [] rfl (own_data w (n + 2) (by omega)) (by omega) A n c (rowC l) rfl (by rw [HN.out]; exact Sl.ext H.out ((Ext.refl w).alloc _)) (rowC_one l) (by omega) ?_; intro w1 o1 g1; have O1 := Lib.hid o1; have X1 : Ext w w1 := ((Ext.refl w).alloc _).grown g1 (fun k e => by cases e; exact Nat.le_refl _); have m2 : True := trivial; clear o1 g1)
    | (at_builtin; have mk := m2; refine wpList_append_fit _ elem_datum w.heap.size _ _ rfl rfl w.heap.size n (n + 2) (rowC l) rfl (by have := O1.out.alloc (.cells (#[.int .u8 91, .bool false, .int .i64 0, .string ⟨#[]⟩, .int .u8 92, .bool false, .int .i64 0, .string ⟨#[]⟩] : Array Value) 204); rwa [List.nil_append, Nat.zero_add] at this) (by omega) (some ⟨w1.heap.size, 0, none⟩) 2 2 (rowC marks) rfl (sl_alloc w1 _ _ _ 4 2 rfl rfl (by decide)) (rowC_one marks) (by omega) ?_; intro w2 o2 g2; have O2 := Lib.hid o2; have X2 : Ext w w2 := (X1.alloc _).grown g2 (fun k e => by cases e; exact Nat.le_refl _); clear o2 g2))
  go_ret
  exact ⟨w.heap.size, by simp, Nat.le_refl _, by have := O2.out; rwa [← rowC_append] at this, X2⟩
theorem lentRow_lit (A : Option Addr) (c n : Nat) (l : List Dat) (w : World) (hn : Hid (n = l.length)) (h : Hid (Rw w A c l)) (hs : n ≤ 1000000) :
    Calls Tryz.prog 99 #[.slice A n c] w (LentR w n l) := lentRow_any A c n l w hn.out h.out hs
end Go.Proofs.YtdgbkpoickbidaaGreatDoor
namespace Go.Proofs.YtdgbkpoickbidaaGreatDoor
open Go.RowKit

theorem addV_split : ∀ (P R : List V) (x : V), (∀ y ∈ P, cmpV y x < 0) → addV (P ++ R) x = P ++ addV R x
  | [], _, _, _ => rfl
  | y :: P, R, x, h => by
    show (if cmpV y x < 0 then y :: addV (P ++ R) x else _) = _
    rw [if_pos (h y (List.mem_cons_self ..)), addV_split P R x (fun z hz => h z (List.mem_cons_of_mem _ hz))]
    rfl
theorem addV_eq (y x : V) (R : List V) (h : cmpV y x = 0) : addV (y :: R) x = (y.1, w64 (y.2 + x.2)) :: R := by
  show (if cmpV y x < 0 then _ else if cmpV y x = 0 then _ else _) = _
  rw [if_neg (by omega), if_pos h]
theorem addV_gt (y x : V) (R : List V) (h : 0 < cmpV y x) : addV (y :: R) x = x :: y :: R := by
  show (if cmpV y x < 0 then _ else if cmpV y x = 0 then _ else _) = _
  rw [if_neg (by omega), if_neg (by omega)]
/-- what Add hands back -/
def AddR (w : World) (R : List V) (e : Ending) (w' : World) : Prop := ∃ A m c M, e = .returned (.slice A m c) ∧ m = M.length ∧ Ctin w' A c M ∧ M.map valC = R ∧ Ext w w'
theorem ctsC_take : ∀ (L : List Ct) (k : Nat), (ctsC L).take (k * 2) = ctsC (L.take k)
  | [], k => by simp [ctsC]
  | d :: l, 0 => rfl
  | d :: l, k + 1 => by
    unfold ctsC
    rw [List.flatMap_cons, List.take_succ_cons, List.flatMap_cons, List.take_append, show (ctC d).length = 2 from rfl, List.take_of_length_le (show (ctC d).length ≤ (k + 1) * 2 by rw [show (ctC d).length = 2 from rfl]; omega), show (k + 1) * 2 - 2 = k * 2 by omega]
    exact congrArg _ (ctsC_take l k)
theorem ctsC_drop : ∀ (L : List Ct) (k : Nat), (ctsC L).drop (k * 2) = ctsC (L.drop k)
  | [], k => by simp [ctsC]
  | d :: l, 0 => rfl
  | d :: l, k + 1 => by
    unfold ctsC
    rw [List.flatMap_cons, List.drop_succ_cons, List.drop_append, show (ctC d).length = 2 from rfl, List.drop_eq_nil_of_le (show (ctC d).length ≤ (k + 1) * 2 by rw [show (ctC d).length = 2 from rfl]; omega), show (k + 1) * 2 - 2 = k * 2 by omega, List.nil_append]
    exact ctsC_drop l k
theorem Ctin.takeS {w : World} {A : Option Addr} {c n i : Nat} {L : List Ct} (h : Ctin w A c L) (hn : n = L.length) (hi : i ≤ n) : Sl w 2 A i c (ctsC (L.take i)) := by
  have := Sl.take (k := i) h.sl (by omega)
  rwa [ctsC_take] at this
theorem Ctin.dropS {w : World} {A : Option Addr} {c n i : Nat} {L : List Ct} (h : Ctin w A c L) (hn : n = L.length) (hi : i ≤ n) : Sl w 2 (if c = i then A else A.map (·.add (i * 2))) (n - i) (c - i) (ctsC (L.drop i)) := by
  have := Sl.drop (k := i) h.sl (by omega)
  rwa [ctsC_drop, ← hn] at this
theorem Ctin.drop0 {n i : Nat} {L : List Ct} (w : World) (A : Option Addr) (hn : n = L.length) (hi : n ≤ i) : Sl w 2 A 0 0 (ctsC (L.drop i)) := by
  rw [List.drop_of_length_le (by omega)]
  exact ⟨rfl, Nat.le_refl _, Nat.zero_le _, fun _ => rfl, fun h => absurd h (Nat.lt_irrefl _)⟩
theorem Ctin.drop3 {n i c : Nat} {L : List Ct} (w : World) (a : Addr) (hn : n = L.length) (hi : n ≤ i) (hc : c ≤ 9223372036854775807) : Sl w 2 (some a) 0 c (ctsC (L.drop i)) := by
  rw [List.drop_of_length_le (by omega)]
  exact ⟨rfl, Nat.zero_le _, by unfold maxLen; omega, (fun h => nomatch h), fun h => absurd h (Nat.lt_irrefl _)⟩
theorem Ctin.drop2 {w : World} {ad : Addr} {c n i : Nat} {L : List Ct} (h : Ctin w (some ad) c L) (hn : n = L.length) (hi : i ≤ n) (hc : ¬ c = i) : Sl w 2 (some (ad.add (i * 2))) (n - i) (c - i) (ctsC (L.drop i)) := by
  have := h.dropS hn hi
  rwa [if_neg hc] at this
theorem addR_mk {w w' : World} {B m c : Nat} {A : Option Addr} {xs : List Value} {M : List Ct} {R : List V} (o : Own w' B 154 2 A m c xs) (hx : xs = ctsC M) (hm : m = M.length) (hr : ∀ x ∈ M, Rw w' x.A x.c x.l) (hv : M.map valC = R) (X : Ext w w') : AddR w R (.returned (.slice A m c)) w' :=
  ⟨A, m, c, M, rfl, hm, ⟨by subst hx hm; exact o.sl, hr⟩, hv, X⟩
/-- behind what is ahead of the row -/
theorem add_new {w w' : World} {i n : Nat} {L : List Ct} {rA : Option Addr} {rc : Nat} {rl : List Dat} {k : Int} {A : Option Addr} {c : Nat} (h : Ctin w A c L) (hr : Rw w rA rc rl) (X : Ext w w') (hlt : ∀ y ∈ L.take i, cmpR y.l rl < 0) (hgt : ∀ y R, L.drop i = y :: R → 0 < cmpR y.l rl) {B m c5 : Nat} {A5 : Option Addr}
    (hn : n = L.length) (hi : i ≤ n) (hm : m = n + 1) (o : Own w' B 154 2 A5 m c5 (ctsC (L.take i) ++ [.slice rA rl.length rc, .int .i64 k] ++ ctsC (L.drop i))) : AddR w (addV (L.map valC) (rl, k)) (.returned (.slice A5 m c5)) w' := by
  refine addR_mk (M := L.take i ++ ⟨rA, rc, rl, k⟩ :: L.drop i) o ?_ ?_ (fun x hx => ?_) ?_ X
  · rw [ctsC_append, List.append_assoc]
    rfl
  · rw [List.length_append, List.length_cons, List.length_take, List.length_drop]
    omega
  · rcases List.mem_append.1 hx with hx | hx
    · exact (h.rows x (List.mem_of_mem_take hx)).ext X
    · rcases List.mem_cons.1 hx with rfl | hx
      · exact hr.ext X
      · exact (h.rows x (List.mem_of_mem_drop hx)).ext X
  · have e : L.map valC = (L.take i).map valC ++ (L.drop i).map valC := by rw [← List.map_append, List.take_append_drop]
    rw [e, addV_split _ _ _ (fun y hy => by obtain ⟨x, hx, rfl⟩ := List.mem_map.1 hy; exact hlt x hx), List.map_append, List.map_cons]
    congr 1
    cases hd : L.drop i with
    | nil => rfl
    | cons y R =>
      rw [List.map_cons, addV_gt _ _ _ (show 0 < cmpV (valC y) (rl, k) from hgt y R hd)]
      rfl
theorem add_old {w w' : World} {i n : Nat} {L : List Ct} {x : Ct} {rl : List Dat} {k s : Int} {A : Option Addr} {c : Nat} (h : Ctin w A c L) (X : Ext w w') (hlt : ∀ y ∈ L.take i, cmpR y.l rl < 0) (hx : L.getD i Ct.zero = x) (hc : cmpR x.l rl = 0) (hs : w64 (x.k + k) = s) {B m c5 : Nat} {A5 : Option Addr}
    (hn : n = L.length) (hi : i < n) (hm : m = n) (o : Own w' B 154 2 A5 m c5 (ctsC (L.take i) ++ [.slice x.A x.l.length x.c, .int .i64 s] ++ ctsC (L.drop (i + 1)))) : AddR w (addV (L.map valC) (rl, k)) (.returned (.slice A5 m c5)) w' := by
  have hm' : x ∈ L := hx ▸ getD_mem (by omega)
  have hd : L.drop i = x :: L.drop (i + 1) := by
    rw [List.drop_eq_getElem_cons (by omega)]
    congr 1
    rw [← hx, List.getD_eq_getElem?_getD, List.getElem?_eq_getElem (by omega)]
    rfl
  refine addR_mk (M := L.take i ++ ⟨x.A, x.c, x.l, s⟩ :: L.drop (i + 1)) o ?_ ?_ (fun y hy => ?_) ?_ X
  · rw [ctsC_append, List.append_assoc]
    rfl
  · rw [List.length_append, List.length_cons, List.length_take, List.length_drop]
    omega
  · rcases List.mem_append.1 hy with hy | hy
    · exact (h.rows y (List.mem_of_mem_take hy)).ext X
    · rcases List.mem_cons.1 hy with rfl | hy
      · exact (h.rows x hm').ext X
      · exact (h.rows y (List.mem_of_mem_drop hy)).ext X
  · have e : L.map valC = (L.take i).map valC ++ (L.drop i).map valC := by rw [← List.map_append, List.take_append_drop]
    rw [e, addV_split _ _ _ (fun y hy => by obtain ⟨x, hx, rfl⟩ := List.mem_map.1 hy; exact hlt x hx), List.map_append, List.map_cons, hd, List.map_cons, addV_eq _ _ _ (show cmpV (valC x) (rl, k) = 0 from hc), ← hs]
    rfl
set_option maxRecDepth 100000 in
set_option maxHeartbeats 8000000 in
theorem add_any (A rA : Option Addr) (c rc n rn : Nat) (L : List Ct) (rl : List Dat) (k : Int) (w : World) (hn : n = L.length) (hrn : rn = rl.length) (h : Ctin w A c L) (hr : Rw w rA rc rl) (hs : n ≤ 100000000) :
    Calls Tryz.prog 195 #[.slice A n c, .slice rA rn rc, .int .i64 k] w (AddR w (addV (L.map valC) (rl, k))) := by
  have hcn := h.sl.cap
  rw [← hn] at hcn
  have HN := Lib.hid hn
  have HRN := Lib.hid hrn
  have H := Lib.hid h
  have HR := Lib.hid hr
  clear hn hrn h hr
  go_enter Tryz.func195, Tryz.ntmps195
  go_wp2
  go_loopw [7] (fun v wr => ∃ i : Nat, i ≤ n ∧ v = .int .i64 i ∧ Hid (∀ y ∈ L.take i, cmpR y.l rl < 0) ∧ Ext w wr) (fun v _ => n - (intOf v).toNat)
  case atStart => exact ⟨0, Nat.zero_le _, rfl, Lib.hid (fun y hy => by simp at hy), Ext.refl _⟩
  case round =>
    obtain ⟨i, hi, rfl, HLT, er⟩ := hrel
    by_cases hlt : i < n
    · have hil : i < L.length := by rw [← HN.out]; exact hlt
      have hcells := (H.out.ext er).at hil
      have hm := getD_mem hil
      obtain ⟨x, hx⟩ : ∃ x, L.getD i Ct.zero = x := ⟨_, rfl⟩
      rw [hx] at hcells hm
      obtain ⟨ad, eA, p0, p1⟩ := hcells
      subst eA
      obtain ⟨nx, hnx⟩ : ∃ nx, nx = x.l.length := ⟨_, rfl⟩
      rw [← hnx] at p0
      have HNX := Lib.hid hnx
      have HX := Lib.hid hx
      have HIL := Lib.hid hil
      have HRX := Lib.hid ((H.out.rows x hm).ext er)
      have HRR := Lib.hid (HR.out.ext er)
      obtain ⟨v, hv⟩ : ∃ v, cmpR x.l rl = v := ⟨_, rfl⟩
      have HV := Lib.hid hv
      have HD : Hid (L.drop i = x :: L.drop (i + 1)) := Lib.hid (by
        rw [List.drop_eq_getElem_cons hil]
        congr 1
        rw [← hx, List.getD_eq_getElem?_getD, List.getElem?_eq_getElem hil]
        rfl)
      clear hil hm hx hnx hv
      have m1 : True := trivial
      by_cases hv0 : v < 0
      · have zv : decide (v < 0) = true := by simpa using hv0
        go_wp2_with (go_at_call 53; refine (rowRCmp_lit x.A rA x.c rc nx rn x.l rl _ HV HNX HRN HRX HRR).mono ?_; rintro e w1 ⟨rfl, x1⟩)
        go_roundw
        case rel => exact ⟨i + 1, by omega, by go_num, Lib.hid (by rw [take_snocC HIL.out, HX.out]; exact fun y hy => by rcases List.mem_append.1 hy with q | q; exact HLT.out y q; rw [List.mem_singleton.1 q, HV.out]; exact hv0), er.trans x1⟩
        case measure => simp [intOf]; omega
      · have zv : decide (v < 0) = false := by simpa using hv0
        have hwr := er.size
        by_cases hv1 : v = 0
        · obtain ⟨s, hs⟩ : ∃ s, w64 (x.k + k) = s := ⟨_, rfl⟩
          have hs2 : IntKind.i64.wrap (x.k + k) = s := hs
          have HS := Lib.hid hs
          subst hv1
          clear hs
          go_upto_region 7 with (first
            | (go_at_call 53; have mk := m1; clear m1 mk; refine (rowRCmp_lit x.A rA x.c rc nx rn x.l rl _ HV HNX HRN (Lib.hid (HRX.out.ext (Ext.refl _))) (Lib.hid (HRR.out.ext (Ext.refl _)))).mono ?_; rintro e w1 ⟨rfl, x1⟩; have X1 := er.trans x1; have m2 : True := trivial)
            | (at_builtin; have mk := m2; clear m2 mk; go_loud (refine wpList_append_two _ elem_ct w1.heap.size _ _ rfl rfl none 0 0 [] rfl (Own.nil _ _ _ _) (some ad) i c (ctsC (L.take i)) rfl ((H.out.takeS HN.out hi).ext X1) (ctsC_one _) (by omega) (by decide) (Nat.le_refl _) ?_); intro A3 c3 w3 o3 g3 h3; clear h3; have y3 : Ext w1 w3 := Ext.grown (Ext.refl _) g3 (fun k e => nomatch e); have X3 := Ext.trans X1 y3; have O3 : Hid (Own w3 w1.heap.size 154 2 A3 i c3 (ctsC (L.take i))) := Lib.hid (by have := o3; rwa [Nat.zero_add, List.nil_append] at this); clear o3 g3; have q0 := Ext.cell (x1.trans y3) p0; have q1 := Ext.cell (x1.trans y3) p1; have m3 : True := trivial)
            | (go_at_call 53; have mk := m3; clear m3 mk; refine (rowRCmp_lit x.A rA x.c rc nx rn x.l rl _ HV HNX HRN (Lib.hid (HRX.out.ext (x1.trans y3))) (Lib.hid (HRR.out.ext (x1.trans y3)))).mono ?_; rintro e w4 ⟨rfl, x4⟩; have X4 := X3.trans x4; have O4 := Lib.hid (O3.out.ext x4); have m4 : True := trivial))
          have p0' := Ext.cell (x1.trans (y3.trans x4)) p0
          have p1' := Ext.cell (x1.trans (y3.trans x4)) p1
          have XE : Ext w4 w4.drew := (Ext.refl w4).drew
          have P0 : ∀ z : Xt w4.drew, z.W.cell? (ad.add (i * 2)) = some (.slice x.A nx x.c) := fun z => (XE.trans z.x).cell p0'
          have P1 : ∀ z : Xt w4.drew, z.W.cell? ⟨(ad.add (i * 2)).block, (ad.add (i * 2)).off + 1, none⟩ = some (.int .i64 x.k) := fun z => (XE.trans z.x).cell p1'
          clear p0 p1 p0' p1'
          refine wp_region_ord [0,0,0,6,14,30,0,0,192,448,960,0,4032,8190,16382,32767,65535] (.pur [0] (.flo [1,2,3,4,5,6,7,8,9,10,11,12,13] (.one 14 (.one 15 (.flo [16] (.fin)))))) (by kernel_rfl) (by kernel_rfl) (by intro _ _ d _ _ h; cases d <;> exact h) ?_
          (refine ord_pur (pick_cons rfl pick_nil) ?_; (repeat (go_big_quiet_step (fail))); refine wpQuiet_nil ?_; show ordWalk _ _ _ _ _ _ _)
          (refine ord_flo (pick_cons rfl (pick_cons rfl (pick_cons rfl (pick_cons rfl (pick_cons rfl (pick_cons rfl (pick_cons rfl (pick_cons rfl (pick_cons rfl (pick_cons rfl (pick_cons rfl (pick_cons rfl (pick_cons rfl pick_nil))))))))))))) ?_; (repeat (go_big_quiet_step (fail))); refine wpQuiet_nil ?_; show ordWalk _ _ _ _ _ _ _)
          refine ord_one (pick_cons rfl pick_nil) ?_; intro K_ hK_
          go_wp2
          refine ord_one (pick_cons rfl pick_nil) ?_; intro K_ hK_
          go_wp2_with (at_builtin; go_loud (refine wpList_append_two _ elem_ct w1.heap.size _ _ rfl rfl A3 i c3 (ctsC (L.take i)) rfl (O4.out.drew.alloc _) (some ⟨w4.heap.size, 0, none⟩) 1 1 [.slice x.A nx x.c, .int .i64 s] rfl (sl_ct _ _ _ _) (by intro u hu; simp at hu; rcases hu with rfl | rfl <;> rfl) (by omega) (by decide) (by have := y3.size; have := x4.size; simp; omega) ?_); intro A5 c5 w5 o5 g5 h5; clear h5; have X5 : Ext w w5 := Ext.grown (X4.drew.alloc _) g5 (fun k e => Nat.le_trans X1.size (O4.out.lt k e).1); have y5 : Ext w1 w5 := Ext.grown ((y3.trans x4).drew.alloc _) g5 (fun k e => (O4.out.lt k e).1); have O5 := Lib.hid o5; clear o5 g5)
          go_simp
          (refine ord_flo (pick_cons rfl pick_nil) ?_; (repeat (go_big_quiet_step (fail))); refine wpQuiet_nil ?_; show ordWalk _ _ _ _ _ _ _)
          refine ord_fin ?_
          by_cases hci : c = i + 1
          · subst hci
            have m5 : True := trivial
            go_wp2_with (at_builtin; have mk := m5; clear m5 mk; go_loud (refine wpList_append_two _ elem_ct w1.heap.size _ _ rfl rfl A5 (i + 1) c5 _ rfl O5.out _ _ _ _ rfl (Sl.ext (Ctin.drop0 w _ HN.out (show n ≤ i + 1 by omega)) X5) (ctsC_one _) (by omega) (by decide) y5.size ?_); intro A6 c6 w6 o6 g6 h6; clear h6; have X6 : Ext w w6 := Ext.grown X5 g6 (fun k e => Nat.le_trans X1.size (O5.out.lt k e).1); have HE : Hid (AddR w (addV (L.map valC) (rl, k)) (.returned (.slice A6 (i + 1) c6)) w6) := Lib.hid (add_old H.out X6 HLT.out HX.out HV.out HS.out HN.out hlt (by omega) (by have := o6; rwa [HNX.out] at this)); clear o6 g6)
            go_ret
            exact HE.out
          · have m5 : True := trivial
            go_wp2_with (at_builtin; have mk := m5; clear m5 mk; go_loud (refine wpList_append_two _ elem_ct w1.heap.size _ _ rfl rfl A5 (i + 1) c5 _ rfl O5.out _ _ _ _ rfl (Sl.ext (H.out.drop2 HN.out hlt hci) X5) (ctsC_one _) (by omega) (by decide) y5.size ?_); intro A6 c6 w6 o6 g6 h6; clear h6; have X6 : Ext w w6 := Ext.grown X5 g6 (fun k e => Nat.le_trans X1.size (O5.out.lt k e).1); have HE : Hid (AddR w (addV (L.map valC) (rl, k)) (.returned (.slice A6 (i + 1 + (n - (i + 1))) c6)) w6) := Lib.hid (add_old H.out X6 HLT.out HX.out HV.out HS.out HN.out hlt (by omega) (by have := o6; rwa [HNX.out] at this)); clear o6 g6)
            go_ret
            exact HE.out
        · have hg : Hid (∀ y R, L.drop i = y :: R → 0 < cmpR y.l rl) := Lib.hid (fun y R e => by rw [HD.out] at e; injection e with e1 e2; rw [← e1, HV.out]; omega)
          have zv1 : (v == 0) = false := by simpa using hv1
          by_cases hci : c = i
          · exfalso; omega
          · go_wp2_with (first
              | (go_at_call 53; have mk := m1; clear m1 mk; refine (rowRCmp_lit x.A rA x.c rc nx rn x.l rl _ HV HNX HRN (Lib.hid (HRX.out.ext (Ext.refl _))) (Lib.hid (HRR.out.ext (Ext.refl _)))).mono ?_; rintro e w1 ⟨rfl, x1⟩; have X1 := er.trans x1; have m2 : True := trivial)
              | (at_builtin; have mk := m2; clear m2 mk; go_loud (refine wpList_append_two _ elem_ct w1.heap.size _ _ rfl rfl none 0 0 [] rfl (Own.nil _ _ _ _) (some ad) i c (ctsC (L.take i)) rfl ((H.out.takeS HN.out hi).ext X1) (ctsC_one _) (by omega) (by decide) (Nat.le_refl _) ?_); intro A3 c3 w3 o3 g3 h3; clear h3; have y3 : Ext w1 w3 := Ext.grown (Ext.refl _) g3 (fun k e => nomatch e); have X3 := Ext.trans X1 y3; have O3 : Hid (Own w3 w1.heap.size 154 2 A3 i c3 (ctsC (L.take i))) := Lib.hid (by have := o3; rwa [Nat.zero_add, List.nil_append] at this); clear o3 g3; have q0 := Ext.cell (x1.trans y3) p0; have q1 := Ext.cell (x1.trans y3) p1; have m3 : True := trivial)
              | (go_at_call 53; have mk := m3; clear m3 mk; refine (rowRCmp_lit x.A rA x.c rc nx rn x.l rl _ HV HNX HRN (Lib.hid (HRX.out.ext (x1.trans y3))) (Lib.hid (HRR.out.ext (x1.trans y3)))).mono ?_; rintro e w4 ⟨rfl, x4⟩; have X4 := X3.trans x4; have O4 := Lib.hid (O3.out.ext x4); have m4 : True := trivial)
              | (at_builtin; have mk := m4; clear m4 mk; go_loud (refine wpList_append_two _ elem_ct w1.heap.size _ _ rfl rfl A3 i c3 (ctsC (L.take i)) rfl (O4.out.alloc _) (some ⟨w4.heap.size, 0, none⟩) 1 1 [.slice rA rn rc, .int .i64 k] rfl (sl_ct _ _ _ _) (by intro u hu; simp at hu; rcases hu with rfl | rfl <;> rfl) (by omega) (by decide) (by have := Ext.size (y3.trans x4); simp; omega) ?_); intro A5 c5 w5 o5 g5 h5; clear h5; have X5 : Ext w w5 := Ext.grown (Ext.alloc X4 _) g5 (fun k e => Nat.le_trans (Ext.size X1) (O4.out.lt k e).1); have y5 : Ext w1 w5 := Ext.grown (Ext.alloc (y3.trans x4) _) g5 (fun k e => (O4.out.lt k e).1); have O5 := Lib.hid o5; clear o5 g5; have m5 : True := trivial)
              | (at_builtin; have mk := m5; clear m5 mk; go_loud (refine wpList_append_two _ elem_ct w1.heap.size _ _ rfl rfl A5 (i + 1) c5 _ rfl O5.out _ _ _ _ rfl (Sl.ext (H.out.drop2 HN.out hi hci) X5) (ctsC_one _) (by omega) (by decide) y5.size ?_); intro A6 c6 w6 o6 g6 h6; clear h6; have X6 : Ext w w6 := Ext.grown X5 g6 (fun k e => Nat.le_trans X1.size (O5.out.lt k e).1); have HE : Hid (AddR w (addV (L.map valC) (rl, k)) (.returned (.slice A6 (i + 1 + (n - i)) c6)) w6) := Lib.hid (add_new H.out HR.out X6 HLT.out hg.out HN.out hi (by omega) (by have := o6; rwa [HRN.out] at this)); clear o6 g6))
            go_ret
            exact HE.out
    · obtain rfl : i = n := by omega
      have hg : Hid (∀ y R, L.drop i = y :: R → 0 < cmpR y.l rl) := Lib.hid (fun y R e => by rw [List.drop_of_length_le (by rw [← HN.out]; exact Nat.le_refl _)] at e; exact nomatch e)
      have hwr := er.size
      have X1 : Ext w wr := er
      obtain ⟨w1, hw1⟩ : ∃ w1 : World, w1 = wr := ⟨_, rfl⟩
      rw [← hw1] at X1 ⊢
      clear hw1
      have m2 : True := trivial
      have m4 : True := trivial
      cases A with
      | none =>
        obtain rfl : c = 0 := H.out.sl.2.2.2.1 rfl
        obtain rfl : i = 0 := by omega
        go_wp2_with (first
          | (at_builtin; have mk := m2; clear m2 mk; go_loud (refine wpList_append_two _ elem_ct w1.heap.size _ _ rfl rfl none 0 0 [] rfl (Own.nil _ _ _ _) none 0 0 (ctsC (L.take 0)) rfl ((H.out.takeS HN.out hi).ext X1) (ctsC_one _) (by omega) (by decide) (Nat.le_refl _) ?_); intro A3 c3 w3 o3 g3 h3; clear h3; have y3 : Ext w1 w3 := Ext.grown (Ext.refl _) g3 (fun k e => nomatch e); have X3 := Ext.trans X1 y3; have O3 : Hid (Own w3 w1.heap.size 154 2 A3 0 c3 (ctsC (L.take 0))) := Lib.hid (by have := o3; rwa [Nat.zero_add, List.nil_append] at this); clear o3 g3; have O4 := O3; have m3 : True := trivial)
          | (at_builtin; have mk := m3; clear m3 mk; go_loud (refine wpList_append_two _ elem_ct w1.heap.size _ _ rfl rfl A3 0 c3 (ctsC (L.take 0)) rfl (O4.out.alloc _) (some ⟨w3.heap.size, 0, none⟩) 1 1 [.slice rA rn rc, .int .i64 k] rfl (sl_ct _ _ _ _) (by intro u hu; simp at hu; rcases hu with rfl | rfl <;> rfl) (by omega) (by decide) (by have := Ext.size y3; simp; omega) ?_); intro A5 c5 w5 o5 g5 h5; clear h5; have X5 : Ext w w5 := Ext.grown (Ext.alloc X3 _) g5 (fun k e => Nat.le_trans (Ext.size X1) (O4.out.lt k e).1); have y5 : Ext w1 w5 := Ext.grown (Ext.alloc y3 _) g5 (fun k e => (O4.out.lt k e).1); have O5 := Lib.hid o5; clear o5 g5; have m5 : True := trivial)
          | (at_builtin; have mk := m5; clear m5 mk; go_loud (refine wpList_append_two _ elem_ct w1.heap.size _ _ rfl rfl A5 1 c5 _ rfl O5.out _ _ _ _ rfl (Sl.ext (Ctin.drop0 w _ HN.out (Nat.le_refl 0)) X5) (ctsC_one _) (by omega) (by decide) y5.size ?_); intro A6 c6 w6 o6 g6 h6; clear h6; have X6 : Ext w w6 := Ext.grown X5 g6 (fun k e => Nat.le_trans X1.size (O5.out.lt k e).1); have HE : Hid (AddR w (addV (L.map valC) (rl, k)) (.returned (.slice A6 1 c6)) w6) := Lib.hid (add_new H.out HR.out X6 HLT.out hg.out HN.out (Nat.le_refl _) (by omega) (by have := o6; rwa [HRN.out] at this)); clear o6 g6))
        go_ret
        exact HE.out
      | some ad =>
        by_cases hci : i = c
        · subst hci
          go_wp2_with (first
            | (at_builtin; have mk := m2; clear m2 mk; go_loud (refine wpList_append_two _ elem_ct w1.heap.size _ _ rfl rfl none 0 0 [] rfl (Own.nil _ _ _ _) (some ad) i i (ctsC (L.take i)) rfl ((H.out.takeS HN.out hi).ext X1) (ctsC_one _) (by omega) (by decide) (Nat.le_refl _) ?_); intro A3 c3 w3 o3 g3 h3; clear h3; have y3 : Ext w1 w3 := Ext.grown (Ext.refl _) g3 (fun k e => nomatch e); have X3 := Ext.trans X1 y3; have O3 : Hid (Own w3 w1.heap.size 154 2 A3 i c3 (ctsC (L.take i))) := Lib.hid (by have := o3; rwa [Nat.zero_add, List.nil_append] at this); clear o3 g3; have O4 := O3; have m3 : True := trivial)
            | (at_builtin; have mk := m3; clear m3 mk; go_loud (refine wpList_append_two _ elem_ct w1.heap.size _ _ rfl rfl A3 i c3 (ctsC (L.take i)) rfl (O4.out.alloc _) (some ⟨w3.heap.size, 0, none⟩) 1 1 [.slice rA rn rc, .int .i64 k] rfl (sl_ct _ _ _ _) (by intro u hu; simp at hu; rcases hu with rfl | rfl <;> rfl) (by omega) (by decide) (by have := Ext.size y3; simp; omega) ?_); intro A5 c5 w5 o5 g5 h5; clear h5; have X5 : Ext w w5 := Ext.grown (Ext.alloc X3 _) g5 (fun k e => Nat.le_trans (Ext.size X1) (O4.out.lt k e).1); have y5 : Ext w1 w5 := Ext.grown (Ext.alloc y3 _) g5 (fun k e => (O4.out.lt k e).1); have O5 := Lib.hid o5; clear o5 g5; have m5 : True := trivial)
            | (at_builtin; have mk := m5; clear m5 mk; go_loud (refine wpList_append_two _ elem_ct w1.heap.size _ _ rfl rfl A5 (i + 1) c5 _ rfl O5.out _ _ _ _ rfl (Sl.ext (Ctin.drop0 w _ HN.out (Nat.le_refl _)) X5) (ctsC_one _) (by omega) (by decide) y5.size ?_); intro A6 c6 w6 o6 g6 h6; clear h6; have X6 : Ext w w6 := Ext.grown X5 g6 (fun k e => Nat.le_trans X1.size (O5.out.lt k e).1); have HE : Hid (AddR w (addV (L.map valC) (rl, k)) (.returned (.slice A6 (i + 1) c6)) w6) := Lib.hid (add_new H.out HR.out X6 HLT.out hg.out HN.out (Nat.le_refl _) (by omega) (by have := o6; rwa [HRN.out] at this)); clear o6 g6))
          go_ret
          exact HE.out
        · have hci2 : ¬ c = i := fun q => hci q.symm
          go_wp2_with (first
            | (at_builtin; have mk := m2; clear m2 mk; go_loud (refine wpList_append_two _ elem_ct w1.heap.size _ _ rfl rfl none 0 0 [] rfl (Own.nil _ _ _ _) (some ad) i c (ctsC (L.take i)) rfl ((H.out.takeS HN.out hi).ext X1) (ctsC_one _) (by omega) (by decide) (Nat.le_refl _) ?_); intro A3 c3 w3 o3 g3 h3; clear h3; have y3 : Ext w1 w3 := Ext.grown (Ext.refl _) g3 (fun k e => nomatch e); have X3 := Ext.trans X1 y3; have O3 : Hid (Own w3 w1.heap.size 154 2 A3 i c3 (ctsC (L.take i))) := Lib.hid (by have := o3; rwa [Nat.zero_add, List.nil_append] at this); clear o3 g3; have O4 := O3; have m3 : True := trivial)
            | (at_builtin; have mk := m3; clear m3 mk; go_loud (refine wpList_append_two _ elem_ct w1.heap.size _ _ rfl rfl A3 i c3 (ctsC (L.take i)) rfl (O4.out.alloc _) (some ⟨w3.heap.size, 0, none⟩) 1 1 [.slice rA rn rc, .int .i64 k] rfl (sl_ct _ _ _ _) (by intro u hu; simp at hu; rcases hu with rfl | rfl <;> rfl) (by omega) (by decide) (by have := Ext.size y3; simp; omega) ?_); intro A5 c5 w5 o5 g5 h5; clear h5; have X5 : Ext w w5 := Ext.grown (Ext.alloc X3 _) g5 (fun k e => Nat.le_trans (Ext.size X1) (O4.out.lt k e).1); have y5 : Ext w1 w5 := Ext.grown (Ext.alloc y3 _) g5 (fun k e => (O4.out.lt k e).1); have O5 := Lib.hid o5; clear o5 g5; have m5 : True := trivial)
            | (at_builtin; have mk := m5; clear m5 mk; go_loud (refine wpList_append_two _ elem_ct w1.heap.size _ _ rfl rfl A5 (i + 1) c5 _ rfl O5.out _ _ _ _ rfl (Sl.ext (Ctin.drop3 w _ HN.out (Nat.le_refl _) (by omega)) X5) (ctsC_one _) (by omega) (by decide) y5.size ?_); intro A6 c6 w6 o6 g6 h6; clear h6; have X6 : Ext w w6 := Ext.grown X5 g6 (fun k e => Nat.le_trans X1.size (O5.out.lt k e).1); have HE : Hid (AddR w (addV (L.map valC) (rl, k)) (.returned (.slice A6 (i + 1) c6)) w6) := Lib.hid (add_new H.out HR.out X6 HLT.out hg.out HN.out (Nat.le_refl _) (by omega) (by have := o6; rwa [HRN.out] at this)); clear o6 g6))
          go_ret
          exact HE.out

theorem addV_len : ∀ (R : List V) (x : V), (addV R x).length ≤ R.length + 1
  | [], _ => Nat.le_refl _
  | y :: R, x => by
    unfold addV
    split
    · rw [List.length_cons, List.length_cons]; have := addV_len R x; omega
    · split
      · rw [List.length_cons, List.length_cons]; omega
      · rw [List.length_cons, List.length_cons]; omega
def sumTo (L : List Ct) (i : Nat) : List V := ((L.take i).map valC).foldl addV []
theorem sumTo_succ {L : List Ct} {i : Nat} {x : Ct} (hi : i < L.length) (hx : L.getD i Ct.zero = x) : sumTo L (i + 1) = addV (sumTo L i) (x.l, x.k) := by
  unfold sumTo
  rw [take_snocC hi, hx, List.map_append, List.foldl_append]
  rfl
theorem sumTo_len (L : List Ct) : ∀ i, (sumTo L i).length ≤ i
  | 0 => by unfold sumTo; simp
  | i + 1 => by
    have ih := sumTo_len L i
    by_cases hi : i < L.length
    · rw [sumTo_succ hi rfl]
      have := addV_len (sumTo L i) ((L.getD i Ct.zero).l, (L.getD i Ct.zero).k)
      omega
    · have e : sumTo L (i + 1) = sumTo L i := by unfold sumTo; rw [List.take_of_length_le (by omega), List.take_of_length_le (by omega)]
      rw [e]; omega
def RefAt (w wr : World) (L : List Ct) (i : Nat) (A : Option Addr) (m c : Nat) : Prop := ∃ M, m = M.length ∧ Ctin wr A c M ∧ M.map valC = sumTo L i ∧ Ext w wr
/-- what is not none, so far -/
def LeftAt (w1 wr : World) (M : List Ct) (j : Nat) (A : Option Addr) (m c : Nat) : Prop := m = ((M.take j).filter nzC).length ∧ Own wr w1.heap.size 154 2 A m c (ctsC ((M.take j).filter nzC)) ∧ Ext w1 wr
theorem left_len (M : List Ct) (j : Nat) : ((M.take j).filter nzC).length ≤ j := by
  have h1 := List.length_filter_le nzC (M.take j)
  rw [List.length_take] at h1
  omega
theorem LeftAt.skip {w1 wr : World} {M : List Ct} {j m c : Nat} {A : Option Addr} {x : Ct} (h : LeftAt w1 wr M j A m c) (hj : j < M.length) (hx : M.getD j Ct.zero = x) (hz : (x.k == 0) = true) : LeftAt w1 wr M (j + 1) A m c := by
  have e : (M.take (j + 1)).filter nzC = (M.take j).filter nzC := by
    rw [take_snocC hj, hx, List.filter_append]
    have : [x].filter nzC = [] := by simp [nzC, hz]
    rw [this, List.append_nil]
  unfold LeftAt
  rw [e]
  exact h
theorem LeftAt.more {w1 wr w2 : World} {M : List Ct} {j m c m2 c2 : Nat} {A A2 : Option Addr} {x : Ct} (h : LeftAt w1 wr M j A m c) (hj : j < M.length) (hx : M.getD j Ct.zero = x) (hz : (x.k == 0) = false) (hm : m2 = m + 1)
    (o : Own w2 w1.heap.size 154 2 A2 m2 c2 (ctsC ((M.take j).filter nzC) ++ [.slice x.A x.l.length x.c, .int .i64 x.k])) (X : Ext w1 w2) : LeftAt w1 w2 M (j + 1) A2 m2 c2 := by
  have e : (M.take (j + 1)).filter nzC = (M.take j).filter nzC ++ [x] := by
    rw [take_snocC hj, hx, List.filter_append]
    have : [x].filter nzC = [x] := by simp [nzC, hz]
    rw [this]
  unfold LeftAt
  rw [e, List.length_append, ctsC_append]
  exact ⟨by rw [hm, h.1]; rfl, o, X⟩
set_option maxRecDepth 100000 in
set_option maxHeartbeats 8000000 in
theorem refSum_any (A : Option Addr) (c n : Nat) (L : List Ct) (w : World) (hn : n = L.length) (h : Ctin w A c L) (hs : n ≤ 1000000) :
    Calls Tryz.prog 120 #[.slice A n c] w (AddR w (sumV (L.map valC))) := by
  have HN := Lib.hid hn
  have H := Lib.hid h
  have HR0 : Hid (RefAt w w L 0 none 0 0) := Lib.hid ⟨[], rfl, ⟨Sl.nil w 2, fun x hx => (nomatch hx)⟩, rfl, Ext.refl w⟩
  clear hn h
  go_enter Tryz.func120, Tryz.ntmps120
  go_wp2
  go_loopg [3, 4] n (fun z u v wr => ∃ (i m c3 : Nat) (A3 : Option Addr), z = n - i ∧ i ≤ n ∧ m ≤ i ∧ u = .slice A3 m c3 ∧ v = .int .i64 i ∧ Hid (RefAt w wr L i A3 m c3))
  case atStart => exact ⟨0, 0, 0, none, rfl, Nat.zero_le _, Nat.le_refl _, rfl, rfl, HR0⟩
  case round =>
    clear HR0
    obtain ⟨i, m, c3, A3, rfl, hi, hmi, rfl, rfl, HP⟩ := hrel
    by_cases hlt : i < n
    · obtain ⟨M, hM, hC, hv, X⟩ := HP.out
      have hil : i < L.length := by rw [← HN.out]; exact hlt
      obtain ⟨ad, rfl, p0, p1⟩ := (H.out.ext X).at hil
      have hm := getD_mem hil
      obtain ⟨x, hx⟩ : ∃ x, L.getD i Ct.zero = x := ⟨_, rfl⟩
      rw [hx] at p0 p1 hm
      obtain ⟨nx, hnx⟩ : ∃ nx, nx = x.l.length := ⟨_, rfl⟩
      rw [← hnx] at p0
      have XE : Ext wr wr.drew := (Ext.refl wr).drew
      have HRX := Lib.hid (((H.out.rows x hm).ext X).ext XE)
      have HMC := Lib.hid (hC.ext XE)
      have HNX := Lib.hid hnx
      have HMM := Lib.hid hM
      have HV : Hid (addV (M.map valC) (x.l, x.k) = sumTo L (i + 1)) := Lib.hid (by rw [sumTo_succ hil hx, hv])
      have HXX := Lib.hid (X.trans XE)
      have P0 : ∀ z : Xt wr.drew, z.W.cell? (ad.add (i * 2)) = some (.slice x.A nx x.c) := fun z => (XE.trans z.x).cell p0
      have P1 : ∀ z : Xt wr.drew, z.W.cell? ⟨(ad.add (i * 2)).block, (ad.add (i * 2)).off + 1, none⟩ = some (.int .i64 x.k) := fun z => (XE.trans z.x).cell p1
      clear hM hC hv X hil hm hx hnx HP
      go_upto_region 5 with fail
      refine wp_region_ord [0,0,0,6,14,30,0,0,192,448,960,2047,4095] (.flo [0,1,2,3,4,5,6,7,8,9,10] (.one 11 (.flo [12] (.fin)))) (by kernel_rfl) (by kernel_rfl) (by intro _ _ d _ _ h; cases d <;> exact h) ?_
      (refine ord_flo (pick_cons rfl (pick_cons rfl (pick_cons rfl (pick_cons rfl (pick_cons rfl (pick_cons rfl (pick_cons rfl (pick_cons rfl (pick_cons rfl (pick_cons rfl (pick_cons rfl pick_nil))))))))))) ?_; (repeat (go_big_quiet_step (fail))); refine wpQuiet_nil ?_; show ordWalk _ _ _ _ _ _ _)
      refine ord_one (pick_cons rfl pick_nil) ?_; intro K_ hK_
      go_wp2_with (go_at_call 195; refine (add_any A3 x.A c3 x.c m nx M x.l x.k _ HMM.out HNX.out HMC.out HRX.out (by omega)).mono ?_; rintro e w1 ⟨A4, m4, c4, M4, rfl, hm4, hC4, hv4, X4⟩; have hml : m4 ≤ i + 1 := (by rw [hm4]; have q := congrArg List.length hv4; rw [List.length_map, HV.out] at q; rw [q]; exact sumTo_len L (i + 1)); have HP4 : Hid (RefAt w w1 L (i + 1) A4 m4 c4) := Lib.hid ⟨M4, hm4, hC4, by rw [hv4, HV.out], HXX.out.trans X4⟩; clear hm4 hC4 hv4 X4)
      (refine ord_flo (pick_cons rfl pick_nil) ?_; (repeat (go_big_quiet_step (fail))); refine wpQuiet_nil ?_; show ordWalk _ _ _ _ _ _ _)
      refine ord_fin ?_
      go_wp2
      go_roundg (n - (i + 1))
      case measure => omega
      case rel => exact ⟨i + 1, m4, c4, A4, rfl, by omega, hml, rfl, by go_num, HP4⟩
    · obtain rfl : i = n := by omega
      obtain ⟨M, hM, hC, hv, X⟩ := HP.out
      obtain ⟨w1, hw1⟩ : ∃ w1 : World, w1 = wr := ⟨_, rfl⟩
      rw [← hw1] at hC X ⊢
      clear hw1
      have HM := Lib.hid hM
      have HC := Lib.hid hC
      have HV := Lib.hid hv
      have HX := Lib.hid X
      have HL0 : Hid (LeftAt w1 w1 M 0 none 0 0) := Lib.hid ⟨rfl, Own.nil _ _ _ _, Ext.refl _⟩
      clear hM hC hv X HP
      go_wp2
      go_loopg [5, 6] m (fun z u v wr => ∃ (j n5 c5 : Nat) (A5 : Option Addr), z = m - j ∧ j ≤ m ∧ n5 ≤ j ∧ u = .slice A5 n5 c5 ∧ v = .int .i64 j ∧ Hid (LeftAt w1 wr M j A5 n5 c5))
      case atStart => exact ⟨0, 0, 0, none, rfl, Nat.zero_le _, Nat.le_refl _, rfl, rfl, HL0⟩
      case round =>
        clear HL0
        obtain ⟨j, n5, c5, A5, rfl, hj, hnj, rfl, rfl, HQ⟩ := hrel
        by_cases hlt : j < m
        · have hjl : j < M.length := by rw [← HM.out]; exact hlt
          obtain ⟨ad, rfl, p0, p1⟩ := (HC.out.ext HQ.out.2.2).at hjl
          have hm := getD_mem hjl
          obtain ⟨x, hx⟩ : ∃ x, M.getD j Ct.zero = x := ⟨_, rfl⟩
          rw [hx] at p0 p1 hm
          obtain ⟨nx, hnx⟩ : ∃ nx, nx = x.l.length := ⟨_, rfl⟩
          rw [← hnx] at p0
          have HJ := Lib.hid hjl
          have HXJ := Lib.hid hx
          have HNX := Lib.hid hnx
          clear hjl hx hm hnx
          cases hz : (x.k == 0)
          · have HZ := Lib.hid hz
            go_wp2_with (at_builtin; go_loud (refine wpList_append_two _ elem_ct w1.heap.size _ _ rfl rfl A5 n5 c5 (ctsC ((M.take j).filter nzC)) rfl (Own.alloc HQ.out.2.1 _) (some ⟨wr.heap.size, 0, none⟩) 1 1 [.slice x.A nx x.c, .int .i64 x.k] rfl (sl_ct _ _ _ _) (by intro u hu; simp at hu; rcases hu with rfl | rfl <;> rfl) (by omega) (by decide) (by have := Ext.size HQ.out.2.2; simp; omega) ?_); intro A6 c6 w6 o6 g6 h6; clear h6; have HQ6 := Lib.hid (LeftAt.more (m2 := n5 + 1) HQ.out HJ.out HXJ.out HZ.out rfl (by have := o6; rwa [HNX.out] at this) (Ext.grown (Ext.alloc HQ.out.2.2 _) g6 (fun k e => (HQ.out.2.1.lt k e).1))); clear o6 g6)
            go_roundg (m - (j + 1))
            case measure => omega
            case rel => exact ⟨j + 1, n5 + 1, c6, A6, rfl, by omega, by omega, rfl, by go_num, HQ6⟩
          · have HQ6 := Lib.hid (HQ.out.skip HJ.out HXJ.out hz)
            go_wp2
            go_roundg (m - (j + 1))
            case measure => omega
            case rel => exact ⟨j + 1, n5, c5, A5, rfl, by omega, by omega, rfl, by go_num, HQ6⟩
        · obtain rfl : j = m := by omega
          have HE : Hid (AddR w (sumV (L.map valC)) (.returned (.slice A5 n5 c5)) wr) := Lib.hid (by
            obtain ⟨q1, q2, q3⟩ := HQ.out
            rw [List.take_of_length_le (by rw [← HM.out]; exact Nat.le_refl _)] at q1 q2
            refine addR_mk q2 rfl q1 (fun x hx => (HC.out.rows x (List.mem_filter.1 hx).1).ext q3) ?_ (HX.out.trans q3)
            have e : M.map valC = sumAll (L.map valC) := by rw [HV.out]; unfold sumTo sumAll; rw [List.take_of_length_le (by rw [← HN.out]; exact Nat.le_refl _)]
            unfold sumV
            rw [← e, List.filter_map]
            rfl)
          go_wp2
          go_ret
          exact HE.out
end Go.Proofs.YtdgbkpoickbidaaGreatDoor
