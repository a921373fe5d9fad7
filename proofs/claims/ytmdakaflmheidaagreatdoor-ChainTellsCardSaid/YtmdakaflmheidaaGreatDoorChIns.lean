/- chain.Insert: the antichain with a time more. Conditions: the list is as readings give it, and not too long. -/
import Derived.Test.YtmdakaflmheidaaGreatDoorChOf
import Derived.Test.YtmdakaflmheidaaGreatDoorOrd
namespace Go.Proofs.YtmdakaflmheidaaGreatDoor
open Go.RowKit

theorem tin_more {w w3 : World} {B : Nat} {AL A3 : Option Addr} {cL c3 : Nat} {L : List Tm} {t : Tm} (h : Tin w AL cL L) (ht : Sl w 1 t.A t.l.length t.c (wds t.l)) (o : Own w3 B 26 2 A3 (L.length + 1) c3 (tmsC L ++ tmC t)) (x : Ext w w3) : Tin w3 A3 c3 (L ++ [t]) := by
  refine ⟨?_, fun y hy => ?_⟩
  · rw [tmsC_append, List.length_append, show tmsC [t] = tmC t by simp [tmsC]]; exact o.sl
  · rcases List.mem_append.1 hy with hy | hy
    · exact (h.ls y hy).ext x
    · rw [List.mem_singleton] at hy; subst hy; exact ht.ext x
set_option maxRecDepth 100000 in
set_option maxHeartbeats 2000000 in
theorem insert_any (AL : Option Addr) (cL m : Nat) (L : List Tm) (e : Int) (A : Option Addr) (n c : Nat) (l : List Int) (w : World) (hm : Hid (m = L.length)) (hL : Hid (Tin w AL cL L)) (ht : Hid (Sl w 1 A n c (wds l))) (hi : Hid (∀ x ∈ L, x.l.length ≤ 1000000)) (h9 : m ≤ 100000) (hn : n ≤ 1000000) :
    Calls Tryz.prog 21 #[.slice AL m cL, .agg #[.int .u64 e, .slice A n c]] w (OfOut (ofV (L.map Tm.v ++ [(e, l)])) w) := by
  have HV : Hid ((L ++ [(⟨e, A, c, l⟩ : Tm)]).map Tm.v = L.map Tm.v ++ [(e, l)]) := Lib.hid (by rw [List.map_append]; rfl)
  have HN : Hid (n = l.length) := Lib.hid ht.out.wlen.symm
  have HI : Hid (∀ x ∈ L ++ [(⟨e, A, c, l⟩ : Tm)], x.l.length ≤ 1000000) := Lib.hid (fun x hx => by
    rcases List.mem_append.1 hx with hx | hx
    · exact hi.out x hx
    · rw [List.mem_singleton] at hx; subst hx; show l.length ≤ _; rw [← HN.out]; exact hn)
  have HM : Hid (m + 1 = (L ++ [(⟨e, A, c, l⟩ : Tm)]).length) := Lib.hid (by rw [List.length_append, hm.out]; rfl)
  have HC : Hid (tmC ⟨e, A, c, l⟩ = [.int .u64 e, .slice A n c]) := Lib.hid (by rw [HN.out]; rfl)
  have HT1 : Hid (Sl w 1 (⟨e, A, c, l⟩ : Tm).A (⟨e, A, c, l⟩ : Tm).l.length (⟨e, A, c, l⟩ : Tm).c (wds (⟨e, A, c, l⟩ : Tm).l)) := Lib.hid (by show Sl w 1 A l.length c (wds l); rw [← HN.out]; exact ht.out)
  go_enter Tryz.func21, Tryz.ntmps21
  go_upto_region 1 with fail
  obtain ⟨w0, hw0⟩ : ∃ w0, w0 = w.alloc (Obj.cells #[Value.int IntKind.u64 e, Value.slice A n c] 26) := ⟨_, rfl⟩
  have x0 : Ext w w0 := hw0 ▸ (Ext.refl w).alloc _
  have b0 : Bk w0 w.heap.size 26 #[Value.int IntKind.u64 e, Value.slice A n c] := by subst hw0; exact Bk.new _ _ _
  have s0 : w0.heap.size = w.heap.size + 1 := by subst hw0; simp
  rw [← hw0]
  clear hw0
  have S0 := Lib.hid s0
  clear s0
  have X : Ext w0 w0.drew := (Ext.refl w0).drew
  have q1 : ∀ y : Xt w0.drew, y.W.cell? ⟨w.heap.size, 0, none⟩ = some (.int .u64 e) := fun y => (b0.ext (X.trans y.x)).cell 0
  have q2 : ∀ y : Xt w0.drew, y.W.cell? ⟨w.heap.size, 1, none⟩ = some (.slice A n c) := fun y => (b0.ext (X.trans y.x)).cell 1
  have X9 : Hid (Ext w w0.drew) := Lib.hid (x0.trans X)
  refine wp_region_ord [0,1,0,4,15,31,63] (.flo [0,2] (.both 1 3 (.ext 3 (.one 4 (.one 5 (.flo [6] (.fin))))) (.ext 1 (.one 4 (.one 5 (.flo [6] (.fin))))))) (by kernel_rfl) (by kernel_rfl) (by intro _ _ d _ _ h; cases d <;> exact h) ?_
  (refine ord_flo (pick_cons rfl (pick_cons rfl pick_nil)) ?_; (repeat (go_big_quiet_step (fail))); refine wpQuiet_nil ?_; show ordWalk _ _ _ _ _ _ _)
  refine ord_both (pick_cons rfl pick_nil) (pick_cons rfl pick_nil) ?_ ?_ <;> intro K_ hK_
  · go_wp2_with (go_at_call 60; refine (clone_times AL m cL L _ hm (Lib.hid (hL.out.ext X9.out)) (by omega)).mono ?_; rintro r w1 ⟨A', c', rfl, o1, x1⟩)
    refine ordNext.mk x1 ?_
    refine ord_ext (pick_cons rfl pick_nil) ?_; intro K_ hK_
    go_wp2
    refine ordNext.mk ((Ext.refl _).alloc _) ?_
    refine ord_one (pick_cons rfl pick_nil) ?_; intro K_ hK_
    go_wp2_with (at_builtin; go_loud (refine wpList_append_gen _ elemTimes w0.drew.heap.size _ _ rfl rfl A' m c' (tmsC L) rfl (o1.alloc _) (some ⟨w1.heap.size, 0, none⟩) 1 1 (tmC ⟨e, A, c, l⟩) rfl (by rw [HC.out]; exact Sl.one w1 #[.int .u64 e, .slice A n c] 26 2 rfl) (by rw [HC.out]; exact fun u hu => by simp at hu; rcases hu with rfl | rfl <;> rfl) (by omega) (by decide) (Nat.le_trans x1.size (Ext.size ((Ext.refl w1).alloc _))) ?_); intro A3 c3 w3 o3 g3 k3; have X3 : Hid (Ext w w3) := Lib.hid ((((X9.out.trans x1).alloc _)).grown g3 (fun k hk => Nat.le_trans X9.out.size (o1.lt k hk).1)); have T3 : Hid (Tin w3 A3 c3 (L ++ [⟨e, A, c, l⟩])) := Lib.hid (tin_more hL.out HT1.out (by rw [← hm.out]; exact o3) X3.out); clear o3 g3 k3)
    refine ord_one (pick_cons rfl pick_nil) ?_; intro K_ hK_
    go_wp2_with (go_at_call 19; refine (of_any A3 c3 (m + 1) _ _ HM T3 HI (by omega)).mono ?_; rintro r w4 ⟨A4, c4, n4, M4, rfl, h4, t4, v4, x4⟩; have HO : Hid (OfOut (ofV ((L ++ [(⟨e, A, c, l⟩ : Tm)]).map Tm.v)) w3 (.returned (.slice A4 n4 c4)) w4) := Lib.hid ⟨A4, c4, n4, M4, rfl, h4, t4, v4, x4⟩; clear h4 t4 v4 x4)
    (refine ord_flo (pick_cons rfl pick_nil) ?_; (repeat (go_big_quiet_step (fail))); refine wpQuiet_nil ?_; show ordWalk _ _ _ _ _ _ _)
    refine ord_fin ?_
    go_wp2
    go_ret
    have := HO.out.back X3.out
    rw [HV.out] at this
    exact this
  · go_wp2
    refine ordNext.mk ((Ext.refl _).alloc _) ?_
    refine ord_ext (pick_cons rfl pick_nil) ?_; intro K_ hK_
    go_wp2_with (go_at_call 60; refine (clone_times AL m cL L _ hm (Lib.hid (hL.out.ext (X9.out.alloc _))) (by omega)).mono ?_; rintro r w1 ⟨A', c', rfl, o1, x1⟩)
    refine ordNext.mk x1 ?_
    refine ord_one (pick_cons rfl pick_nil) ?_; intro K_ hK_
    have S1 : Hid (Sl w1 2 (some ⟨w0.heap.size, 0, none⟩) 1 1 (tmC ⟨e, A, c, l⟩)) := Lib.hid (by rw [HC.out]; exact (Sl.one w0.drew #[.int .u64 e, .slice A n c] 26 2 rfl).ext x1)
    go_wp2_with (at_builtin; go_loud (refine wpList_append_gen _ elemTimes w0.heap.size _ _ rfl rfl A' m c' (tmsC L) rfl (o1.mono (Ext.size (X.alloc _))) (some ⟨w0.heap.size, 0, none⟩) 1 1 (tmC ⟨e, A, c, l⟩) rfl S1.out (by rw [HC.out]; exact fun u hu => by simp at hu; rcases hu with rfl | rfl <;> rfl) (by omega) (by decide) (Nat.le_trans (Ext.size (X.alloc _)) x1.size) ?_); intro A3 c3 w3 o3 g3 k3; have X3 : Hid (Ext w w3) := Lib.hid ((((X9.out.alloc _).trans x1)).grown g3 (fun k hk => Nat.le_trans ((X9.out.alloc (.cells #[.int .u64 e, .slice A n c] 26))).size (o1.lt k hk).1)); have T3 : Hid (Tin w3 A3 c3 (L ++ [⟨e, A, c, l⟩])) := Lib.hid (tin_more hL.out HT1.out (by rw [← hm.out]; exact o3) X3.out); clear o3 g3 k3)
    refine ord_one (pick_cons rfl pick_nil) ?_; intro K_ hK_
    go_wp2_with (go_at_call 19; refine (of_any A3 c3 (m + 1) _ _ HM T3 HI (by omega)).mono ?_; rintro r w4 ⟨A4, c4, n4, M4, rfl, h4, t4, v4, x4⟩; have HO : Hid (OfOut (ofV ((L ++ [(⟨e, A, c, l⟩ : Tm)]).map Tm.v)) w3 (.returned (.slice A4 n4 c4)) w4) := Lib.hid ⟨A4, c4, n4, M4, rfl, h4, t4, v4, x4⟩; clear h4 t4 v4 x4)
    (refine ord_flo (pick_cons rfl pick_nil) ?_; (repeat (go_big_quiet_step (fail))); refine wpQuiet_nil ?_; show ordWalk _ _ _ _ _ _ _)
    refine ord_fin ?_
    go_wp2
    go_ret
    have := HO.out.back X3.out
    rw [HV.out] at this
    exact this
end Go.Proofs.YtmdakaflmheidaaGreatDoor
