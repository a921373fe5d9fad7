/- penstockref00.SameTimes: what it answers. Conditions: the lists are as readings give them. -/
import Derived.Test.YtmdakaflmheidaaGreatDoorSameTm
import Derived.Test.YtmdakaflmheidaaGreatDoorTms
import Derived.Test.YtmdakaflmheidaaGreatDoorOrd
import Derived.Deep.LoopGhost
namespace Go.Proofs.YtmdakaflmheidaaGreatDoor
open Go.RowKit

def IfSame (b : Bool) (x y : TV) : Prop := x = y ↔ b = true
theorem tv_ext {L M : List Tm} (hl : L.length = M.length) : (∀ k, k < L.length → (L.getD k Tm.zero).v = (M.getD k Tm.zero).v) ↔ L.map Tm.v = M.map Tm.v := by
  constructor
  · intro h
    refine List.ext_getElem (by simpa using hl) fun k h1 h2 => ?_
    rw [List.length_map] at h1 h2
    have := h k h1
    rw [getT_v h1, getT_v h2, this]
  · intro h k hk
    rw [← getT_v hk, ← getT_v (hl ▸ hk)]
    simp only [h]
theorem sameTime_at {b : Bool} (e1 e2 : Int) (A1 A2 : Option Addr) (n1 n2 c1 c2 : Nat) (l1 l2 : List Int) (w : World) (hb : Hid (decide (e1 = e2 ∧ l1 = l2) = b)) (h1 : Hid (Sl w 1 A1 n1 c1 (wds l1))) (h2 : Hid (Sl w 1 A2 n2 c2 (wds l2))) :
    Calls Tryz.prog 30 #[.agg #[.int .u64 e1, .slice A1 n1 c1], .agg #[.int .u64 e2, .slice A2 n2 c2]] w fun e w' => e = .returned (.bool b) ∧ Ext w w' := hb.out ▸ sameTime_any e1 e2 A1 A2 n1 n2 c1 c2 l1 l2 w h1.out h2.out
set_option maxRecDepth 100000 in
set_option maxHeartbeats 400000 in
theorem sameTimes_diff (A1 A2 : Option Addr) (n1 n2 c1 c2 : Nat) (w : World) (hne : ((n1 : Int) != (n2 : Int)) = true) :
    Calls Tryz.prog 12 #[.slice A1 n1 c1, .slice A2 n2 c2] w fun e w' => e = .returned (.bool false) ∧ Ext w w' := by
  go_enter Tryz.func12, Tryz.ntmps12
  go_wp2
  go_ret
  exact ⟨rfl, Ext.refl _⟩
set_option maxRecDepth 100000 in
set_option maxHeartbeats 2000000 in
theorem sameTimes_same (A1 A2 : Option Addr) (n c1 c2 : Nat) (L M : List Tm) (w : World) (hn : Hid (n = L.length)) (hm : Hid (n = M.length)) (h1 : Hid (Tin w A1 c1 L)) (h2 : Hid (Tin w A2 c2 M)) :
    Calls Tryz.prog 12 #[.slice A1 n c1, .slice A2 n c2] w fun e w' => e = .returned (.bool (decide (L.map Tm.v = M.map Tm.v))) ∧ Ext w w' := by
  have hbig : n ≤ 9223372036854775807 := by rw [hn.out]; exact h1.out.sl.le
  have he : ((n : Int) != (n : Int)) = false := by simp
  go_enter Tryz.func12, Tryz.ntmps12
  go_wp2
  go_loopg [5] n (fun z v wr => ∃ k : Nat, z = n - k ∧ k ≤ n ∧ v = .int .i64 k ∧ Hid (∀ j, j < k → (L.getD j Tm.zero).v = (M.getD j Tm.zero).v) ∧ Hid (Ext w wr))
  case atStart => exact ⟨0, rfl, Nat.zero_le _, rfl, Lib.hid (fun j hj => absurd hj (by omega)), Lib.hid (Ext.refl _)⟩
  case round =>
    obtain ⟨k, rfl, hk, rfl, HA, HE⟩ := hrel
    by_cases hlt : k < n
    · have hkL : k < L.length := by rw [← hn.out]; exact hlt
      have hkM : k < M.length := by rw [← hm.out]; exact hlt
      obtain ⟨a1, rfl, p0, p1⟩ := (h1.out.ext HE.out).at (i := k) hkL
      obtain ⟨a2, rfl, q0, q1⟩ := (h2.out.ext HE.out).at (i := k) hkM
      have HX : Hid (Sl wr 1 (L.getD k Tm.zero).A (L.getD k Tm.zero).l.length (L.getD k Tm.zero).c (wds (L.getD k Tm.zero).l)) := Lib.hid ((h1.out.ext HE.out).ls _ (getT_mem hkL))
      have HY : Hid (Sl wr 1 (M.getD k Tm.zero).A (M.getD k Tm.zero).l.length (M.getD k Tm.zero).c (wds (M.getD k Tm.zero).l)) := Lib.hid ((h2.out.ext HE.out).ls _ (getT_mem hkM))
      obtain ⟨x, hx⟩ : ∃ x, L.getD k Tm.zero = x := ⟨_, rfl⟩
      obtain ⟨y, hy⟩ : ∃ y, M.getD k Tm.zero = y := ⟨_, rfl⟩
      rw [hx] at p0 p1 HX
      rw [hy] at q0 q1 HY
      obtain ⟨b, hb⟩ : ∃ b, decide (x.e = y.e ∧ x.l = y.l) = b := ⟨_, rfl⟩
      have HBb := Lib.hid hb
      have HXx := Lib.hid hx
      have HYy := Lib.hid hy
      have HV : Hid (IfSame b x.v y.v) := Lib.hid (by unfold IfSame; rw [← hb, decide_eq_true_iff]; exact ⟨fun h => ⟨congrArg Prod.fst h, congrArg Prod.snd h⟩, fun h => Prod.ext h.1 h.2⟩)
      clear hb hx hy hkL hkM
      obtain ⟨e, A, c, l⟩ := x
      obtain ⟨f, B, d, m⟩ := y
      go_wp2
      have X : Ext wr wr.drew := (Ext.refl wr).drew
      have y0 : ∀ y : Xt wr.drew, y.W.cell? (a1.add (k * 2)) = some (.int .u64 e) := fun y => y.x.cell (X.cell p0)
      have y1 : ∀ y : Xt wr.drew, y.W.cell? ⟨(a1.add (k * 2)).block, (a1.add (k * 2)).off + 1, none⟩ = some (.slice A l.length c) := fun y => y.x.cell (X.cell p1)
      have y2 : ∀ y : Xt wr.drew, y.W.cell? (a2.add (k * 2)) = some (.int .u64 f) := fun y => y.x.cell (X.cell q0)
      have y3 : ∀ y : Xt wr.drew, y.W.cell? ⟨(a2.add (k * 2)).block, (a2.add (k * 2)).off + 1, none⟩ = some (.slice B m.length d) := fun y => y.x.cell (X.cell q1)
      clear p0 p1 q0 q1
      refine wp_region_ord [0,0,3,7,0,0,48,112,255,511] (.flo [0,1,2,3,4,5,6,7] (.one 8 (.flo [9] (.fin)))) (by kernel_rfl) (by kernel_rfl) (by intro _ _ d _ _ h; cases d <;> exact h) ?_
      (refine ord_flo (pick_cons rfl (pick_cons rfl (pick_cons rfl (pick_cons rfl (pick_cons rfl (pick_cons rfl (pick_cons rfl (pick_cons rfl pick_nil)))))))) ?_; (repeat (go_big_quiet_step (fail))); refine wpQuiet_nil ?_; show ordWalk _ _ _ _ _ _ _)
      refine ord_one (pick_cons rfl pick_nil) ?_; intro K_ hK_
      go_wp2_with (go_at_call 30; go_loud (refine (sameTime_at e f A B l.length m.length c d l m _ HBb (Lib.hid (HX.out.ext X)) (Lib.hid (HY.out.ext X))).mono ?_); rintro r w1 ⟨rfl, x1⟩)
      (refine ord_flo (pick_cons rfl pick_nil) ?_; (repeat (go_big_quiet_step (fail))); refine wpQuiet_nil ?_; show ordWalk _ _ _ _ _ _ _)
      refine ord_fin ?_
      cases b with
      | true =>
        go_wp2
        go_roundg (n - (k + 1))
        case measure => omega
        case rel =>
          refine ⟨k + 1, by omega, by omega, by go_num, Lib.hid (fun j hj => ?_), Lib.hid ((HE.out.trans X).trans x1)⟩
          by_cases hjk : j < k
          · exact HA.out j hjk
          · obtain rfl : j = k := by omega
            rw [HXx.out, HYy.out]
            exact (show IfSame true _ _ from HV.out).2 rfl
      | false =>
        go_wp2
        go_ret
        refine ⟨ret_bool (Eq.symm (decide_eq_false fun h => ?_)), (HE.out.trans X).trans x1⟩
        have a := (tv_ext (by rw [← hn.out, ← hm.out])).2 h k (by rw [← hn.out]; exact hlt)
        rw [HXx.out, HYy.out] at a
        exact absurd ((show IfSame false _ _ from HV.out).1 a) (by decide)
    · obtain rfl : k = n := by omega
      go_wp2
      go_ret
      exact ⟨ret_bool (Eq.symm (decide_eq_true ((tv_ext (by rw [← hn.out, ← hm.out])).1 fun j hj => HA.out j (by rw [hn.out]; exact hj)))), HE.out⟩
theorem sameTimes_any (A1 A2 : Option Addr) (n m c1 c2 : Nat) (L M : List Tm) (w : World) (hn : Hid (n = L.length)) (hm : Hid (m = M.length)) (h1 : Hid (Tin w A1 c1 L)) (h2 : Hid (Tin w A2 c2 M)) :
    Calls Tryz.prog 12 #[.slice A1 n c1, .slice A2 m c2] w fun e w' => e = .returned (.bool (decide (L.map Tm.v = M.map Tm.v))) ∧ Ext w w' := by
  by_cases h : n = m
  · subst h
    exact sameTimes_same A1 A2 n c1 c2 L M w hn hm h1 h2
  · have hf : decide (L.map Tm.v = M.map Tm.v) = false := decide_eq_false fun e => h (by
      have := congrArg List.length e
      rw [List.length_map, List.length_map] at this
      rw [hn.out, hm.out, this])
    rw [hf]
    exact sameTimes_diff A1 A2 n m c1 c2 w (by simp; omega)
theorem sameTimes_yes (A1 A2 : Option Addr) (n m c1 c2 : Nat) (L M : List Tm) (w : World) (hn : Hid (n = L.length)) (hm : Hid (m = M.length)) (h1 : Hid (Tin w A1 c1 L)) (h2 : Hid (Tin w A2 c2 M)) (h : Hid (L.map Tm.v = M.map Tm.v)) :
    Calls Tryz.prog 12 #[.slice A1 n c1, .slice A2 m c2] w fun e w' => e = .returned (.bool true) ∧ Ext w w' := by
  have := sameTimes_any A1 A2 n m c1 c2 L M w hn hm h1 h2
  rwa [show decide (L.map Tm.v = M.map Tm.v) = true from decide_eq_true h.out] at this
end Go.Proofs.YtmdakaflmheidaaGreatDoor
