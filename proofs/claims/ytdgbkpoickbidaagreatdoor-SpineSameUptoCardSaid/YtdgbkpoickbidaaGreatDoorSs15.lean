/- penstockref04.Join, Meet: what they answer. penstockref04.Join of times of one depth. penstockref05.Advance: the time that stands for another one. penstockref10: At, Advance. Conditions: each theorem states its own. -/
import Derived.Test.YtdgbkpoickbidaaGreatDoorSs10
import Derived.Test.YtdgbkpoickbidaaGreatDoorSs2
import Derived.Test.YtdgbkpoickbidaaGreatDoorSs1
import Derived.Test.YtdgbkpoickbidaaGreatDoorSs13
import Derived.Test.YtdgbkpoickbidaaGreatDoorSs14
namespace Go.Proofs.YtdgbkpoickbidaaGreatDoor
open Go.RowKit

end Go.Proofs.YtdgbkpoickbidaaGreatDoor
namespace Go.Proofs.YtdgbkpoickbidaaGreatDoor
open Go.RowKit

end Go.Proofs.YtdgbkpoickbidaaGreatDoor
namespace Go.Proofs.YtdgbkpoickbidaaGreatDoor
open Go.RowKit

end Go.Proofs.YtdgbkpoickbidaaGreatDoor
namespace Go.Proofs.YtdgbkpoickbidaaGreatDoor
open Go.RowKit

theorem urleq_at {b : Bool} (e1 e2 : Int) (A1 A2 : Option Addr) (n1 n2 c1 c2 : Nat) (l1 l2 : List Int) (w : World) (hb : Hid (leqT e1 l1 e2 l2 = b)) (h1 : Sl w 1 A1 n1 c1 (wds l1)) (h2 : Sl w 1 A2 n2 c2 (wds l2)) :
    Calls Tryz.prog 119 #[.agg #[.int .u64 e1, .slice A1 n1 c1], .agg #[.int .u64 e2, .slice A2 n2 c2]] w fun e w' => e = .returned (.bool b) ∧ Ext w w' := hb.out ▸ rleq_any e1 e2 A1 A2 n1 n2 c1 c2 l1 l2 w h1 h2
theorem AddR.late {w w0 w' : World} {U0 U : List V} {e : Ending} (h : AddR w0 U0 e w') (x : Ext w w0) (hv : U0 = U) : AddR w U e w' := by
  subst hv
  obtain ⟨A, m, c, M, e1, e2, i, v, x2⟩ := h
  exact ⟨A, m, c, M, e1, e2, i, v, x.trans x2⟩
theorem AddU.late {w w0 w' : World} {U : List UV} {e : Ending} (h : AddU w0 U e w') (x : Ext w w0) : AddU w U e w' := by
  obtain ⟨A, m, c, M, e1, e2, i, v, x2⟩ := h
  exact ⟨A, m, c, M, e1, e2, i, v, x.trans x2⟩
set_option maxRecDepth 100000 in
set_option maxHeartbeats 8000000 in
theorem refAt10_any {U : List V} (A : Option Addr) (c n : Nat) (L : List Ud) (e : Int) (At : Option Addr) (nt ct : Nat) (lt : List Int) (w : World) (hU : Hid (sumV (atV (L.map Ud.uv) (e, lt)) = U)) (hn : Hid (n = L.length)) (h : Hid (Uin w A c L)) (h9 : n ≤ 900000) (ht : Hid (Sl w 1 At nt ct (wds lt))) :
    Calls Tryz.prog 26 #[.slice A n c, .agg #[.int .u64 e, .slice At nt ct]] w (AddR w U) := by
  go_enter Tryz.func26, Tryz.ntmps26
  go_wp2
  obtain ⟨wb, hwb⟩ : ∃ wb, wb = w.alloc (.cells #[.int .u64 e, .slice At nt ct] 26) := ⟨_, rfl⟩
  have XB : Hid (Ext w wb) := Lib.hid (by rw [hwb]; exact (Ext.refl _).alloc _)
  have BT : Hid (Bk wb w.heap.size 26 #[.int .u64 e, .slice At nt ct]) := Lib.hid (by rw [hwb]; exact Bk.new _ _ _)
  rw [← hwb]
  clear hwb
  obtain ⟨gt, hgt⟩ : ∃ k, k = w.heap.size := ⟨_, rfl⟩
  rw [← hgt] at BT ⊢
  clear hgt
  have HP0 : Hid (UAtI wb wb L (e, lt) 0 none 0 0) := Lib.hid ⟨rfl, Own.nil _ _ _ _, Ext.refl _⟩
  go_loopg [5, 6] n (fun z u v wr => ∃ (i m c3 : Nat) (A3 : Option Addr), z = n - i ∧ i ≤ n ∧ m ≤ i ∧ u = .slice A3 m c3 ∧ v = .int .i64 i ∧ Hid (UAtI wb wr L (e, lt) i A3 m c3))
  case atStart => exact ⟨0, 0, 0, none, rfl, Nat.zero_le _, Nat.le_refl _, rfl, rfl, HP0⟩
  case round =>
    clear HP0
    obtain ⟨i, m, c3, A3, rfl, hi, hmi, rfl, rfl, HP⟩ := hrel
    by_cases hlt : i < n
    · have hil : i < L.length := by rw [← hn.out]; exact hlt
      have XW := XB.out.trans HP.out.ext
      obtain ⟨ad, rfl, p0, p1, p2, p3⟩ := (h.out.ext XW).at hil
      have hm := getU_mem hil
      obtain ⟨x, hx⟩ : ∃ x, L.getD i Ud.zero = x := ⟨_, rfl⟩
      rw [hx] at p0 p1 p2 p3 hm
      obtain ⟨nx, hnx⟩ : ∃ nx, nx = x.l.length := ⟨_, rfl⟩
      obtain ⟨tx, htx⟩ : ∃ tx, tx = x.t.l.length := ⟨_, rfl⟩
      rw [← hnx] at p0
      rw [← htx] at p2
      have HNX := Lib.hid hnx
      have HX := Lib.hid hx
      have HIL := Lib.hid hil
      have HTX : Hid (∀ W, Ext wr W → Sl W 1 x.t.A tx x.t.c (wds x.t.l)) := Lib.hid (fun W q => by rw [htx]; exact ((h.out.ls x hm).t.ext XW).ext q)
      have HT : Hid (∀ W, Ext wr W → Sl W 1 At nt ct (wds lt)) := Lib.hid (fun W q => (ht.out.ext XW).ext q)
      have X : Ext wr wr.drew := (Ext.refl wr).drew
      have t0 : ∀ z : Xt wr.drew, z.W.cell? ⟨gt, 0, none⟩ = some (.int .u64 e) := fun z => (BT.out.ext ((HP.out.ext.trans X).trans z.x)).cell 0
      have t1 : ∀ z : Xt wr.drew, z.W.cell? ⟨gt, 1, none⟩ = some (.slice At nt ct) := fun z => (BT.out.ext ((HP.out.ext.trans X).trans z.x)).cell 1
      have P0 : ∀ z : Xt wr.drew, z.W.cell? (ad.add (i * 4)) = some (.slice x.A nx x.c) := fun z => (X.trans z.x).cell p0
      have P1 : ∀ z : Xt wr.drew, z.W.cell? ⟨(ad.add (i * 4)).block, (ad.add (i * 4)).off + 1, none⟩ = some (.int .u64 x.t.e) := fun z => (X.trans z.x).cell p1
      have P2 : ∀ z : Xt wr.drew, z.W.cell? ⟨(ad.add (i * 4)).block, (ad.add (i * 4)).off + 2, none⟩ = some (.slice x.t.A tx x.t.c) := fun z => (X.trans z.x).cell p2
      have P3 : ∀ z : Xt wr.drew, z.W.cell? ⟨(ad.add (i * 4)).block, (ad.add (i * 4)).off + 3, none⟩ = some (.int .i64 x.d) := fun z => (X.trans z.x).cell p3
      obtain ⟨b, hb⟩ : ∃ b, leqT x.t.e x.t.l e lt = b := ⟨_, rfl⟩
      have HB := Lib.hid hb
      clear hil hm hx hnx htx hb XW p0 p1 p2 p3
      go_upto_region 5 with fail
      refine wp_region_ord [0,0,3,7,15,0,63] (.flo [0,1,2,3,4,5] (.one 6 (.fin))) (by kernel_rfl) (by kernel_rfl) (by intro _ _ d _ _ h; cases d <;> exact h) ?_
      (refine ord_flo (pick_cons rfl (pick_cons rfl (pick_cons rfl (pick_cons rfl (pick_cons rfl (pick_cons rfl pick_nil)))))) ?_; (repeat (go_big_quiet_step (fail))); refine wpQuiet_nil ?_; show ordWalk _ _ _ _ _ _ _)
      refine ord_one (pick_cons rfl pick_nil) ?_; intro K_ hK_
      go_wp2_with (go_at_call 119; go_loud (refine (urleq_at x.t.e e x.t.A At tx nt x.t.c ct x.t.l lt _ HB (HTX.out _ X) (HT.out _ X)).mono ?_); rintro r w1 ⟨rfl, x1⟩)
      refine ord_fin ?_
      cases b with
      | true =>
        have P0 : ∀ z : Xt w1, z.W.cell? (ad.add (i * 4)) = some (.slice x.A nx x.c) := fun z => P0 ⟨z.W, x1.trans z.x⟩
        have P3 : ∀ z : Xt w1, z.W.cell? ⟨(ad.add (i * 4)).block, (ad.add (i * 4)).off + 3, none⟩ = some (.int .i64 x.d) := fun z => P3 ⟨z.W, x1.trans z.x⟩
        have HP1 := Lib.hid ((HP.out.own.ext (X.trans x1)))
        have HE1 := Lib.hid (HP.out.ext.trans (X.trans x1))
        clear P1 P2 t0 t1 X
        have X : Ext w1 w1.drew := (Ext.refl w1).drew
        have P0 : ∀ z : Xt w1.drew, z.W.cell? (ad.add (i * 4)) = some (.slice x.A nx x.c) := fun z => P0 ⟨z.W, X.trans z.x⟩
        have P3 : ∀ z : Xt w1.drew, z.W.cell? ⟨(ad.add (i * 4)).block, (ad.add (i * 4)).off + 3, none⟩ = some (.int .i64 x.d) := fun z => P3 ⟨z.W, X.trans z.x⟩
        have hw1 : wb.heap.size ≤ w1.heap.size := HE1.out.size
        go_upto_region 6 with fail
        refine wp_region_ord [0,0,0,6,14,30,0,0,192,448,960,2046,4094,8191,16383] (.pur [0] (.flo [1,2,3,4,5,6,7,8,9,10,11] (.one 12 (.one 13 (.flo [14] (.fin)))))) (by kernel_rfl) (by kernel_rfl) (by intro _ _ d _ _ h; cases d <;> exact h) ?_
        (refine ord_pur (pick_cons rfl pick_nil) ?_; (repeat (go_big_quiet_step (fail))); refine wpQuiet_nil ?_; show ordWalk _ _ _ _ _ _ _)
        (refine ord_flo (pick_cons rfl (pick_cons rfl (pick_cons rfl (pick_cons rfl (pick_cons rfl (pick_cons rfl (pick_cons rfl (pick_cons rfl (pick_cons rfl (pick_cons rfl (pick_cons rfl pick_nil))))))))))) ?_; (repeat (go_big_quiet_step (fail))); refine wpQuiet_nil ?_; show ordWalk _ _ _ _ _ _ _)
        refine ord_one (pick_cons rfl pick_nil) ?_; intro K_ hK_
        go_wp2
        refine ord_one (pick_cons rfl pick_nil) ?_; intro K_ hK_
        go_wp2_with (at_builtin; go_loud (refine wpList_append_two _ elem_ct wb.heap.size _ _ rfl rfl A3 m c3 (ctsC (atU (L.take i) (e, lt))) rfl ((HP1.out.ext X).alloc _) (some ⟨w1.heap.size, 0, none⟩) 1 1 [.slice x.A nx x.c, .int .i64 x.d] rfl (sl_ct _ _ _ _) (by intro u hu; simp at hu; rcases hu with rfl | rfl <;> rfl) (by omega) (by decide) (by simp; omega) ?_); intro A6 c6 w6 o6 g6 h6; clear h6; have HQ6 : Hid (UAtI wb w6 L (e, lt) (i + 1) A6 (m + 1) c6) := Lib.hid (HP.out.more HIL.out HX.out HB.out rfl (by have := o6; rwa [HNX.out] at this) (((HE1.out.trans X).alloc _).grown g6 (fun k e => (HP1.out.lt k e).1))); clear o6 g6)
        go_simp
        (refine ord_flo (pick_cons rfl pick_nil) ?_; (repeat (go_big_quiet_step (fail))); refine wpQuiet_nil ?_; show ordWalk _ _ _ _ _ _ _)
        refine ord_fin ?_
        go_wp2
        go_roundg (n - (i + 1))
        case measure => omega
        case rel => exact ⟨i + 1, m + 1, c6, A6, rfl, by omega, by omega, rfl, by go_num, HQ6⟩
      | false =>
        have HQ6 : Hid (UAtI wb w1 L (e, lt) (i + 1) A3 m c3) := Lib.hid (HP.out.skip HIL.out HX.out HB.out (X.trans x1))
        go_wp2
        go_roundg (n - (i + 1))
        case measure => omega
        case rel => exact ⟨i + 1, m, c3, A3, rfl, by omega, by omega, rfl, by go_num, HQ6⟩
    · obtain rfl : i = n := by omega
      have XW := XB.out.trans HP.out.ext
      have ea : atU (L.take i) (e, lt) = atU L (e, lt) := by rw [List.take_of_length_le (by rw [← hn.out]; exact Nat.le_refl _)]
      have HC : Hid (Ctin wr A3 c3 (atU L (e, lt))) := Lib.hid ⟨by have := HP.out.own.sl; have q := HP.out.len; rw [ea] at this q; rwa [q] at this, fun y hy => by
        obtain ⟨x, hx, rfl⟩ := List.mem_map.1 hy
        exact (h.out.ls x (List.mem_filter.1 hx).1).r.ext XW⟩
      have HM : Hid (m = (atU L (e, lt)).length) := Lib.hid (by rw [← ea]; exact HP.out.len)
      have HV : Hid (sumV ((atU L (e, lt)).map valC) = U) := Lib.hid (by rw [atU_val]; exact hU.out)
      have HXW := Lib.hid XW
      clear ea XW
      go_wp2_with (go_at_call 120; go_loud (refine (refSum_any A3 c3 m (atU L (e, lt)) _ HM.out HC.out (by omega)).mono ?_); rintro r w2 hr; have HR := Lib.hid (AddR.late hr HXW.out HV.out); obtain ⟨A2, m2, c2, R2, rfl, hr2⟩ := hr; clear hr2)
      go_ret
      exact HR.out
/-- counters that a call has handed back: as they came in, or in memory of their own -/
def TmOld (w wr : World) (x : Ud) : Prop := Sl w 1 x.t.A x.t.l.length x.t.c (wds x.t.l) ∨ Own wr w.heap.size 180 1 x.t.A x.t.l.length x.t.c (wds x.t.l)
/-- so far: the list with the new times -/
structure RAdvI (w wr : World) (S : List TV) (L : List Ud) (i : Nat) (A : Option Addr) (m c : Nat) (K : List Ud) : Prop where
  own : Own wr w.heap.size 95 4 A m c (udsC K)
  len : m = K.length
  ls : ∀ x ∈ K, Rw w x.A x.c x.l ∧ TmOld w wr x
  vals : K.map Ud.uv = ((L.take i).map Ud.uv).map (advK S)
  ext : Ext w wr
theorem RAdvI.more {w wr w2 w6 : World} {S : List TV} {L K : List Ud} {i m c c6 m6 : Nat} {A A6 : Option Addr} {x z : Ud} {ob : Obj} (h : RAdvI w wr S L i A m c K) (hi : i < L.length) (hx : L.getD i Ud.zero = x) (hz : z.uv = advK S x.uv) (hm : m6 = m + 1) (x2 : Ext wr w2) (hr : Rw w z.A z.c z.l) (ht : TmOld w w2 z)
    (o : Own w6 w.heap.size 95 4 A6 m6 c6 (udsC K ++ udC z)) (g : (w2.alloc ob).grownBy w6 (blk A c)) : RAdvI w w6 S L (i + 1) A6 m6 c6 (K ++ [z]) := by
  have kept : ∀ {k0 s : Nat} {e : TypeId} {A' : Option Addr} {n' c' : Nat} {xs : List Value}, e ≠ 95 → Own w2 k0 e s A' n' c' xs → Own w6 k0 e s A' n' c' xs := fun {k0 s e A' n' c' xs} he o => (o.alloc ob).kept g (by
    cases hb : blk A' c' with
    | none => exact .inl rfl
    | some k => exact .inr (fun q => own_types o (h.own.ext x2) he hb q.symm))
  have old : ∀ y, TmOld w w2 y → TmOld w w6 y := fun y hy => by
    rcases hy with hy | hy
    · exact .inl hy
    · exact .inr (kept udtype_word hy)
  refine ⟨by rw [udsC_append, show udsC [z] = udC z by simp [udsC]]; exact o, by rw [List.length_append, hm, h.len]; rfl, fun y hy => ?_, ?_, ((h.ext.trans x2).alloc _).grown g (fun k e => (h.own.lt k e).1)⟩
  · rcases List.mem_append.1 hy with hy | hy
    · obtain ⟨h1, h2⟩ := h.ls y hy
      refine ⟨h1, old y ?_⟩
      rcases h2 with h2 | h2
      · exact .inl h2
      · exact .inr (h2.ext x2)
    · rw [List.mem_singleton.1 hy]; exact ⟨hr, old z ht⟩
  · rw [takeU hi, hx, List.map_append, List.map_append, List.map_append, h.vals, List.map_singleton, List.map_singleton, List.map_singleton, hz]
end Go.Proofs.YtdgbkpoickbidaaGreatDoor
