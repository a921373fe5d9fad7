/- penstockref10: At, Advance. DeltaTells: the walk. Conditions: each theorem states its own. -/
import Derived.Test.YtdgbkpoickbidaaGreatDoorDt7
import Derived.Test.YtdgbkpoickbidaaGreatDoorDt9
import Derived.Test.YtdgbkpoickbidaaGreatDoorDt8
import Derived.Test.YtdgbkpoickbidaaGreatDoorDt5
namespace Go.Proofs.YtdgbkpoickbidaaGreatDoor
open Go.RowKit

theorem urleq_at {b : Bool} (e1 e2 : Int) (A1 A2 : Option Addr) (n1 n2 c1 c2 : Nat) (l1 l2 : List Int) (w : World) (hb : Hid (leqT e1 l1 e2 l2 = b)) (h1 : Sl w 1 A1 n1 c1 (wds l1)) (h2 : Sl w 1 A2 n2 c2 (wds l2)) :
    Calls Tryz.prog 119 #[.agg #[.int .u64 e1, .slice A1 n1 c1], .agg #[.int .u64 e2, .slice A2 n2 c2]] w fun e w' => e = .returned (.bool b) ∧ Ext w w' := hb.out ▸ rleq_any e1 e2 A1 A2 n1 n2 c1 c2 l1 l2 w h1 h2
theorem AddR.late {w w0 w' : World} {U0 U : List V} {e : Ending} (h : AddR w0 U0 e w') (x : Ext w w0) (hv : U0 = U) : AddR w U e w' := by
  subst hv
  obtain ⟨A, m, c, M, e1, e2, i, v, x2⟩ := h
  exact ⟨A, m, c, M, e1, e2, i, v, x.trans x2⟩
theorem AddU.late {w w0 w' : World} {U : List UV} {e : Ending} (h : AddU w0 U e w') (x : Ext w w0) : AddU w U e w' := by
  obtain ⟨A, m, c, M, e1, e2, i, v, x2⟩ := h
  exact ⟨A, m, c, M, e1, e2, i, v, x.trans x2⟩
set_option maxRecDepth 100000 in
set_option maxHeartbeats 8000000 in
theorem refAt10_any {U : List V} (A : Option Addr) (c n : Nat) (L : List Ud) (e : Int) (At : Option Addr) (nt ct : Nat) (lt : List Int) (w : World) (hU : Hid (sumV (atV (L.map Ud.uv) (e, lt)) = U)) (hn : Hid (n = L.length)) (h : Hid (Uin w A c L)) (h9 : n ≤ 900000) (ht : Hid (Sl w 1 At nt ct (wds lt))) :
    Calls Tryz.prog 26 #[.slice A n c, .agg #[.int .u64 e, .slice At nt ct]] w (AddR w U) := by
  go_enter Tryz.func26, Tryz.ntmps26
  go_wp2
  obtain ⟨wb, hwb⟩ : ∃ wb, wb = w.alloc (.cells #[.int .u64 e, .slice At nt ct] 26) := ⟨_, rfl⟩
  have XB : Hid (Ext w wb) := Lib.hid (by rw [hwb]; exact (Ext.refl _).alloc _)
  have BT : Hid (Bk wb w.heap.size 26 #[.int .u64 e, .slice At nt ct]) := Lib.hid (by rw [hwb]; exact Bk.new _ _ _)
  rw [← hwb]
  clear hwb
  obtain ⟨gt, hgt⟩ : ∃ k, k = w.heap.size := ⟨_, rfl⟩
  rw [← hgt] at BT ⊢
  clear hgt
  have HP0 : Hid (UAtI wb wb L (e, lt) 0 none 0 0) := Lib.hid ⟨rfl, Own.nil _ _ _ _, Ext.refl _⟩
  go_loopg [5, 6] n (fun z u v wr => ∃ (i m c3 : Nat) (A3 : Option Addr), z = n - i ∧ i ≤ n ∧ m ≤ i ∧ u = .slice A3 m c3 ∧ v = .int .i64 i ∧ Hid (UAtI wb wr L (e, lt) i A3 m c3))
  case atStart => exact ⟨0, 0, 0, none, rfl, Nat.zero_le _, Nat.le_refl _, rfl, rfl, HP0⟩
  case round =>
    clear HP0
    obtain ⟨i, m, c3, A3, rfl, hi, hmi, rfl, rfl, HP⟩ := hrel
    by_cases hlt : i < n
    · have hil : i < L.length := by rw [← hn.out]; exact hlt
      have XW := XB.out.trans HP.out.ext
      obtain ⟨ad, rfl, p0, p1, p2, p3⟩ := (h.out.ext XW).at hil
      have hm := getU_mem hil
      obtain ⟨x, hx⟩ : ∃ x, L.getD i Ud.zero = x := ⟨_, rfl⟩
      rw [hx] at p0 p1 p2 p3 hm
      obtain ⟨nx, hnx⟩ : ∃ nx, nx = x.l.length := ⟨_, rfl⟩
      obtain ⟨tx, htx⟩ : ∃ tx, tx = x.t.l.length := ⟨_, rfl⟩
      rw [← hnx] at p0
      rw [← htx] at p2
      have HNX := Lib.hid hnx
      have HX := Lib.hid hx
      have HIL := Lib.hid hil
      have HTX : Hid (∀ W, Ext wr W → Sl W 1 x.t.A tx x.t.c (wds x.t.l)) := Lib.hid (fun W q => by rw [htx]; exact ((h.out.ls x hm).t.ext XW).ext q)
      have HT : Hid (∀ W, Ext wr W → Sl W 1 At nt ct (wds lt)) := Lib.hid (fun W q => (ht.out.ext XW).ext q)
      have X : Ext wr wr.drew := (Ext.refl wr).drew
      have t0 : ∀ z : Xt wr.drew, z.W.cell? ⟨gt, 0, none⟩ = some (.int .u64 e) := fun z => (BT.out.ext ((HP.out.ext.trans X).trans z.x)).cell 0
      have t1 : ∀ z : Xt wr.drew, z.W.cell? ⟨gt, 1, none⟩ = some (.slice At nt ct) := fun z => (BT.out.ext ((HP.out.ext.trans X).trans z.x)).cell 1
      have P0 : ∀ z : Xt wr.drew, z.W.cell? (ad.add (i * 4)) = some (.slice x.A nx x.c) := fun z => (X.trans z.x).cell p0
      have P1 : ∀ z : Xt wr.drew, z.W.cell? ⟨(ad.add (i * 4)).block, (ad.add (i * 4)).off + 1, none⟩ = some (.int .u64 x.t.e) := fun z => (X.trans z.x).cell p1
      have P2 : ∀ z : Xt wr.drew, z.W.cell? ⟨(ad.add (i * 4)).block, (ad.add (i * 4)).off + 2, none⟩ = some (.slice x.t.A tx x.t.c) := fun z => (X.trans z.x).cell p2
      have P3 : ∀ z : Xt wr.drew, z.W.cell? ⟨(ad.add (i * 4)).block, (ad.add (i * 4)).off + 3, none⟩ = some (.int .i64 x.d) := fun z => (X.trans z.x).cell p3
      obtain ⟨b, hb⟩ : ∃ b, leqT x.t.e x.t.l e lt = b := ⟨_, rfl⟩
      have HB := Lib.hid hb
      clear hil hm hx hnx htx hb XW p0 p1 p2 p3
      go_upto_region 5 with fail
      refine wp_region_ord [0,0,3,7,15,0,63] (.flo [0,1,2,3,4,5] (.one 6 (.fin))) (by kernel_rfl) (by kernel_rfl) (by intro _ _ d _ _ h; cases d <;> exact h) ?_
      (refine ord_flo (pick_cons rfl (pick_cons rfl (pick_cons rfl (pick_cons rfl (pick_cons rfl (pick_cons rfl pick_nil)))))) ?_; (repeat (go_big_quiet_step (fail))); refine wpQuiet_nil ?_; show ordWalk _ _ _ _ _ _ _)
      refine ord_one (pick_cons rfl pick_nil) ?_; intro K_ hK_
      go_wp2_with (go_at_call 119; go_loud (refine (urleq_at x.t.e e x.t.A At tx nt x.t.c ct x.t.l lt _ HB (HTX.out _ X) (HT.out _ X)).mono ?_); rintro r w1 ⟨rfl, x1⟩)
      refine ord_fin ?_
      cases b with
      | true =>
        have P0 : ∀ z : Xt w1, z.W.cell? (ad.add (i * 4)) = some (.slice x.A nx x.c) := fun z => P0 ⟨z.W, x1.trans z.x⟩
        have P3 : ∀ z : Xt w1, z.W.cell? ⟨(ad.add (i * 4)).block, (ad.add (i * 4)).off + 3, none⟩ = some (.int .i64 x.d) := fun z => P3 ⟨z.W, x1.trans z.x⟩
        have HP1 := Lib.hid ((HP.out.own.ext (X.trans x1)))
        have HE1 := Lib.hid (HP.out.ext.trans (X.trans x1))
        clear P1 P2 t0 t1 X
        have X : Ext w1 w1.drew := (Ext.refl w1).drew
        have P0 : ∀ z : Xt w1.drew, z.W.cell? (ad.add (i * 4)) = some (.slice x.A nx x.c) := fun z => P0 ⟨z.W, X.trans z.x⟩
        have P3 : ∀ z : Xt w1.drew, z.W.cell? ⟨(ad.add (i * 4)).block, (ad.add (i * 4)).off + 3, none⟩ = some (.int .i64 x.d) := fun z => P3 ⟨z.W, X.trans z.x⟩
        have hw1 : wb.heap.size ≤ w1.heap.size := HE1.out.size
        go_upto_region 6 with fail
        refine wp_region_ord [0,0,0,6,14,30,0,0,192,448,960,2046,4094,8191,16383] (.pur [0] (.flo [1,2,3,4,5,6,7,8,9,10,11] (.one 12 (.one 13 (.flo [14] (.fin)))))) (by kernel_rfl) (by kernel_rfl) (by intro _ _ d _ _ h; cases d <;> exact h) ?_
        (refine ord_pur (pick_cons rfl pick_nil) ?_; (repeat (go_big_quiet_step (fail))); refine wpQuiet_nil ?_; show ordWalk _ _ _ _ _ _ _)
        (refine ord_flo (pick_cons rfl (pick_cons rfl (pick_cons rfl (pick_cons rfl (pick_cons rfl (pick_cons rfl (pick_cons rfl (pick_cons rfl (pick_cons rfl (pick_cons rfl (pick_cons rfl pick_nil))))))))))) ?_; (repeat (go_big_quiet_step (fail))); refine wpQuiet_nil ?_; show ordWalk _ _ _ _ _ _ _)
        refine ord_one (pick_cons rfl pick_nil) ?_; intro K_ hK_
        go_wp2
        refine ord_one (pick_cons rfl pick_nil) ?_; intro K_ hK_
        go_wp2_with (at_builtin; go_loud (refine wpList_append_two _ elem_ct wb.heap.size _ _ rfl rfl A3 m c3 (ctsC (atU (L.take i) (e, lt))) rfl ((HP1.out.ext X).alloc _) (some ⟨w1.heap.size, 0, none⟩) 1 1 [.slice x.A nx x.c, .int .i64 x.d] rfl (sl_ct _ _ _ _) (by intro u hu; simp at hu; rcases hu with rfl | rfl <;> rfl) (by omega) (by decide) (by simp; omega) ?_); intro A6 c6 w6 o6 g6 h6; clear h6; have HQ6 : Hid (UAtI wb w6 L (e, lt) (i + 1) A6 (m + 1) c6) := Lib.hid (HP.out.more HIL.out HX.out HB.out rfl (by have := o6; rwa [HNX.out] at this) (((HE1.out.trans X).alloc _).grown g6 (fun k e => (HP1.out.lt k e).1))); clear o6 g6)
        go_simp
        (refine ord_flo (pick_cons rfl pick_nil) ?_; (repeat (go_big_quiet_step (fail))); refine wpQuiet_nil ?_; show ordWalk _ _ _ _ _ _ _)
        refine ord_fin ?_
        go_wp2
        go_roundg (n - (i + 1))
        case measure => omega
        case rel => exact ⟨i + 1, m + 1, c6, A6, rfl, by omega, by omega, rfl, by go_num, HQ6⟩
      | false =>
        have HQ6 : Hid (UAtI wb w1 L (e, lt) (i + 1) A3 m c3) := Lib.hid (HP.out.skip HIL.out HX.out HB.out (X.trans x1))
        go_wp2
        go_roundg (n - (i + 1))
        case measure => omega
        case rel => exact ⟨i + 1, m, c3, A3, rfl, by omega, by omega, rfl, by go_num, HQ6⟩
    · obtain rfl : i = n := by omega
      have XW := XB.out.trans HP.out.ext
      have ea : atU (L.take i) (e, lt) = atU L (e, lt) := by rw [List.take_of_length_le (by rw [← hn.out]; exact Nat.le_refl _)]
      have HC : Hid (Ctin wr A3 c3 (atU L (e, lt))) := Lib.hid ⟨by have := HP.out.own.sl; have q := HP.out.len; rw [ea] at this q; rwa [q] at this, fun y hy => by
        obtain ⟨x, hx, rfl⟩ := List.mem_map.1 hy
        exact (h.out.ls x (List.mem_filter.1 hx).1).r.ext XW⟩
      have HM : Hid (m = (atU L (e, lt)).length) := Lib.hid (by rw [← ea]; exact HP.out.len)
      have HV : Hid (sumV ((atU L (e, lt)).map valC) = U) := Lib.hid (by rw [atU_val]; exact hU.out)
      have HXW := Lib.hid XW
      clear ea XW
      go_wp2_with (go_at_call 120; go_loud (refine (refSum_any A3 c3 m (atU L (e, lt)) _ HM.out HC.out (by omega)).mono ?_); rintro r w2 hr; have HR := Lib.hid (AddR.late hr HXW.out HV.out); obtain ⟨A2, m2, c2, R2, rfl, hr2⟩ := hr; clear hr2)
      go_ret
      exact HR.out
/-- counters that a call has handed back: as they came in, or in memory of their own -/
def TmOld (w wr : World) (x : Ud) : Prop := Sl w 1 x.t.A x.t.l.length x.t.c (wds x.t.l) ∨ Own wr w.heap.size 180 1 x.t.A x.t.l.length x.t.c (wds x.t.l)
/-- so far: the list with the new times -/
structure RAdvI (w wr : World) (S : List TV) (L : List Ud) (i : Nat) (A : Option Addr) (m c : Nat) (K : List Ud) : Prop where
  own : Own wr w.heap.size 95 4 A m c (udsC K)
  len : m = K.length
  ls : ∀ x ∈ K, Rw w x.A x.c x.l ∧ TmOld w wr x
  vals : K.map Ud.uv = ((L.take i).map Ud.uv).map (advK S)
  ext : Ext w wr
theorem RAdvI.udr {w wr : World} {S : List TV} {L K : List Ud} {i m c : Nat} {A : Option Addr} (h : RAdvI w wr S L i A m c K) : ∀ x ∈ K, UdR wr x := fun x hx => by
  obtain ⟨h1, h2⟩ := h.ls x hx
  refine ⟨h1.ext h.ext, ?_⟩
  rcases h2 with h2 | h2
  · exact h2.ext h.ext
  · exact h2.sl
theorem advV_key (S : List TV) (x : Ud) : (advK S x.uv).1.2 = advV S x.t.v := rfl
theorem advStep_u {t x : TV} {acc : Option TV} (ht : U32 t.2) (hx : U32 x.2) (h : ∀ o, acc = some o → U32 o.2) : ∀ o, advStep t acc x = some o → U32 o.2 := by
  intro o ho
  unfold advStep at ho
  split at ho
  · cases acc with
    | none =>
      injection ho with ho
      rw [← ho]
      exact u32_max ht hx
    | some q =>
      injection ho with ho
      rw [← ho]
      exact u32_min (h q rfl) (u32_max ht hx)
  · exact h o ho
theorem advO_u {t : TV} (ht : U32 t.2) : ∀ (a : List TV) (acc : Option TV), (∀ v ∈ a, U32 v.2) → (∀ o, acc = some o → U32 o.2) → ∀ o, a.foldl (advStep t) acc = some o → U32 o.2
  | [], _acc, _, h, o, ho => h o ho
  | x :: a, _acc, ha, h, o, ho => advO_u ht a _ (fun v hv => ha v (List.mem_cons_of_mem _ hv)) (advStep_u ht (ha x (List.mem_cons_self ..)) h) o ho
theorem adv_u32 {S : List TV} {t : TV} (hS : ∀ v ∈ S, U32 v.2) (ht : U32 t.2) : U32 (advV S t).2 := by
  unfold advV
  cases h : advO S t with
  | none => exact ht
  | some o => exact advO_u ht S none hS (fun _ h => nomatch h) o h
theorem uradv_at {v : TV} (AL : Option Addr) (cL m : Nat) (L : List Tm) (e : Int) (A : Option Addr) (n c : Nat) (l : List Int) (w : World) (hv : Hid (advV (L.map Tm.v) (e, l) = v)) (hm : Hid (m = L.length)) (hL : Hid (Tin w AL cL L)) (fL : Hid (Fine L)) (ht : Hid (Sl w 1 A n c (wds l))) (u : U32 l) (h9 : m ≤ 1000000) (hn : n ≤ 100000) :
    Calls Tryz.prog 121 #[.slice AL m cL, .agg #[.int .u64 e, .slice A n c]] w fun r w' => ∃ A' c', r = .returned (.agg #[.int .u64 v.1, .slice A' n c']) ∧ ((A' = A ∧ c' = c ∧ v = (e, l)) ∨ Own w' w.heap.size 180 1 A' n c' (wds v.2)) ∧ Ext w w' := hv.out ▸ radv5_own AL cL m L e A n c l w hm hL fL ht u h9 hn
theorem RAdvI.more {w wr w2 w6 : World} {S : List TV} {L K : List Ud} {i m c c6 m6 : Nat} {A A6 : Option Addr} {x z : Ud} {ob : Obj} (h : RAdvI w wr S L i A m c K) (hi : i < L.length) (hx : L.getD i Ud.zero = x) (hz : z.uv = advK S x.uv) (hm : m6 = m + 1) (x2 : Ext wr w2) (hr : Rw w z.A z.c z.l) (ht : TmOld w w2 z)
    (o : Own w6 w.heap.size 95 4 A6 m6 c6 (udsC K ++ udC z)) (g : (w2.alloc ob).grownBy w6 (blk A c)) : RAdvI w w6 S L (i + 1) A6 m6 c6 (K ++ [z]) := by
  have kept : ∀ {k0 s : Nat} {e : TypeId} {A' : Option Addr} {n' c' : Nat} {xs : List Value}, e ≠ 95 → Own w2 k0 e s A' n' c' xs → Own w6 k0 e s A' n' c' xs := fun {k0 s e A' n' c' xs} he o => (o.alloc ob).kept g (by
    cases hb : blk A' c' with
    | none => exact .inl rfl
    | some k => exact .inr (fun q => own_types o (h.own.ext x2) he hb q.symm))
  have old : ∀ y, TmOld w w2 y → TmOld w w6 y := fun y hy => by
    rcases hy with hy | hy
    · exact .inl hy
    · exact .inr (kept udtype_word hy)
  refine ⟨by rw [udsC_append, show udsC [z] = udC z by simp [udsC]]; exact o, by rw [List.length_append, hm, h.len]; rfl, fun y hy => ?_, ?_, ((h.ext.trans x2).alloc _).grown g (fun k e => (h.own.lt k e).1)⟩
  · rcases List.mem_append.1 hy with hy | hy
    · obtain ⟨h1, h2⟩ := h.ls y hy
      refine ⟨h1, old y ?_⟩
      rcases h2 with h2 | h2
      · exact .inl h2
      · exact .inr (h2.ext x2)
    · rw [List.mem_singleton.1 hy]; exact ⟨hr, old z ht⟩
  · rw [takeU hi, hx, List.map_append, List.map_append, List.map_append, h.vals, List.map_singleton, List.map_singleton, List.map_singleton, hz]
set_option maxRecDepth 100000 in
set_option maxHeartbeats 8000000 in
theorem refAdv10_any {V : List UV} (A : Option Addr) (c n : Nat) (L : List Ud) (AS : Option Addr) (cS nS : Nat) (S : List Tm) (w : World) (hV : Hid (UdS.sumV ((L.map Ud.uv).map (advK (S.map Tm.v))) = V)) (hn : Hid (n = L.length)) (h : Hid (Uin w A c L)) (h9 : n ≤ 900000) (hin : Hid (∀ x ∈ L, InU x)) (hnS : Hid (nS = S.length)) (hS : Hid (Tin w AS cS S)) (fS : Hid (Fine S)) (h9S : nS ≤ 1000000) :
    Calls Tryz.prog 27 #[.slice A n c, .slice AS nS cS] w (AddU w V) := by
  have HP0 : Hid (RAdvI w w (S.map Tm.v) L 0 none 0 0 []) := Lib.hid ⟨Own.nil _ _ _ _, rfl, fun x hx => (nomatch hx), rfl, Ext.refl _⟩
  go_enter Tryz.func27, Tryz.ntmps27
  go_wp2
  go_loopg [5, 6] n (fun z u v wr => ∃ (i m c3 : Nat) (A3 : Option Addr) (K : List Ud), z = n - i ∧ i ≤ n ∧ m ≤ i ∧ u = .slice A3 m c3 ∧ v = .int .i64 i ∧ Hid (RAdvI w wr (S.map Tm.v) L i A3 m c3 K))
  case atStart => exact ⟨0, 0, 0, none, [], rfl, Nat.zero_le _, Nat.le_refl _, rfl, rfl, HP0⟩
  case round =>
    clear HP0
    obtain ⟨i, m, c3, A3, K, rfl, hi, hmi, rfl, rfl, HP⟩ := hrel
    by_cases hlt : i < n
    · have hil : i < L.length := by rw [← hn.out]; exact hlt
      obtain ⟨ad, rfl, p0, p1, p2, p3⟩ := (h.out.ext HP.out.ext).at hil
      have hm := getU_mem hil
      obtain ⟨x, hx⟩ : ∃ x, L.getD i Ud.zero = x := ⟨_, rfl⟩
      rw [hx] at p0 p1 p2 p3 hm
      obtain ⟨nx, hnx⟩ : ∃ nx, nx = x.l.length := ⟨_, rfl⟩
      obtain ⟨tx, htx⟩ : ∃ tx, tx = x.t.l.length := ⟨_, rfl⟩
      rw [← hnx] at p0
      rw [← htx] at p2
      have HX := Lib.hid hx
      have HIL := Lib.hid hil
      have HNX := Lib.hid hnx
      have HUX : Hid (∀ W, Ext wr W → UdR W x) := Lib.hid (fun W q => ((h.out.ls x hm).ext HP.out.ext).ext q)
      have HTX : Hid (∀ W, Ext wr W → Sl W 1 x.t.A tx x.t.c (wds x.t.l)) := Lib.hid (fun W q => by rw [htx]; exact (HUX.out W q).t)
      have HXT : Hid (Sl w 1 x.t.A x.t.l.length x.t.c (wds x.t.l)) := Lib.hid (h.out.ls x hm).t
      have HXR : Hid (Rw w x.A x.c x.l) := Lib.hid (h.out.ls x hm).r
      have htx9 : tx ≤ 100000 := by rw [htx]; exact (hin.out x hm).tn
      have UX := Lib.hid (hin.out x hm).tu
      obtain ⟨v, hv⟩ : ∃ v, advV (S.map Tm.v) (x.t.e, x.t.l) = v := ⟨_, rfl⟩
      have HV := Lib.hid hv
      have HVL : Hid (tx = v.2.length) := Lib.hid (by rw [← hv, advV_len]; exact htx)
      have XA : Ext wr (wr.alloc (.cells #[.slice x.A nx x.c, .int .u64 x.t.e, .slice x.t.A tx x.t.c, .int .i64 x.d] 95)) := (Ext.refl wr).alloc _
      have BX : Hid (Bk (wr.alloc (.cells #[.slice x.A nx x.c, .int .u64 x.t.e, .slice x.t.A tx x.t.c, .int .i64 x.d] 95)) wr.heap.size 95 #[.slice x.A nx x.c, .int .u64 x.t.e, .slice x.t.A tx x.t.c, .int .i64 x.d]) := Lib.hid (Bk.new _ _ _)
      have HST : Hid (∀ W, Ext wr W → Tin W AS cS S) := Lib.hid (fun W q => (hS.out.ext HP.out.ext).ext q)
      have hww : w.heap.size ≤ wr.heap.size := HP.out.ext.size
      clear hil hm hx hnx htx hv
      go_upto_region 7 with (first
        | (go_at_call 121; go_loud (refine (uradv_at AS cS nS S x.t.e x.t.A tx x.t.c x.t.l _ HV hnS (Lib.hid (HST.out _ XA)) fS (Lib.hid (HTX.out _ XA)) UX.out h9S htx9).mono ?_); rintro r w1 ⟨A1, c1, rfl, s1, x1⟩; have HS1 := Lib.hid s1; have X1 := Lib.hid (XA.trans x1); have B1 := Lib.hid (BX.out.ext x1); have y1 := B1.out.cell 1; have y2 := B1.out.cell 2; have f1 := B1.out.free 1; have f2 := B1.out.free 2; clear s1 x1)
        | fail)
      obtain ⟨w2, hw2⟩ : ∃ w2, w2 = (w1.setCell ⟨wr.heap.size, 1, none⟩ (.int .u64 v.1)).setCell ⟨wr.heap.size, 2, none⟩ (.slice A1 tx c1) := ⟨_, rfl⟩
      have B2 : Hid (Bk w2 wr.heap.size 95 #[.slice x.A nx x.c, .int .u64 v.1, .slice A1 tx c1, .int .i64 x.d]) := Lib.hid (by rw [hw2]; exact (B1.out.set 1 _).set 2 _)
      have X2 : Hid (Ext wr w2) := Lib.hid (by rw [hw2]; exact (X1.out.set (p := ⟨wr.heap.size, 1, none⟩) (Nat.le_refl _) _).set (p := ⟨wr.heap.size, 2, none⟩) (Nat.le_refl _) _)
      have HZ : Hid (TmOld w w2 ⟨x.A, x.c, x.l, ⟨v.1, A1, c1, v.2⟩, x.d⟩) := Lib.hid (by
        rcases HS1.out with ⟨e1, e2, e3⟩ | o1
        · rw [e1, e2, e3]
          exact .inl HXT.out
        · refine .inr ?_
          show Own w2 w.heap.size _ 1 A1 v.2.length c1 (wds v.2)
          rw [← HVL.out, hw2]
          exact ((o1.far (o1.ne (k := wr.heap.size) (by simp)) _).far (o1.ne (k := wr.heap.size) (by simp)) _).mono (by simp; omega))
      rw [← hw2]
      have d0 := B2.out.cell 0
      have d1 := B2.out.cell 1
      have d2 := B2.out.cell 2
      have d3 := B2.out.cell 3
      clear hw2 y1 y2 f1 f2 p0 p1 p2 p3
      go_wp2_with (at_builtin; go_loud (refine wpList_append_two _ elem_ud w.heap.size _ _ rfl rfl A3 m c3 (udsC K) rfl ((HP.out.own.ext X2.out).alloc _) (some ⟨w2.heap.size, 0, none⟩) 1 1 [.slice x.A nx x.c, .int .u64 v.1, .slice A1 tx c1, .int .i64 x.d] rfl (Sl.one w2 #[.slice x.A nx x.c, .int .u64 v.1, .slice A1 tx c1, .int .i64 x.d] 95 4 rfl) (by intro u hu; simp at hu; rcases hu with rfl | rfl | rfl | rfl <;> rfl) (by omega) (by decide) (by have := X2.out.size; simp; omega) ?_); intro A6 c6 w6 o6 g6 h6; clear h6; have HQ6 : Hid (RAdvI w w6 (S.map Tm.v) L (i + 1) A6 (m + 1) c6 (K ++ [⟨x.A, x.c, x.l, ⟨v.1, A1, c1, v.2⟩, x.d⟩])) := Lib.hid (HP.out.more HIL.out HX.out (by show (((x.l, (v.1, v.2)), x.d) : UV) = ((x.l, advV (S.map Tm.v) x.t.v), x.d); rw [show advV (S.map Tm.v) x.t.v = v from HV.out]) rfl X2.out HXR.out HZ.out (by have := o6; rw [HNX.out, HVL.out] at this; exact this) g6); clear o6 g6)
      go_roundg (n - (i + 1))
      case measure => omega
      case rel => exact ⟨i + 1, m + 1, c6, A6, _, rfl, by omega, by omega, rfl, by go_num, HQ6⟩
    · obtain rfl : i = n := by omega
      have hvals : K.map Ud.uv = (L.map Ud.uv).map (advK (S.map Tm.v)) := by have := HP.out.vals; rwa [List.take_of_length_le (by rw [← hn.out]; exact Nat.le_refl _)] at this
      have HN : Hid (m = K.length) := Lib.hid HP.out.len
      have HU : Hid (Uin wr A3 c3 K) := Lib.hid ⟨by have := HP.out.own.sl; rwa [HP.out.len] at this, HP.out.udr⟩
      have hpick : ∀ y ∈ K, ∃ x ∈ L, y.uv = advK (S.map Tm.v) x.uv := fun y hy => by
        have : y.uv ∈ K.map Ud.uv := List.mem_map.2 ⟨y, hy, rfl⟩
        rw [hvals, List.map_map] at this
        obtain ⟨x, hx, e⟩ := List.mem_map.1 this
        exact ⟨x, hx, e.symm⟩
      have HI : Hid (∀ y ∈ K, UdS.InN y.uv) := Lib.hid (fun y hy => by
        obtain ⟨x, hx, e⟩ := hpick y hy
        rw [e]
        exact (hin.out x hx).num)
      have HL : Hid (∀ y ∈ K, U32 y.t.l ∧ y.t.l.length ≤ 1000000) := Lib.hid (fun y hy => by
        obtain ⟨x, hx, e⟩ := hpick y hy
        have e2 : y.t.l = (advV (S.map Tm.v) x.t.v).2 := congrArg (fun q : UV => q.1.2.2) e
        rw [e2]
        refine ⟨adv_u32 (fun v hv => ?_) (hin.out x hx).tu, ?_⟩
        · obtain ⟨t, ht, rfl⟩ := List.mem_map.1 hv
          exact (fS.out t ht).1
        · rw [advV_len]
          exact Nat.le_trans (hin.out x hx).tn (by decide))
      have HV : Hid (UdS.sumV (K.map Ud.uv) = V) := Lib.hid (by rw [hvals]; exact hV.out)
      have HX := Lib.hid HP.out.ext
      clear hvals hpick HP
      go_wp2_with (go_at_call 24; go_loud (refine (refSum10_any A3 c3 m K _ HV HN HU (by omega) HI HL).mono ?_); rintro r w2 hr; have HR := Lib.hid (AddU.late hr HX.out); obtain ⟨A2, m2, c2, R2, rfl, hr2⟩ := hr; clear hr2)
      go_ret
      exact HR.out
end Go.Proofs.YtdgbkpoickbidaaGreatDoor
namespace Go.Proofs.YtdgbkpoickbidaaGreatDoor
open Go.RowKit

theorem lentUS_iv {w w' : World} {B g n : Nat} {L : List Ud} (h : LentUs w B g n L) (u : Upd (LentUS g L) w w') : Upd (fun k => B ≤ k ∧ k < w.heap.size) w w' := u.mono (fun _k _ hk => h.iv hk)
theorem delta_own {w v8 : World} {B gb m4 m5 m6 c5 : Nat} {A4 A5 A6 : Option Addr} {R4 R6 : List Ud} {R5 : List Ct} {w_ r_ c_ u_ t_ : En} (h4 : m4 = R4.length) (h5 : m5 = R5.length) (h6 : m6 = R6.length) (n4 : m4 ≤ 200) (n5 : m5 ≤ 200) (n6 : m6 ≤ 200) (s4 : ∀ x ∈ R4, SmallU x.uv) (s5 : ∀ x ∈ R5, (valC x).1.length ≤ 10000) (s6 : ∀ x ∈ R6, SmallU x.uv)
    (T : ToldM w B ([] ++ eW R4 ++ eW R6) ([] ++ eR R4 ++ eC R5 ++ eR R6) ([] ++ [(⟨A5, m5, c5⟩, ctsC R5)]) ([] ++ [(⟨A4, m4, m4⟩, udsC R4)] ++ [(⟨A6, m6, m6⟩, udsC R6)]) []) (T8 : ToldM v8 B ([] ++ eW R4 ++ eW R6) ([] ++ eR R4 ++ eC R5 ++ eR R6) ([] ++ [(⟨A5, m5, c5⟩, ctsC R5)]) ([] ++ [(⟨A4, m4, m4⟩, udsC R4)] ++ [(⟨A6, m6, m6⟩, udsC R6)]) [])
    (hb : BookR w gb (fun k => v8.heap.size ≤ k) ([] ++ R4.map enW ++ R6.map enW) ([] ++ R4.map enR ++ R6.map enR ++ R5.map enC) ([] ++ [⟨A5, m5, c5⟩]) ([] ++ [⟨A4, m4, m4⟩] ++ [⟨A6, m6, m6⟩]) [] w_ r_ c_ u_ t_) (hw : B ≤ w.heap.size) :
    Calls Tryz.prog 29 #[.pointer (some ⟨gb, 0, none⟩)] w fun e w' => e = .returned (.bool true) ∧ Upd (fun k => B ≤ k ∧ k < w.heap.size) w w' := by
  have hp : ([] ++ eR R4 ++ eC R5 ++ eR R6).Perm ([] ++ eR R4 ++ eR R6 ++ eC R5) := by
    rw [List.append_assoc, List.append_assoc ([] ++ eR R4)]
    exact List.Perm.append_left _ List.perm_append_comm
  have T' : ToldM w B ([] ++ eW R4 ++ eW R6) ([] ++ eR R4 ++ eR R6 ++ eC R5) ([] ++ [(⟨A5, m5, c5⟩, ctsC R5)]) ([] ++ [(⟨A4, m4, m4⟩, udsC R4)] ++ [(⟨A6, m6, m6⟩, udsC R6)]) [] := ⟨T.pw, T.pr.perm hp, T.pc, T.pu, T.pt⟩
  have T8' : ToldM v8 B ([] ++ eW R4 ++ eW R6) ([] ++ eR R4 ++ eR R6 ++ eC R5) ([] ++ [(⟨A5, m5, c5⟩, ctsC R5)]) ([] ++ [(⟨A4, m4, m4⟩, udsC R4)] ++ [(⟨A6, m6, m6⟩, udsC R6)]) [] := ⟨T8.pw, T8.pr.perm hp, T8.pc, T8.pu, T8.pt⟩
  have ew : ([] ++ eW R4 ++ eW R6 : List (En × List Value)).map (·.1) = [] ++ R4.map enW ++ R6.map enW := by rw [List.map_append, List.map_append, eW_fst, eW_fst]; rfl
  have er : ([] ++ eR R4 ++ eR R6 ++ eC R5 : List (En × List Value)).map (·.1) = [] ++ R4.map enR ++ R6.map enR ++ R5.map enC := by rw [List.map_append, List.map_append, List.map_append, eR_fst, eR_fst, eC_fst]; rfl
  refine bookOwn_told T' (Lib.hid hb) ew er rfl rfl rfl T8' (fun k _ hk => by omega) ?_ ?_ ?_ ?_ ?_ hw
  · rw [← ew]
    refine few_P ?_ (fun p hp => ?_)
    · simp only [List.length_append, eW, List.length_map, List.length_nil]; omega
    · simp only [List.nil_append, List.mem_append] at hp
      rcases hp with hp | hp <;> (obtain ⟨x, hx, rfl⟩ := List.mem_map.1 hp)
      · exact Nat.le_trans (s4 x hx).2 (by decide)
      · exact Nat.le_trans (s6 x hx).2 (by decide)
  · rw [← er]
    refine few_P ?_ (fun p hp => ?_)
    · simp only [List.length_append, eR, eC, List.length_map, List.length_nil]; omega
    · simp only [List.nil_append, List.mem_append] at hp
      rcases hp with (hp | hp) | hp <;> (obtain ⟨x, hx, rfl⟩ := List.mem_map.1 hp)
      · exact Nat.le_trans (s4 x hx).1 (by decide)
      · exact Nat.le_trans (s6 x hx).1 (by decide)
      · exact Nat.le_trans (s5 x hx) (by decide)
  · refine ⟨by show 1 ≤ _; omega, fun i hi => ?_⟩
    obtain rfl : i = 0 := by have : i < 1 := hi; omega
    show m5 ≤ _
    omega
  · refine ⟨by show 2 ≤ _; omega, fun i hi => ?_⟩
    have : i < 2 := hi
    rcases (by omega : i = 0 ∨ i = 1) with rfl | rfl
    · show m4 ≤ _; omega
    · show m6 ≤ _; omega
  · exact ⟨Nat.zero_le _, fun i hi => by cases hi⟩
set_option maxRecDepth 100000 in
set_option maxHeartbeats 4000000 in
theorem delta_much (AL : Option Addr) (cL n : Nat) (L : List Ud) (e : Int) (At : Option Addr) (nt ct : Nat) (lt : List Int) (AS : Option Addr) (cS nS : Nat) (S : List Tm) (w : World) (hn : Hid (n = L.length)) (hL : Hid (Uin w AL cL L)) (hnS : Hid (nS = S.length)) (hS : Hid (Tin w AS cS S)) (ht : Hid (Sl w 1 At nt ct (wds lt)))
    (hm : muchU (L.map Ud.uv) = true ∨ (muchU (L.map Ud.uv) = false ∧ farV (S.map Tm.v) = true) ∨ (muchU (L.map Ud.uv) = false ∧ farV (S.map Tm.v) = false ∧ 50 < nt)) :
    Calls Tryz.prog 3 #[.slice AL n cL, .agg #[.int .u64 e, .slice At nt ct], .slice AS nS cS] w fun r w' => r = .returned (.bool true) ∧ Ext w w' := by
  have X0 : Ext w (w.alloc (.cells #[.int .u64 e, .slice At nt ct] 26)) := (Ext.refl _).alloc _
  have HU : Hid (Uin (w.alloc (.cells #[.int .u64 e, .slice At nt ct] 26)) AL cL L) := Lib.hid (hL.out.ext X0)
  have BT : Hid (Bk (w.alloc (.cells #[.int .u64 e, .slice At nt ct] 26)) w.heap.size 26 #[.int .u64 e, .slice At nt ct]) := Lib.hid (Bk.new _ _ _)
  have hcap := ht.out.cap
  go_enter Tryz.func3, Tryz.ntmps3
  rcases hm with h1 | ⟨h1, h2⟩ | ⟨h1, h2, h3⟩
  · have H1 := Lib.hid h1
    clear h1
    go_wp2_with (first
      | (go_at_call 13; go_loud (refine (much10_at AL cL n L _ H1 hn HU).mono ?_); rintro r w1 ⟨rfl, x1⟩)
      | fail)
    go_ret
    exact ⟨rfl, X0.trans x1⟩
  · have H1 := Lib.hid h1
    have H2 := Lib.hid h2
    clear h1 h2
    have m1 : True := trivial
    go_wp2_with (first
      | (go_at_call 13; have mk := m1; clear m1 mk; go_loud (refine (much10_at AL cL n L _ H1 hn HU).mono ?_); rintro r w1 ⟨rfl, x1⟩; have X1 := Lib.hid (X0.trans x1); clear x1; have m2 : True := trivial)
      | (go_at_call 14; have mk := m2; clear m2 mk; go_loud (refine (far10_at AS cS nS S _ H2 hnS (Lib.hid (hS.out.ext X1.out))).mono ?_); rintro r w2 ⟨rfl, x2⟩)
      | fail)
    go_ret
    exact ⟨rfl, X1.out.trans x2⟩
  · have H1 := Lib.hid h1
    have H2 := Lib.hid h2
    have z3 : decide ((50 : Int) < (nt : Int)) = true := decide_eq_true (by omega)
    clear h1 h2
    have m1 : True := trivial
    go_wp2_with (first
      | (go_at_call 13; have mk := m1; clear m1 mk; go_loud (refine (much10_at AL cL n L _ H1 hn HU).mono ?_); rintro r w1 ⟨rfl, x1⟩; have X1 := Lib.hid (X0.trans x1); have B1 := Lib.hid (BT.out.ext x1); clear x1; have m2 : True := trivial)
      | (go_at_call 14; have mk := m2; clear m2 mk; go_loud (refine (far10_at AS cS nS S _ H2 hnS (Lib.hid (hS.out.ext X1.out))).mono ?_); rintro r w2 ⟨rfl, x2⟩; have t1 := (B1.out.ext x2).cell 1)
      | fail)
    go_ret
    exact ⟨rfl, X1.out.trans x2⟩
set_option maxRecDepth 100000 in
set_option maxHeartbeats 32000000 in
theorem delta_main (AL : Option Addr) (cL n : Nat) (L : List Ud) (e : Int) (At : Option Addr) (nt ct : Nat) (lt : List Int) (AS : Option Addr) (cS nS : Nat) (S : List Tm) (w : World) (hn : Hid (n = L.length)) (hL : Hid (Uin w AL cL L)) (hI : Hid (∀ x ∈ L, UdIn x)) (hnS : Hid (nS = S.length)) (hS : Hid (Tin w AS cS S)) (hIS : Hid (∀ x ∈ S, TmIn x)) (ht : Hid (Sl w 1 At nt ct (wds lt))) (G : Good w)
    (h1 : Hid (muchU (L.map Ud.uv) = false)) (h2 : Hid (farV (S.map Tm.v) = false)) (h3 : ¬ 50 < nt) :
    Calls Tryz.prog 3 #[.slice AL n cL, .agg #[.int .u64 e, .slice At nt ct], .slice AS nS cS] w fun r w' => r = .returned (.bool true) ∧ Ext w w' := by
  have X0 : Ext w (w.alloc (.cells #[.int .u64 e, .slice At nt ct] 26)) := (Ext.refl _).alloc _
  have HU : Hid (Uin (w.alloc (.cells #[.int .u64 e, .slice At nt ct] 26)) AL cL L) := Lib.hid (hL.out.ext X0)
  have BT : Hid (Bk (w.alloc (.cells #[.int .u64 e, .slice At nt ct] 26)) w.heap.size 26 #[.int .u64 e, .slice At nt ct]) := Lib.hid (Bk.new _ _ _)
  have hcap := ht.out.cap
  have z3 : decide ((50 : Int) < (nt : Int)) = false := decide_eq_false (by omega)
  have hn200 : n ≤ 200 := by rw [hn.out]; exact (muchU_small h1.out).1
  have hS200 : nS ≤ 200 := by rw [hnS.out]; exact (far_small h2.out).1
  have HIN : Hid (∀ x ∈ L, InU x) := Lib.hid (fun x hx => (hI.out x hx).inU (Nat.le_trans ((muchU_small h1.out).2 x hx).1 (by decide)) (Nat.le_trans ((muchU_small h1.out).2 x hx).2 (by decide)))
  have HFS : Hid (Fine S) := Lib.hid (fun x hx => ⟨(hIS.out x hx).u, Nat.le_trans ((far_small h2.out).2 x hx) (by decide)⟩)
  have HSM : Hid (∀ v ∈ L.map Ud.uv, SmallU v) := Lib.hid (fun v hv => by obtain ⟨x, hx, rfl⟩ := List.mem_map.1 hv; exact ⟨Nat.le_trans ((muchU_small h1.out).2 x hx).1 (by decide), Nat.le_trans ((muchU_small h1.out).2 x hx).2 (by decide)⟩)
  have HLR : Hid (∀ x ∈ L, x.l.length ≤ 1000000 ∧ x.t.l.length ≤ 1000000) := Lib.hid (fun x hx => ⟨Nat.le_trans ((muchU_small h1.out).2 x hx).1 (by decide), Nat.le_trans ((muchU_small h1.out).2 x hx).2 (by decide)⟩)
  have HLU : Hid (∀ x ∈ L, U32 x.t.l ∧ x.t.l.length ≤ 1000000) := Lib.hid (fun x hx => ⟨(HIN.out x hx).tu, (HLR.out x hx).2⟩)
  obtain ⟨SV, hSV⟩ : ∃ SV, UdS.sumV (L.map Ud.uv) = SV := ⟨_, rfl⟩
  obtain ⟨BV, hBV⟩ : ∃ BV, sumV (atV (L.map Ud.uv) (e, lt)) = BV := ⟨_, rfl⟩
  obtain ⟨VV, hVV⟩ : ∃ VV, UdS.sumV ((L.map Ud.uv).map (advK (S.map Tm.v))) = VV := ⟨_, rfl⟩
  have HSV := Lib.hid hSV
  have HBV := Lib.hid hBV
  have HVV := Lib.hid hVV
  have HLL : Hid ((L.map Ud.uv).length ≤ 200) := Lib.hid (by rw [List.length_map, ← hn.out]; exact hn200)
  have HS1 : Hid (SV.length ≤ 200 ∧ ∀ v ∈ SV, SmallU v) := Lib.hid ⟨by rw [← hSV]; exact Nat.le_trans (UdS.sumV_len _) HLL.out, by rw [← hSV]; exact small_sum HSM.out⟩
  have HB1 : Hid (BV.length ≤ 200 ∧ ∀ v ∈ BV, v.1.length ≤ 10000) := Lib.hid ⟨by rw [← hBV]; exact Nat.le_trans (rsumV_len _) (Nat.le_trans (atV_len _ _) HLL.out), by rw [← hBV]; exact small_at HSM.out⟩
  have HV1 : Hid (VV.length ≤ 200 ∧ ∀ v ∈ VV, SmallU v) := Lib.hid ⟨by rw [← hVV]; exact Nat.le_trans (UdS.sumV_len _) (by rw [List.length_map]; exact HLL.out), by rw [← hVV]; exact small_sum (small_adv HSM.out)⟩
  have HOWN : Hid (∀ (M : List Ud), M.map Ud.uv = L.map Ud.uv → UdS.sumV (M.map Ud.uv) = SV ∧ sumV (atV (M.map Ud.uv) (e, lt)) = BV ∧ UdS.sumV ((M.map Ud.uv).map (advK (S.map Tm.v))) = VV ∧ (∀ x ∈ M, InU x)) := Lib.hid (fun M hM => by rw [hM]; exact ⟨hSV, hBV, hVV, inU_map HIN.out hM⟩)
  clear hSV hBV hVV
  have p1 : True := trivial
  go_enter Tryz.func3, Tryz.ntmps3
  go_wp2_with (first
    | (go_at_call 13; have mk := p1; clear p1 mk; go_loud (refine (much10_at AL cL n L _ h1 hn HU).mono ?_); rintro r v1 ⟨rfl, x1⟩; have X1 := Lib.hid (X0.trans x1); have B1 := Lib.hid (BT.out.ext x1); clear x1; have p2 : True := trivial)
    | (go_at_call 14; have mk := p2; clear p2 mk; go_loud (refine (far10_at AS cS nS S _ h2 hnS (Lib.hid (hS.out.ext X1.out))).mono ?_); rintro r v2 ⟨rfl, x2⟩; have X2 := Lib.hid (X1.out.trans x2); have B2 := Lib.hid (B1.out.ext x2); have t1 := B2.out.cell 1; clear x2; have p3 : True := trivial)
    | (go_at_call 15; have mk := p3; clear p3 mk; go_loud (refine (lentUs_any AL cL n L _ hn (Lib.hid (hL.out.ext X2.out)) (by omega) HLR).mono ?_); rintro r v3 ⟨g, M, rfl, hg3, l3, e3, x3⟩; have X3 := Lib.hid (X2.out.trans x3); have B3 := Lib.hid (B2.out.ext x3); have K3 := Lib.hid l3; have E3 := Lib.hid e3; have S3 := Lib.hid x3.size; have HNM : Hid (n = M.length) := Lib.hid l3.len.symm; have HM := Lib.hid (HOWN.out M e3); clear l3 e3 x3 t1 hg3; have p4 : True := trivial)
    | (go_at_call 16; have mk := p4; clear p4 mk; go_loud (refine (dsum_at (some ⟨g, 0, none⟩) (n + 1) n M _ (Lib.hid HM.out.1) HNM (Lib.hid K3.out.uin) (by omega) (in_lens HM.out.2.2.2).1 (in_lens HM.out.2.2.2).2).mono ?_); rintro r v4 ⟨A4, m4, R4, rfl, hm4, u4, e4, x4⟩; have X4 := Lib.hid (X3.out.trans x4); have J4 := Lib.hid x4; have U4 := Lib.hid u4; have E4 := Lib.hid e4; have M4 := Lib.hid hm4; have T4 := Lib.hid ((ToldM.nil v3 v3.heap.size).addU x4 (Nat.le_refl _) u4 hm4); have B4 := Lib.hid (B3.out.ext x4); have t0 := B4.out.cell 0; have t1 := B4.out.cell 1; have hm4n : m4 ≤ 200 := (by rw [hm4]; have q := congrArg List.length e4; rw [List.length_map] at q; rw [q]; exact HS1.out.1); clear x4 u4 e4 hm4; have p5 : True := trivial)
    | (go_at_call 17; have mk := p5; clear p5 mk; go_loud (refine (dat_at (some ⟨g, 0, none⟩) (n + 1) n M e At nt ct lt _ (Lib.hid HM.out.2.1) HNM (Lib.hid (K3.out.uin.ext J4.out)) (by omega) (Lib.hid HM.out.2.2.2) (Lib.hid (ht.out.ext X4.out)) (G.ext X4.out)).mono ?_); rintro r v5 ⟨A5, m5, c5, R5, rfl, hm5, o5, r5, a5, e5, x5⟩; have X5 := Lib.hid (X4.out.trans x5); have J5 := Lib.hid x5; have O5 := Lib.hid o5; have Q5 := Lib.hid r5; have E5 := Lib.hid e5; have M5 := Lib.hid hm5; have T5 := Lib.hid (T4.out.addC x5 J4.out.size o5 r5 a5); have B5 := Lib.hid (B4.out.ext x5); have hm5n : m5 ≤ 200 := (by rw [hm5]; have q := congrArg List.length e5; rw [List.length_map] at q; rw [q]; exact HB1.out.1); clear x5 o5 r5 a5 e5 hm5 t0 t1; have p6 : True := trivial)
    | (go_at_call 18; have mk := p6; clear p6 mk; go_loud (refine (dadv_any (some ⟨g, 0, none⟩) (n + 1) n M AS cS nS S _ (Lib.hid HM.out.2.2.1) HNM (Lib.hid (K3.out.uin.ext (J4.out.trans J5.out))) (by omega) (Lib.hid HM.out.2.2.2) hnS (Lib.hid (hS.out.ext X5.out)) HFS (by omega)).mono ?_); rintro r v6 ⟨A6, m6, R6, rfl, hm6, u6, e6, x6⟩; have X6 := Lib.hid (X5.out.trans x6); have J6 := Lib.hid x6; have U6 := Lib.hid u6; have E6 := Lib.hid e6; have M6 := Lib.hid hm6; have T6 := Lib.hid (T5.out.addU x6 (J4.out.trans J5.out).size u6 hm6); have B6 := Lib.hid (B5.out.ext x6); have hm6n : m6 ≤ 200 := (by rw [hm6]; have q := congrArg List.length e6; rw [List.length_map] at q; rw [q]; exact HV1.out.1); clear x6 u6 e6 hm6; have p7 : True := trivial)
    | (go_at_call 19; have mk := p7; clear p7 mk; go_loud (refine (wholeUs_any AL cL n _ g L M _ hn (by omega) (Lib.hid (K3.out.ext ((J4.out.trans J5.out).trans J6.out))) (Lib.hid (hL.out.ext X6.out)) E3 HLR).mono ?_); rintro r v7 ⟨rfl, x7⟩; have X7 := Lib.hid (X6.out.trans x7); have J7 := Lib.hid x7; have K7 := Lib.hid (K3.out.ext (((J4.out.trans J5.out).trans J6.out).trans x7)); have T7 := Lib.hid (T6.out.ext x7); have B7 := Lib.hid (B6.out.ext x7); clear x7; have p8 : True := trivial)
    | (go_at_call 20; have mk := p8; clear p8 mk; go_loud (refine (spoilUs_any g n _ M _ K7 (by omega)).mono ?_); rintro r v8 ⟨rfl, u8⟩; have F8 : Hid (Upd (fun k => v2.heap.size ≤ k ∧ k < v3.heap.size) v7 v8) := Lib.hid (u8.mono (fun k _ hk => K3.out.iv hk)); have X8 : Hid (Ext w v8) := Lib.hid (ext_upd X7.out F8.out (fun k hk => Nat.le_trans X2.out.size hk.1)); have T8 := Lib.hid (T7.out.upd F8.out (fun k hB hk q => by have := q.2; omega)); have s8 := F8.out.size; have B8 := Lib.hid (bk_upd B7.out F8.out (fun q => by have a := q.1; have b := B2.out.lt; omega)); have US8 : Hid (Uout v8 v3.heap.size A4 m4 R4) := Lib.hid ((U4.out.ext ((J5.out.trans J6.out).trans J7.out)).upd F8.out (fun k hB hk q => by have := q.2; omega)); have UA8 : Hid (Uout v8 v5.heap.size A6 m6 R6) := Lib.hid ((U6.out.ext J7.out).upd F8.out (fun k hB hk q => by have a := q.2; have b := (J4.out.trans J5.out).size; omega)); have BB8 : Hid (Own v8 v4.heap.size 154 2 A5 m5 c5 (ctsC R5)) := Lib.hid ((O5.out.ext (J6.out.trans J7.out)).upd F8.out (fun k hk q => by have a := (O5.out.lt k hk).1; have b := J4.out.size; have := q.2; omega)); have NB : Hid (Bk (v8.alloc (.cells #[.slice none 0 0, .slice none 0 0, .slice none 0 0, .slice none 0 0, .slice none 0 0, .slice none 0 0, .slice none 0 0, .slice none 0 0, .slice none 0 0, .slice none 0 0, .slice none 0 0, .slice none 0 0, .slice none 0 0, .slice none 0 0] 52)) v8.heap.size 52 #[.slice none 0 0, .slice none 0 0, .slice none 0 0, .slice none 0 0, .slice none 0 0, .slice none 0 0, .slice none 0 0, .slice none 0 0, .slice none 0 0, .slice none 0 0, .slice none 0 0, .slice none 0 0, .slice none 0 0, .slice none 0 0]) := Lib.hid (Bk.new _ _ _); have BR : Hid (BookR (v8.alloc (.cells #[.slice none 0 0, .slice none 0 0, .slice none 0 0, .slice none 0 0, .slice none 0 0, .slice none 0 0, .slice none 0 0, .slice none 0 0, .slice none 0 0, .slice none 0 0, .slice none 0 0, .slice none 0 0, .slice none 0 0, .slice none 0 0] 52)) v8.heap.size (fun k => v8.heap.size ≤ k) [] [] [] [] [] En.zero En.zero En.zero En.zero En.zero) := Lib.hid (bookR_new NB.out (Nat.le_refl _)); have Y8 : Hid (Upd (fun k => v8.heap.size ≤ k) v8 (v8.alloc (.cells #[.slice none 0 0, .slice none 0 0, .slice none 0 0, .slice none 0 0, .slice none 0 0, .slice none 0 0, .slice none 0 0, .slice none 0 0, .slice none 0 0, .slice none 0 0, .slice none 0 0, .slice none 0 0, .slice none 0 0, .slice none 0 0] 52))) := Lib.hid (Upd.ext ((Ext.refl _).alloc _)); have hz4 : ∀ k, blk A4 m4 = some k → ¬ v8.heap.size ≤ k := (fun k hk => by have := (US8.out.own.lt k hk).2; omega); have hz6 : ∀ k, blk A6 m6 = some k → ¬ v8.heap.size ≤ k := (fun k hk => by have := (UA8.out.own.lt k hk).2; omega); have hz5 : ∀ k, blk A5 c5 = some k → ¬ v8.heap.size ≤ k := (fun k hk => by have := (BB8.out.lt k hk).2; omega); have HZ4 := Lib.hid hz4; have HZ5 := Lib.hid hz5; have HZ6 := Lib.hid hz6; clear u8 hz4 hz5 hz6; have p9 : True := trivial)
    | (go_at_call 21; have mk := p9; clear p9 mk; go_loud (refine (bookUpdates_any v8.heap.size m4 m4 (fun k => v8.heap.size ≤ k) A4 R4 [] [] [] [] [] _ _ _ _ _ _ BR (by show 0 + m4 ≤ _; omega) (by show 0 + m4 ≤ _; omega) (Nat.zero_le _) M4 (Lib.hid (by have q := US8.out.own.sl.upd Y8.out HZ4.out; rwa [← M4.out] at q)) HZ4).mono ?_); rintro r v10 ⟨rfl, vr10, vw10, vu10, b10, u10⟩; have BR10 : Hid (BookR v10 v8.heap.size (fun k => v8.heap.size ≤ k) ([] ++ R4.map enW) ([] ++ R4.map enR) [] ([] ++ [⟨A4, m4, m4⟩]) [] vw10 vr10 En.zero vu10 En.zero) := Lib.hid (b10.wide (fun k _ hk => by rcases hk with hk | hk; (exact hk); (have a := hk.1; have b := Y8.out.size; omega))); have Y10 : Hid (Upd (fun k => v8.heap.size ≤ k) v8 v10) := Lib.hid (Y8.out.trans u10); clear b10 u10; have p10 : True := trivial)
    | (go_at_call 21; have mk := p10; clear p10 mk; go_loud (refine (bookUpdates_any v8.heap.size m6 m6 (fun k => v8.heap.size ≤ k) A6 R6 _ _ _ _ _ _ _ _ _ _ _ BR10 (by rw [List.length_append, List.length_map, ← M4.out]; show 0 + m4 + m6 ≤ _; omega) (by rw [List.length_append, List.length_map, ← M4.out]; show 0 + m4 + m6 ≤ _; omega) (by show 1 ≤ _; omega) M6 (Lib.hid (by have q := UA8.out.own.sl.upd Y10.out HZ6.out; rwa [← M6.out] at q)) HZ6).mono ?_); rintro r v11 ⟨rfl, vr11, vw11, vu11, b11, u11⟩; have BR11 : Hid (BookR v11 v8.heap.size (fun k => v8.heap.size ≤ k) ([] ++ R4.map enW ++ R6.map enW) ([] ++ R4.map enR ++ R6.map enR) [] ([] ++ [⟨A4, m4, m4⟩] ++ [⟨A6, m6, m6⟩]) [] vw11 vr11 En.zero vu11 En.zero) := Lib.hid (b11.wide (fun k _ hk => by rcases hk with hk | hk; (exact hk); (have a := hk.1; have b := Y10.out.size; omega))); have Y11 : Hid (Upd (fun k => v8.heap.size ≤ k) v8 v11) := Lib.hid (Y10.out.trans u11); clear b11 u11; have p11 : True := trivial)
    | (go_at_call 22; have mk := p11; clear p11 mk; go_loud (refine (bookCounteds_any v8.heap.size m5 c5 (fun k => v8.heap.size ≤ k) A5 R5 _ _ _ _ _ _ _ _ _ _ _ BR11 (by rw [List.length_append, List.length_append, List.length_map, List.length_map, ← M4.out, ← M6.out]; show 0 + m4 + m6 + m5 ≤ _; omega) (Nat.zero_le _) M5 (Lib.hid (BB8.out.sl.upd Y11.out HZ5.out)) HZ5).mono ?_); rintro r v12 ⟨rfl, vr12, vc12, b12, u12⟩; have BR12 : Hid (BookR v12 v8.heap.size (fun k => v8.heap.size ≤ k) ([] ++ R4.map enW ++ R6.map enW) ([] ++ R4.map enR ++ R6.map enR ++ R5.map enC) ([] ++ [⟨A5, m5, c5⟩]) ([] ++ [⟨A4, m4, m4⟩] ++ [⟨A6, m6, m6⟩]) [] vw11 vr12 vc12 vu11 En.zero) := Lib.hid (b12.wide (fun k _ hk => by rcases hk with hk | hk; (exact hk); (have a := hk.1; have b := Y11.out.size; omega))); have Y12 : Hid (Upd (fun k => v8.heap.size ≤ k) v8 v12) := Lib.hid (Y11.out.trans u12); clear b12 u12; have X12 : Hid (Ext w v12) := Lib.hid (ext_upd X8.out Y12.out (fun k hk => Nat.le_trans X8.out.size hk)); have T12 := Lib.hid (T8.out.upd Y12.out (fun k hB hk q => by omega)); have US12 := Lib.hid (US8.out.upd Y12.out (fun k hB hk q => by omega)); have UA12 := Lib.hid (UA8.out.upd Y12.out (fun k hB hk q => by omega)); have BB12 : Hid (Ctin v12 A5 c5 R5) := Lib.hid ⟨by have q := BB8.out.sl.upd Y12.out HZ5.out; rwa [M5.out] at q, fun x hx => (((Own.base (Q5.out x hx).1 (B' := v4.heap.size) (fun k hk => by obtain ⟨ad, e1, e2⟩ := blk_some hk; have := ((Q5.out x hx).2 ad e1).1; omega)).ext (J6.out.trans J7.out)).upd F8.out (fun k hk q => by have a := q.2; have b := J4.out.size; have c := (Own.lt (Own.base (Q5.out x hx).1 (B' := v4.heap.size) (fun k hk => by obtain ⟨ad, e1, e2⟩ := blk_some hk; have := ((Q5.out x hx).2 ad e1).1; omega)) k hk).1; omega)).upd Y12.out (fun k hk q => by have c := (Own.lt (Q5.out x hx).1 k hk).2; have d := ((J6.out.trans J7.out).size); have f := F8.out.size; omega) |>.sl⟩; have B12 := Lib.hid (bk_upd B8.out Y12.out (fun q => by have := B8.out.lt; omega)); have p12 : True := trivial)
    | (go_at_call 24; have mk := p12; clear p12 mk; go_loud (refine (refSum10_any AL cL n L _ HSV hn (Lib.hid (hL.out.ext X12.out)) (by omega) (in_lens HIN.out).1 HLU).mono ?_); rintro r v13 ⟨A13, m13, c13, R13, rfl, hm13, i13, e13, x13⟩; have M13 := Lib.hid hm13; have I13 := Lib.hid i13; have E13 := Lib.hid e13; have J13 := Lib.hid x13; clear hm13 i13 e13 x13; have p13 : True := trivial)
    | (go_at_call 23; have mk := p13; clear p13 mk; go_loud (refine (sameUps_any A4 A13 m4 c13 m4 m13 R4 R13 _ M4 M13 (Lib.hid (US12.out.uin.ext J13.out)) I13 (Lib.hid (E4.out.trans E13.out.symm))).mono ?_); rintro r v14 ⟨rfl, x14⟩; have J14 := Lib.hid (J13.out.trans x14); have B14 := Lib.hid (B12.out.ext J14.out); have t0 := B14.out.cell 0; have t1 := B14.out.cell 1; clear x14; have p14 : True := trivial)
    | (go_at_call 26; have mk := p14; clear p14 mk; go_loud (refine (refAt10_any AL cL n L e At nt ct lt _ HBV hn (Lib.hid (hL.out.ext (X12.out.trans J14.out))) (by omega) (Lib.hid (ht.out.ext (X12.out.trans J14.out)))).mono ?_); rintro r v15 ⟨A15, m15, c15, R15, rfl, hm15, i15, e15, x15⟩; have M15 := Lib.hid hm15; have I15 := Lib.hid i15; have E15 := Lib.hid e15; have J15 := Lib.hid (J14.out.trans x15); clear hm15 i15 e15 x15 t0 t1; have p15 : True := trivial)
    | (go_at_call 25; have mk := p15; clear p15 mk; go_loud (refine (sameCts_any A5 A15 c5 c15 m5 m15 R5 R15 _ M5.out M15.out (BB12.out.ext J15.out) I15.out (E5.out.trans E15.out.symm)).mono ?_); rintro r v16 ⟨rfl, x16⟩; have J16 := Lib.hid (J15.out.trans x16); clear x16; have p16 : True := trivial)
    | (go_at_call 27; have mk := p16; clear p16 mk; go_loud (refine (refAdv10_any AL cL n L AS cS nS S _ HVV hn (Lib.hid (hL.out.ext (X12.out.trans J16.out))) (by omega) HIN hnS (Lib.hid (hS.out.ext (X12.out.trans J16.out))) HFS (by omega)).mono ?_); rintro r v17 ⟨A17, m17, c17, R17, rfl, hm17, i17, e17, x17⟩; have M17 := Lib.hid hm17; have I17 := Lib.hid i17; have E17 := Lib.hid e17; have J17 := Lib.hid (J16.out.trans x17); clear hm17 i17 e17 x17; have p17 : True := trivial)
    | (go_at_call 23; have mk := p17; clear p17 mk; go_loud (refine (sameUps_any A6 A17 m6 c17 m6 m17 R6 R17 _ M6 M17 (Lib.hid (UA12.out.uin.ext J17.out)) I17 (Lib.hid (E6.out.trans E17.out.symm))).mono ?_); rintro r v18 ⟨rfl, x18⟩; have J18 := Lib.hid (J17.out.trans x18); clear x18; have p18 : True := trivial)
    | (go_at_call 28; have mk := p18; clear p18 mk; go_loud (refine (known10_any _ (G.ext (X12.out.trans J18.out))).mono ?_); rintro r v19 ⟨rfl, x19⟩; have J19 := Lib.hid (J18.out.trans x19); clear x19; have p19 : True := trivial)
    | (go_at_call 29; have mk := p19; clear p19 mk; go_loud (refine (delta_own (w := v19) (v8 := v8) (B := v3.heap.size) (gb := v8.heap.size) M4.out M5.out M6.out hm4n hm5n hm6n (fun x hx => HS1.out.2 x.uv (by rw [← E4.out]; exact List.mem_map.2 ⟨x, hx, rfl⟩)) (fun x hx => HB1.out.2 (valC x) (by rw [← E5.out]; exact List.mem_map.2 ⟨x, hx, rfl⟩)) (fun x hx => HV1.out.2 x.uv (by rw [← E6.out]; exact List.mem_map.2 ⟨x, hx, rfl⟩)) (T12.out.ext J19.out) T8.out (BR12.out.ext J19.out) (by have a := (J4.out.trans (J5.out.trans (J6.out.trans J7.out))).size; have b := Y12.out.size; have c := J19.out.size; omega)).mono ?_); rintro r v20 ⟨rfl, u20⟩; have X20 : Hid (Ext w v20) := Lib.hid (ext_upd (X12.out.trans J19.out) u20 (fun k hk => Nat.le_trans X3.out.size hk.1)); clear u20)
    | fail)
  go_ret
  exact ⟨rfl, X20.out⟩
theorem delta_any (AL : Option Addr) (cL n : Nat) (L : List Ud) (e : Int) (At : Option Addr) (nt ct : Nat) (lt : List Int) (AS : Option Addr) (cS nS : Nat) (S : List Tm) (w : World) (hn : Hid (n = L.length)) (hL : Hid (Uin w AL cL L)) (hI : Hid (∀ x ∈ L, UdIn x)) (hnS : Hid (nS = S.length)) (hS : Hid (Tin w AS cS S)) (hIS : Hid (∀ x ∈ S, TmIn x)) (ht : Hid (Sl w 1 At nt ct (wds lt))) (G : Good w) :
    Calls Tryz.prog 3 #[.slice AL n cL, .agg #[.int .u64 e, .slice At nt ct], .slice AS nS cS] w fun r w' => r = .returned (.bool true) ∧ Ext w w' := by
  cases h1 : muchU (L.map Ud.uv) with
  | true => exact delta_much AL cL n L e At nt ct lt AS cS nS S w hn hL hnS hS ht (.inl h1)
  | false =>
    cases h2 : farV (S.map Tm.v) with
    | true => exact delta_much AL cL n L e At nt ct lt AS cS nS S w hn hL hnS hS ht (.inr (.inl ⟨h1, h2⟩))
    | false =>
      by_cases h3 : 50 < nt
      · exact delta_much AL cL n L e At nt ct lt AS cS nS S w hn hL hnS hS ht (.inr (.inr ⟨h1, h2, h3⟩))
      · exact delta_main AL cL n L e At nt ct lt AS cS nS S w hn hL hI hnS hS hIS ht G (Lib.hid h1) (Lib.hid h2) h3
end Go.Proofs.YtdgbkpoickbidaaGreatDoor
