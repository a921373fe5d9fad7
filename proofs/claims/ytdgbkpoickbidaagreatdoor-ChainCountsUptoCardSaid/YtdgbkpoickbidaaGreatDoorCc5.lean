/- penstockref05.Beyond, Leq, Of: what they answer. penstockref05.Counts: Count. penstockref05.Of: the antichain, as the document says it. penstockref05.Counts: Frontier. penstockref05.has: is a time among times? Conditions: each theorem states its own. -/
import Derived.Test.YtdgbkpoickbidaaGreatDoorCc2
import Derived.Test.YtdgbkpoickbidaaGreatDoorCc4
import Derived.Deep.LoopGhost
import Derived.Test.YtdgbkpoickbidaaGreatDoorCc3
namespace Go.Proofs.YtdgbkpoickbidaaGreatDoor
open Go.RowKit

theorem rtq_at {v : Bool} (e1 e2 : Int) (A1 A2 : Option Addr) (n1 n2 c1 c2 : Nat) (l1 l2 : List Int) (w : World) (hr : Hid (tleq (e1, l1) (e2, l2) = v)) (h1 : Hid (Sl w 1 A1 n1 c1 (wds l1))) (h2 : Hid (Sl w 1 A2 n2 c2 (wds l2))) :
    Calls Tryz.prog 119 #[.agg #[.int .u64 e1, .slice A1 n1 c1], .agg #[.int .u64 e2, .slice A2 n2 c2]] w fun e w' => e = .returned (.bool v) ∧ Ext w w' := hr.out ▸ rleq_any e1 e2 A1 A2 n1 n2 c1 c2 l1 l2 w h1.out h2.out
theorem rtc_at {v : Int} (e1 e2 : Int) (A1 A2 : Option Addr) (n1 n2 c1 c2 : Nat) (l1 l2 : List Int) (w : World) (hr : Hid (tcmp (e1, l1) (e2, l2) = v)) (h1 : Hid (Sl w 1 A1 n1 c1 (wds l1))) (h2 : Hid (Sl w 1 A2 n2 c2 (wds l2))) (u1 : Hid (U32 l1)) (u2 : Hid (U32 l2)) (hn1 : n1 ≤ 1000000) (hn2 : n2 ≤ 1000000) :
    Calls Tryz.prog 149 #[.agg #[.int .u64 e1, .slice A1 n1 c1], .agg #[.int .u64 e2, .slice A2 n2 c2]] w fun e w' => e = .returned (.int .i64 v) ∧ Ext w w' := hr.out ▸ rcmp_any e1 e2 A1 A2 n1 n2 c1 c2 l1 l2 w h1.out h2.out u1.out u2.out hn1 hn2
theorem rbeyond_take {V : List TV} {k : Nat} (h : k < V.length) (t : TV) : beyondV (V.take (k + 1)) t = (beyondV (V.take k) t || tleq V[k] t) := by
  rw [List.take_succ_eq_append_getElem h, beyond_append]
/-- an element, its parts named: what the regions that draw want to know -/
structure TmAt (wr : World) (A : Option Addr) (k : Nat) (e : Int) (B : Option Addr) (n c : Nat) (l : List Int) (ad : Addr) : Prop where
  addr : A = some ad
  c0 : ∀ y : Xt wr, y.W.cell? (ad.add (k * 2)) = some (.int .u64 e)
  c1 : ∀ y : Xt wr, y.W.cell? ⟨(ad.add (k * 2)).block, (ad.add (k * 2)).off + 1, none⟩ = some (.slice B n c)
  sl : ∀ y : Xt wr, Hid (Sl y.W 1 B n c (wds l))
theorem Tin.tmAt {wr : World} {A : Option Addr} {c : Nat} {L : List Tm} (h : Tin wr A c L) {k : Nat} (hk : k < L.length) : ∃ e B n cc l ad, TmAt wr A k e B n cc l ad ∧ L.getD k Tm.zero = ⟨e, B, cc, l⟩ ∧ n = l.length := by
  obtain ⟨ad, rfl, q0, q1⟩ := h.at hk
  have hs := h.ls _ (getT_mem hk)
  obtain ⟨x, hx⟩ : ∃ x, L.getD k Tm.zero = x := ⟨_, rfl⟩
  rw [hx] at q0 q1 hs
  obtain ⟨e, B, cc, l⟩ := x
  exact ⟨e, B, l.length, cc, l, ad, ⟨rfl, fun y => y.x.cell q0, fun y => y.x.cell q1, fun y => Lib.hid (hs.ext y.x)⟩, hx, rfl⟩
set_option maxRecDepth 100000 in
set_option maxHeartbeats 2000000 in
theorem rbeyond_any (AL : Option Addr) (cL m : Nat) (L : List Tm) (e : Int) (A : Option Addr) (n c : Nat) (l : List Int) (w : World) (hm : Hid (m = L.length)) (hL : Hid (Tin w AL cL L)) (ht : Hid (Sl w 1 A n c (wds l))) :
    Calls Tryz.prog 96 #[.slice AL m cL, .agg #[.int .u64 e, .slice A n c]] w fun r w' => r = .returned (.bool (beyondV (L.map Tm.v) (e, l))) ∧ Ext w w' := by
  obtain ⟨b, hb⟩ : ∃ b, beyondV (L.map Tm.v) (e, l) = b := ⟨_, rfl⟩
  rw [hb]
  have HB := Lib.hid hb
  clear hb
  have hmax : m ≤ 9223372036854775807 := by rw [hm.out]; exact hL.out.sl.le
  go_enter Tryz.func96, Tryz.ntmps96
  go_wp2
  obtain ⟨w0, hw0⟩ : ∃ w0, w0 = w.alloc (Obj.cells #[Value.int IntKind.u64 e, Value.slice A n c] 26) := ⟨_, rfl⟩
  have X0 : Hid (Ext w w0) := Lib.hid (hw0 ▸ (Ext.refl w).alloc _)
  have B0 : Hid (Bk w0 w.heap.size 26 #[Value.int IntKind.u64 e, Value.slice A n c]) := Lib.hid (by subst hw0; exact Bk.new _ _ _)
  rw [← hw0]
  clear hw0
  go_loopg [5] m (fun z v wr => ∃ k : Nat, z = m - k ∧ k ≤ m ∧ v = .int .i64 k ∧ Hid (beyondV ((L.map Tm.v).take k) (e, l) = false) ∧ Hid (Ext w0 wr))
  case atStart => exact ⟨0, rfl, Nat.zero_le _, rfl, Lib.hid rfl, Lib.hid (Ext.refl _)⟩
  case round =>
    obtain ⟨k, rfl, hk, rfl, HF, HE⟩ := hrel
    by_cases hlt : k < m
    · have b0 : ∀ y : Xt wr, y.W.cell? ⟨w.heap.size, 0, none⟩ = some (.int .u64 e) := fun y => (B0.out.ext (HE.out.trans y.x)).cell 0
      have b1 : ∀ y : Xt wr, y.W.cell? ⟨w.heap.size, 1, none⟩ = some (.slice A n c) := fun y => (B0.out.ext (HE.out.trans y.x)).cell 1
      have hkL : k < L.length := by rw [← hm.out]; exact hlt
      obtain ⟨f, Ax, nx, cx, lx, ad, T, hx, -⟩ := (hL.out.ext (X0.out.trans HE.out)).tmAt hkL
      have HKV := Lib.hid (map_at hkL)
      rw [hx] at HKV
      obtain ⟨rfl, q0, q1, HXS⟩ := T
      have STY : ∀ y : Xt wr, Hid (Sl y.W 1 A n c (wds l)) := fun y => Lib.hid (ht.out.ext ((X0.out.trans HE.out).trans y.x))
      clear hx hkL
      rcases hq : tleq (f, lx) (e, l) with _ | _
      · have HT1 := Lib.hid hq
        clear hq
        go_wp2
        (refine wp_region_ext (by kernel_rfl) (by kernel_rfl) ?_; (repeat (go_big_quiet_step ((go_at_call 119; go_loud (with_reducible exact call_ext (rtq_at f e Ax A nx n cx c lx l _ HT1 (HXS _) (STY _))))))); refine wpQuiet_nil ?_; rintro _ ⟨y, rfl⟩)
        go_wp2
        go_roundg (m - (k + 1))
        case measure => omega
        case rel => exact ⟨k + 1, by omega, by omega, by go_num, Lib.hid (by obtain ⟨h1, h2⟩ := HKV.out; rw [rbeyond_take h1, HF.out, h2]; exact HT1.out), Lib.hid (HE.out.trans y.x)⟩
      · have HT1 := Lib.hid hq
        clear hq
        go_wp2
        (refine wp_region_ext (by kernel_rfl) (by kernel_rfl) ?_; (repeat (go_big_quiet_step ((go_at_call 119; go_loud (with_reducible exact call_ext (rtq_at f e Ax A nx n cx c lx l _ HT1 (HXS _) (STY _))))))); refine wpQuiet_nil ?_; rintro _ ⟨y, rfl⟩)
        go_wp2
        go_ret
        refine ⟨ret_bool ?_, (X0.out.trans HE.out).trans y.x⟩
        rw [← HB.out]
        obtain ⟨h1, h2⟩ := HKV.out
        exact (beyond_iff.2 ⟨_, List.getElem_mem h1, by rw [h2]; exact HT1.out⟩).symm
    · obtain rfl : m = k := by omega
      go_wp2
      go_ret
      refine ⟨ret_bool ?_, X0.out.trans HE.out⟩
      rw [← HB.out]
      have := HF.out
      rw [List.take_of_length_le (by rw [List.length_map, hm.out]; exact Nat.le_refl _)] at this
      exact this.symm
theorem rbeyond_at {v : Bool} (AL : Option Addr) (cL m : Nat) (L : List Tm) (e : Int) (A : Option Addr) (n c : Nat) (l : List Int) (w : World) (hv : Hid (beyondV (L.map Tm.v) (e, l) = v)) (hm : Hid (m = L.length)) (hL : Hid (Tin w AL cL L)) (ht : Hid (Sl w 1 A n c (wds l))) :
    Calls Tryz.prog 96 #[.slice AL m cL, .agg #[.int .u64 e, .slice A n c]] w fun r w' => r = .returned (.bool v) ∧ Ext w w' := hv.out ▸ rbeyond_any AL cL m L e A n c l w hm hL ht
set_option maxRecDepth 100000 in
set_option maxHeartbeats 2000000 in
theorem rchleq_any (AL AM : Option Addr) (cL cM m n : Nat) (L M : List Tm) (w : World) (hm : Hid (m = L.length)) (hn : Hid (n = M.length)) (hL : Hid (Tin w AL cL L)) (hM : Hid (Tin w AM cM M)) :
    Calls Tryz.prog 169 #[.slice AL m cL, .slice AM n cM] w fun r w' => r = .returned (.bool (leqV (L.map Tm.v) (M.map Tm.v))) ∧ Ext w w' := by
  obtain ⟨b, hb⟩ : ∃ b, leqV (L.map Tm.v) (M.map Tm.v) = b := ⟨_, rfl⟩
  rw [hb]
  have HB := Lib.hid hb
  clear hb
  have hmax : n ≤ 9223372036854775807 := by rw [hn.out]; exact hM.out.sl.le
  go_enter Tryz.func169, Tryz.ntmps169
  go_wp2
  go_loopg [5] n (fun z v wr => ∃ k : Nat, z = n - k ∧ k ≤ n ∧ v = .int .i64 k ∧ Hid (∀ j, j < k → beyondV (L.map Tm.v) (M.getD j Tm.zero).v = true) ∧ Hid (Ext w wr))
  case atStart => exact ⟨0, rfl, Nat.zero_le _, rfl, Lib.hid (fun j hj => absurd hj (by omega)), Lib.hid (Ext.refl _)⟩
  case round =>
    obtain ⟨k, rfl, hk, rfl, HF, HE⟩ := hrel
    by_cases hlt : k < n
    · have hkM : k < M.length := by rw [← hn.out]; exact hlt
      have HKM := Lib.hid hkM
      obtain ⟨ad, rfl, q0, q1⟩ := (hM.out.ext HE.out).at (i := k) hkM
      have HXS := Lib.hid ((hM.out.ext HE.out).ls _ (getT_mem hkM))
      obtain ⟨x, hx⟩ : ∃ x, M.getD k Tm.zero = x := ⟨_, rfl⟩
      rw [hx] at q0 q1 HXS
      have HX := Lib.hid hx
      clear hkM hx
      obtain ⟨f, Ax, cx, lx⟩ := x
      obtain ⟨nx, hnx⟩ : ∃ nx, lx.length = nx := ⟨_, rfl⟩
      replace q0 : wr.cell? (ad.add (k * 2)) = some (.int .u64 f) := q0
      replace q1 : wr.cell? ⟨(ad.add (k * 2)).block, (ad.add (k * 2)).off + 1, none⟩ = some (.slice Ax lx.length cx) := q1
      replace HXS : Hid (Sl wr 1 Ax lx.length cx (wds lx)) := HXS
      rw [hnx] at q1 HXS
      clear hnx
      rcases hq : beyondV (L.map Tm.v) (f, lx) with _ | _
      · have HT1 := Lib.hid hq
        clear hq
        go_wp2_with (go_at_call 96; go_loud (refine (rbeyond_at (v := false) AL cL m L f Ax nx cx lx _ HT1 hm (Lib.hid (hL.out.ext HE.out)) HXS).mono ?_); rintro r w1 ⟨rfl, x1⟩)
        go_ret
        refine ⟨ret_bool ?_, HE.out.trans x1⟩
        rw [← HB.out]
        refine Eq.symm (Bool.eq_false_iff.2 fun h => ?_)
        have := leqV_iff.1 h (f, lx) (List.mem_map.2 ⟨_, getT_mem HKM.out, by rw [HX.out]; rfl⟩)
        rw [HT1.out] at this
        exact absurd this (by decide)
      · have HT1 := Lib.hid hq
        clear hq
        go_wp2_with (go_at_call 96; go_loud (refine (rbeyond_at (v := true) AL cL m L f Ax nx cx lx _ HT1 hm (Lib.hid (hL.out.ext HE.out)) HXS).mono ?_); rintro r w1 ⟨rfl, x1⟩)
        go_roundg (n - (k + 1))
        case measure => omega
        case rel => exact ⟨k + 1, by omega, by omega, by go_num, Lib.hid (fun j hj => by
            by_cases hjk : j < k
            · exact HF.out j hjk
            · obtain rfl : j = k := by omega
              rw [HX.out]; exact HT1.out), Lib.hid (HE.out.trans x1)⟩
    · obtain rfl : n = k := by omega
      go_wp2
      go_ret
      refine ⟨ret_bool ?_, HE.out⟩
      rw [← HB.out]
      refine Eq.symm (leqV_iff.2 fun v hv => ?_)
      obtain ⟨x, hx, rfl⟩ := List.mem_map.1 hv
      obtain ⟨j, hj, rfl⟩ := List.getElem_of_mem hx
      have := HF.out j (by rw [hn.out]; exact hj)
      rw [List.getD_eq_getElem?_getD, List.getElem?_eq_getElem hj] at this
      exact this
theorem rchleq_at {v : Bool} (AL AM : Option Addr) (cL cM m n : Nat) (L M : List Tm) (w : World) (hv : Hid (leqV (L.map Tm.v) (M.map Tm.v) = v)) (hm : Hid (m = L.length)) (hn : Hid (n = M.length)) (hL : Hid (Tin w AL cL L)) (hM : Hid (Tin w AM cM M)) :
    Calls Tryz.prog 169 #[.slice AL m cL, .slice AM n cM] w fun r w' => r = .returned (.bool v) ∧ Ext w w' := hv.out ▸ rchleq_any AL AM cL cM m n L M w hm hn hL hM
end Go.Proofs.YtdgbkpoickbidaaGreatDoor
namespace Go.Proofs.YtdgbkpoickbidaaGreatDoor
open Go.RowKit

/-- a change, its parts named: what the regions that draw want to know -/
structure CgAt (wr : World) (A : Option Addr) (k : Nat) (e : Int) (B : Option Addr) (n c : Nat) (l : List Int) (d : Int) (ad : Addr) : Prop where
  addr : A = some ad
  c0 : ∀ y : Xt wr, y.W.cell? (ad.add (k * 3)) = some (.int .u64 e)
  c1 : ∀ y : Xt wr, y.W.cell? ⟨(ad.add (k * 3)).block, (ad.add (k * 3)).off + 1, none⟩ = some (.slice B n c)
  c2 : ∀ y : Xt wr, y.W.cell? ⟨(ad.add (k * 3)).block, (ad.add (k * 3)).off + 2, none⟩ = some (.int .i64 d)
  sl : ∀ y : Xt wr, Hid (Sl y.W 1 B n c (wds l))
theorem Cin.cgAt {wr : World} {A : Option Addr} {c : Nat} {L : List Cg} (h : Cin wr A c L) {k : Nat} (hk : k < L.length) : ∃ e B n cc l d ad, CgAt wr A k e B n cc l d ad ∧ L.getD k Cg.zero = ⟨⟨e, B, cc, l⟩, d⟩ ∧ n = l.length := by
  obtain ⟨ad, rfl, q0, q1, q2⟩ := h.at hk
  have hs := h.ls _ (getG_mem hk)
  obtain ⟨x, hx⟩ : ∃ x, L.getD k Cg.zero = x := ⟨_, rfl⟩
  rw [hx] at q0 q1 q2 hs
  obtain ⟨⟨e, B, cc, l⟩, d⟩ := x
  exact ⟨e, B, l.length, cc, l, d, ad, ⟨rfl, fun y => y.x.cell q0, fun y => y.x.cell q1, fun y => y.x.cell q2, fun y => Lib.hid (hs.ext y.x)⟩, hx, rfl⟩
theorem getC_take {D : List CV} (h : KeysC D) {t : TV} {k : Nat} (hk : k < D.length) (he : D[k].1 = t) : getC D t = D[k].2 := by rw [← he]; exact getC_mem h (List.getElem_mem hk)
set_option maxRecDepth 100000 in
set_option maxHeartbeats 2000000 in
theorem rcount_any (gc m cL : Nat) (AL : Option Addr) (L : List Cg) (e : Int) (A : Option Addr) (n c : Nat) (l : List Int) (w : World) (hb : Hid (Bk w gc 65 #[.slice AL m cL])) (hm : Hid (m = L.length)) (hL : Hid (Cin w AL cL L)) (hK : Hid (KeysC (L.map Cg.cv))) (fL : Hid (∀ x ∈ L, U32 x.t.l ∧ x.t.l.length ≤ 1000000)) (ht : Hid (Sl w 1 A n c (wds l))) (u : Hid (U32 l)) (hn : n ≤ 1000000) :
    Calls Tryz.prog 40 #[.pointer (some ⟨gc, 0, none⟩), .agg #[.int .u64 e, .slice A n c]] w fun r w' => r = .returned (.int .i64 (getC (L.map Cg.cv) (e, l))) ∧ Ext w w' := by
  obtain ⟨b, hbb⟩ : ∃ b, getC (L.map Cg.cv) (e, l) = b := ⟨_, rfl⟩
  rw [hbb]
  have HB := Lib.hid hbb
  clear hbb
  have hmax : m ≤ 9223372036854775807 := by rw [hm.out]; exact hL.out.sl.le
  go_enter Tryz.func40, Tryz.ntmps40
  go_wp2
  obtain ⟨w0, hw0⟩ : ∃ w0, w0 = w.alloc (Obj.cells #[Value.int IntKind.u64 e, Value.slice A n c] 26) := ⟨_, rfl⟩
  have X0 : Hid (Ext w w0) := Lib.hid (hw0 ▸ (Ext.refl w).alloc _)
  have B0 : Hid (Bk w0 w.heap.size 26 #[Value.int IntKind.u64 e, Value.slice A n c]) := Lib.hid (by subst hw0; exact Bk.new _ _ _)
  rw [← hw0]
  clear hw0
  go_loopg [5] m (fun z v wr => ∃ k : Nat, z = m - k ∧ k ≤ m ∧ v = .int .i64 k ∧ Hid (∀ x ∈ (L.map Cg.cv).take k, x.1 ≠ (e, l)) ∧ Hid (Ext w0 wr))
  case atStart => exact ⟨0, rfl, Nat.zero_le _, rfl, Lib.hid (by simp), Lib.hid (Ext.refl _)⟩
  case round =>
    obtain ⟨k, rfl, hk, rfl, HF, HE⟩ := hrel
    have g0 : wr.cell? ⟨gc, 0, none⟩ = some (.slice AL m cL) := (hb.out.ext (X0.out.trans HE.out)).cell 0
    have g1 : ∀ y : Xt wr, y.W.cell? ⟨gc, 0, none⟩ = some (.slice AL m cL) := fun y => (hb.out.ext ((X0.out.trans HE.out).trans y.x)).cell 0
    by_cases hlt : k < m
    · have b0 : ∀ y : Xt wr, y.W.cell? ⟨w.heap.size, 0, none⟩ = some (.int .u64 e) := fun y => (B0.out.ext (HE.out.trans y.x)).cell 0
      have b1 : ∀ y : Xt wr, y.W.cell? ⟨w.heap.size, 1, none⟩ = some (.slice A n c) := fun y => (B0.out.ext (HE.out.trans y.x)).cell 1
      have hkL : k < L.length := by rw [← hm.out]; exact hlt
      obtain ⟨f, Ax, nx, cx, lx, d, ad, T, hx, hnx⟩ := (hL.out.ext (X0.out.trans HE.out)).cgAt hkL
      have hfx := fL.out _ (getG_mem hkL)
      rw [hx] at hfx
      have UG : Hid (U32 lx) := Lib.hid hfx.1
      have hnx9 : nx ≤ 1000000 := by rw [hnx]; exact hfx.2
      have HKV := Lib.hid (getG_cv hkL)
      rw [hx] at HKV
      obtain ⟨rfl, q0, q1, q2, HXS⟩ := T
      have STY : ∀ y : Xt wr, Hid (Sl y.W 1 A n c (wds l)) := fun y => Lib.hid (ht.out.ext ((X0.out.trans HE.out).trans y.x))
      clear hx hkL hnx hfx
      obtain ⟨cv, hcv⟩ : ∃ cv, tcmp (f, lx) (e, l) = cv := ⟨_, rfl⟩
      have HCV := Lib.hid hcv
      clear hcv
      by_cases hz : cv = 0
      · have hz1 : (cv == 0) = true := by simpa using hz
        have HZ := Lib.hid hz
        clear hz
        go_wp2
        (refine wp_region_ext (by kernel_rfl) (by kernel_rfl) ?_; (repeat (go_big_quiet_step ((go_at_call 149; with_reducible exact call_ext (rtc_at f e Ax A nx n cx c lx l _ HCV (HXS _) (STY _) UG u hnx9 hn))))); refine wpQuiet_nil ?_; rintro _ ⟨y, rfl⟩)
        have y0 := g1 y
        have y2 := q2 y
        go_wp2
        go_ret
        refine ⟨?_, (X0.out.trans HE.out).trans y.x⟩
        obtain ⟨h1, h2⟩ := HKV.out
        have he : ((f, lx) : TV) = (e, l) := tcmp_zero.1 (HCV.out.trans HZ.out)
        rw [← HB.out, getC_take hK.out h1 (by rw [h2]; exact he), h2]
        rfl
      · have hz1 : (cv == 0) = false := by simpa using hz
        have HZ := Lib.hid hz
        clear hz
        go_wp2
        (refine wp_region_ext (by kernel_rfl) (by kernel_rfl) ?_; (repeat (go_big_quiet_step ((go_at_call 149; with_reducible exact call_ext (rtc_at f e Ax A nx n cx c lx l _ HCV (HXS _) (STY _) UG u hnx9 hn))))); refine wpQuiet_nil ?_; rintro _ ⟨y, rfl⟩)
        go_wp2
        go_roundg (m - (k + 1))
        case measure => omega
        case rel => exact ⟨k + 1, by omega, by omega, by go_num, Lib.hid (fun x hx h => by
            obtain ⟨h1, h2⟩ := HKV.out
            rcases (take_mem_succ h1 _).1 hx with hx | hx
            · exact HF.out x hx h
            · rw [hx, h2] at h
              exact HZ.out (HCV.out.symm.trans (tcmp_zero.2 h))), Lib.hid (HE.out.trans y.x)⟩
    · obtain rfl : m = k := by omega
      go_wp2
      go_ret
      refine ⟨?_, X0.out.trans HE.out⟩
      have := HF.out
      rw [List.take_of_length_le (by rw [List.length_map, hm.out]; exact Nat.le_refl _)] at this
      rw [← HB.out, getC_none this]
      rfl
end Go.Proofs.YtdgbkpoickbidaaGreatDoor
namespace Go.Proofs.YtdgbkpoickbidaaGreatDoor
open Go.RowKit

def tv (L : List Tm) (i : Nat) : TV := (L.getD i Tm.zero).v
/-- the k-th strikes the i-th -/
def badL (L : List Tm) (i k : Nat) : Bool := (tleq (tv L k) (tv L i) && !decide (tcmp (tv L k) (tv L i) = 0)) || (decide (tcmp (tv L k) (tv L i) = 0) && decide (k < i))
def leastL (L : List Tm) (i k : Nat) : Bool := (List.range k).all fun j => !badL L i j
theorem leastL_succ (L : List Tm) (i k : Nat) : leastL L i (k + 1) = (leastL L i k && !badL L i k) := by
  unfold leastL
  rw [List.range_succ, List.all_append]
  simp
theorem take_snocT' {L : List Tm} {i : Nat} (h : i < L.length) : L.take (i + 1) = L.take i ++ [L.getD i Tm.zero] := by
  rw [List.take_succ_eq_append_getElem h, List.getD_eq_getElem?_getD, List.getElem?_eq_getElem h]
  rfl
theorem tv_get {L : List Tm} {i : Nat} (h : i < (L.map Tm.v).length) : (L.map Tm.v)[i] = tv L i := getT_v (by rwa [List.length_map] at h)
theorem leastL_true {L : List Tm} {i : Nat} (hi : i < (L.map Tm.v).length) (h : leastL L i L.length = true) : Least (L.map Tm.v) (L.map Tm.v)[i] ∧ (L.map Tm.v)[i] ∉ (L.map Tm.v).take i := by
  have hb : ∀ k, k < L.length → badL L i k = false := fun k hk => by
    have := List.all_eq_true.1 h k (List.mem_range.2 hk)
    simpa using this
  refine ⟨⟨List.getElem_mem hi, fun u hu huv => ?_⟩, fun hm => ?_⟩
  · obtain ⟨k, hk, rfl⟩ := List.getElem_of_mem hu
    rw [tv_get hk, tv_get hi] at huv ⊢
    have := hb k (by simpa using hk)
    unfold badL at this
    rw [huv] at this
    simp at this
    exact tcmp_zero.1 this.1
  · obtain ⟨k, hk, e⟩ := List.mem_take_iff_getElem.1 hm
    rw [tv_get (by omega), tv_get hi] at e
    have := hb k (by have := hi; rw [List.length_map] at this; omega)
    unfold badL at this
    rw [e, tcmp_zero.2 rfl] at this
    simp at this
    omega
theorem leastL_false {L : List Tm} {i : Nat} (hi : i < (L.map Tm.v).length) (h : leastL L i L.length = false) (hl : Least (L.map Tm.v) (L.map Tm.v)[i]) : (L.map Tm.v)[i] ∈ (L.map Tm.v).take i := by
  have : ∃ k, k < L.length ∧ badL L i k = true := by
    apply Classical.byContradiction
    intro hn
    have : leastL L i L.length = true := List.all_eq_true.2 fun k hk => by
      cases hb : badL L i k with
      | false => rfl
      | true => exact absurd ⟨k, List.mem_range.1 hk, hb⟩ hn
    rw [this] at h
    exact absurd h (by decide)
  obtain ⟨k, hk, hb⟩ := this
  have hkv : k < (L.map Tm.v).length := by rw [List.length_map]; exact hk
  unfold badL at hb
  rw [Bool.or_eq_true, Bool.and_eq_true, Bool.and_eq_true] at hb
  rcases hb with ⟨h1, h2⟩ | ⟨h1, h2⟩
  · have e := hl.2 (L.map Tm.v)[k] (List.getElem_mem hkv) (by rw [tv_get hkv, tv_get hi]; exact h1)
    rw [tv_get hkv, tv_get hi] at e
    rw [e, tcmp_zero.2 rfl] at h2
    simp at h2
  · have h1 := tcmp_zero.1 (of_decide_eq_true h1)
    have h2 := of_decide_eq_true h2
    rw [← tv_get hkv, ← tv_get hi] at h1
    rw [← h1]
    exact List.mem_take_iff_getElem.2 ⟨k, by omega, rfl⟩
def RofOut (V : List TV) (w : World) (e : Ending) (w' : World) : Prop := ∃ A c n M, e = .returned (.slice A n c) ∧ n = List.length M ∧ Tin w' A c M ∧ M.map Tm.v = V ∧ Ext w w'
/-- the same, and where the answer lies -/
def RofOutO (L : List Tm) (V : List TV) (w : World) (e : Ending) (w' : World) : Prop := ∃ A c n M, e = .returned (.slice A n c) ∧ n = List.length M ∧ Tin w' A c M ∧ M.map Tm.v = V ∧ Ext w w' ∧ Own w' w.heap.size 26 2 A n c (tmsC M) ∧ ∀ x ∈ M, x ∈ L
/-- how it stands when so many have been looked at -/
structure RofI (w : World) (L : List Tm) (wr : World) (i n : Nat) (A : Option Addr) (c : Nat) (M : List Tm) : Prop where
  len : n = M.length
  le : n ≤ i
  tin : Tin wr A c M
  sub : ∀ x ∈ M, x ∈ L
  up : OfUpto (L.map Tm.v) (L.map Tm.v) i (M.map Tm.v)
  ext : Ext w wr
  own : Own wr w.heap.size 26 2 A n c (tmsC M)
theorem RofI.skip {w wr w2 : World} {L M : List Tm} {i n c : Nat} {A : Option Addr} (h : RofI w L wr i n A c M) (hi : i < L.length) (hb : leastL L i L.length = false) (x : Ext wr w2) : RofI w L w2 (i + 1) n A c M :=
  ⟨h.len, by have := h.le; omega, h.tin.ext x, h.sub, h.up.skipR (by rw [List.length_map]; exact hi) (leastL_false (by rw [List.length_map]; exact hi) hb), h.ext.trans x, h.own.ext x⟩
theorem RofI.put {A0 : Option Addr} {c0 : Nat} {w wr w6 : World} {L M : List Tm} {i n c j m : Nat} {A A6 : Option Addr} {c6 : Nat} (hL : Tin w A0 c0 L) (h : RofI w L wr i n A c M) (hi : i < L.length) (hb : leastL L i L.length = true) (hj : j ≤ n)
    (h1 : ∀ x ∈ M.take j, tcmp x.v (tv L i) < 0) (h2 : ∀ x, (M.drop j).head? = some x → ¬ tcmp x.v (tv L i) < 0) (hm : m = n + 1) (x6 : Ext wr w6)
    (o : Own w6 wr.heap.size 26 2 A6 m c6 (tmsC (M.take j) ++ tmC (L.getD i Tm.zero) ++ tmsC (M.drop j))) : RofI w L w6 (i + 1) m A6 c6 (M.take j ++ [L.getD i Tm.zero] ++ M.drop j) := by
  have hiV : i < (L.map Tm.v).length := by rw [List.length_map]; exact hi
  obtain ⟨q1, q2⟩ := leastL_true hiV hb
  have hlen : m = (M.take j ++ [L.getD i Tm.zero] ++ M.drop j).length := by
    have := h.len
    simp
    omega
  have hsub : ∀ x ∈ M.take j ++ [L.getD i Tm.zero] ++ M.drop j, x ∈ L := fun x hx => by
    rcases List.mem_append.1 hx with hx | hx
    · rcases List.mem_append.1 hx with hx | hx
      · exact h.sub x (List.mem_of_mem_take hx)
      · rw [List.mem_singleton.1 hx]; exact getT_mem hi
    · exact h.sub x (List.mem_of_mem_drop hx)
  refine ⟨hlen, by have := h.le; omega, ⟨?_, fun x hx => ((hL.ls x (hsub x hx)).ext (h.ext.trans x6))⟩, hsub, ?_, h.ext.trans x6, ?_⟩
  · rw [← hlen, tmsC_append, tmsC_append, show tmsC [L.getD i Tm.zero] = tmC (L.getD i Tm.zero) by simp [tmsC]]
    exact o.sl
  · have e : (M.take j ++ [L.getD i Tm.zero] ++ M.drop j).map Tm.v = (M.take j).map Tm.v ++ [(L.map Tm.v)[i]] ++ (M.drop j).map Tm.v := by
      rw [List.map_append, List.map_append, tv_get hiV]
      rfl
    rw [e]
    refine OfUpto.putR (by rw [← List.map_append, List.take_append_drop]; exact h.up) hiV q1 (fun x hx => ?_) (fun x hx => ?_) q2
    · obtain ⟨y, hy, rfl⟩ := List.mem_map.1 hx
      rw [tv_get hiV]
      exact h1 y hy
    · rw [List.head?_map] at hx
      cases hd : (M.drop j).head? with
      | none => rw [hd] at hx; simp at hx
      | some y =>
        rw [hd] at hx
        injection hx with hx
        subst hx
        rw [tv_get hiV]
        exact h2 y hd
  · rw [tmsC_append, tmsC_append, show tmsC [L.getD i Tm.zero] = tmC (L.getD i Tm.zero) by simp [tmsC]]
    exact o.mono h.ext.size

theorem RofI.grow {w wr w2 : World} {L M : List Tm} {i n c : Nat} {A : Option Addr} (h : RofI w L wr i n A c M) (x : Ext wr w2) : RofI w L w2 i n A c M := ⟨h.len, h.le, h.tin.ext x, h.sub, h.up, h.ext.trans x, h.own.ext x⟩
def CmpGe (L M : List Tm) (i j : Nat) : Prop := ∀ x, (M.drop j).head? = some x → ¬ tcmp x.v (tv L i) < 0
def CmpLt (L M : List Tm) (i j : Nat) : Prop := ∀ x ∈ M.take j, tcmp x.v (tv L i) < 0
set_option maxRecDepth 100000 in
set_option maxHeartbeats 16000000 in
theorem rof5_own (AL : Option Addr) (cL m : Nat) (L : List Tm) (w : World) (hm : Hid (m = L.length)) (hL : Hid (Tin w AL cL L)) (fL : Hid (∀ x ∈ L, U32 x.l ∧ x.l.length ≤ 1000000)) (h9 : m ≤ 1000000) :
    Calls Tryz.prog 151 #[.slice AL m cL] w (RofOutO L (ofV (L.map Tm.v)) w) := by
  have HI0 : Hid (RofI w L w 0 0 none 0 []) := Lib.hid ⟨rfl, Nat.le_refl _, Tin.nil w, fun x hx => (nomatch hx), OfUpto.zero _ _, Ext.refl _, Own.nil _ _ _ _⟩
  go_enter Tryz.func151, Tryz.ntmps151
  go_wp2
  go_loopg [3, 4] m (fun z v3 v4 wr => ∃ (i n3 : Nat) (A3 : Option Addr) (c3 : Nat) (M : List Tm), z = m - i ∧ i ≤ m ∧ v4 = .int .i64 i ∧ v3 = .slice A3 n3 c3 ∧ Hid (RofI w L wr i n3 A3 c3 M))
  case atStart => exact ⟨0, 0, none, 0, [], rfl, Nat.zero_le _, rfl, rfl, HI0⟩
  case round =>
    clear HI0
    obtain ⟨i, n3, A3, c3, M, rfl, hi, rfl, rfl, HP⟩ := hrel
    have hn3 : n3 ≤ i := HP.out.le
    obtain ⟨wo, hwo⟩ : ∃ wo : World, wo = wr := ⟨_, rfl⟩
    rw [← hwo] at HP ⊢
    clear hwo
    by_cases hlt : i < m
    · have hiL : i < L.length := by rw [← hm.out]; exact hlt
      have HIL := Lib.hid hiL
      have hxx := getT_mem hiL
      have hf := fL.out _ hxx
      obtain ⟨x, hx⟩ : ∃ x, L.getD i Tm.zero = x := ⟨_, rfl⟩
      have hxa : ∀ W, Ext wo W → ∃ ad, AL = some ad ∧ W.cell? (ad.add (i * 2)) = some (.int .u64 x.e) ∧ W.cell? ⟨(ad.add (i * 2)).block, (ad.add (i * 2)).off + 1, none⟩ = some (.slice x.A x.l.length x.c) := fun W q => by
        have := (hL.out.ext (HP.out.ext.trans q)).at hiL
        rwa [hx] at this
      have hxs : ∀ W, Ext wo W → Sl W 1 x.A x.l.length x.c (wds x.l) := fun W q => by
        have := (hL.out.ext (HP.out.ext.trans q)).ls _ hxx
        rwa [hx] at this
      rw [hx] at hf
      have HX := Lib.hid hx
      obtain ⟨f, Bx, cx, lx⟩ := x
      obtain ⟨nx, hnx⟩ : ∃ nx, lx.length = nx := ⟨_, rfl⟩
      dsimp only at hxa hxs hf
      have HXC : Hid (tmC (L.getD i Tm.zero) = [.int .u64 f, .slice Bx nx cx]) := Lib.hid (by rw [hx, ← hnx]; rfl)
      have HTV : Hid (tv L i = (f, lx)) := Lib.hid (by unfold tv; rw [hx]; rfl)
      simp only [hnx] at hxa hxs hf
      have HXA := Lib.hid hxa
      have HXS := Lib.hid hxs
      have UX := Lib.hid hf.1
      have hnx9 := hf.2
      clear hx hnx hxa hxs hf hxx hiL
      go_wp2
      go_loopg [5, 6] m (fun z v5 v6 wr => ∃ (k : Nat) (b : Bool), z = m - k ∧ k ≤ m ∧ v6 = .int .i64 k ∧ v5 = .bool b ∧ Hid (leastL L i k = b) ∧ Hid (Ext wo wr))
      case atStart => exact ⟨0, true, rfl, Nat.zero_le _, rfl, rfl, Lib.hid rfl, Lib.hid (Ext.refl _)⟩
      case round =>
        obtain ⟨k, b, rfl, hk, rfl, rfl, HB, HE⟩ := hrel
        by_cases hlk : k < m
        · have hkL : k < L.length := by rw [← hm.out]; exact hlk
          obtain ⟨ad, eA, q0, q1⟩ := HXA.out wr HE.out
          subst eA
          obtain ⟨g, Ag, ng, cg, lg, ad2, T, hg, hng⟩ := (hL.out.ext (HP.out.ext.trans HE.out)).tmAt hkL
          obtain ⟨e2, r0, r1, RS⟩ := T
          obtain rfl : ad = ad2 := by injection e2
          have hfg := fL.out _ (getT_mem hkL)
          rw [hg] at hfg
          have UG : Hid (U32 lg) := Lib.hid hfg.1
          have hng9 : ng ≤ 1000000 := by rw [hng]; exact hfg.2
          have HTK : Hid (tv L k = (g, lg)) := Lib.hid (by unfold tv; rw [hg]; rfl)
          clear hg hng hfg hkL e2
          obtain ⟨cv, hcv⟩ : ∃ cv, tcmp (g, lg) (f, lx) = cv := ⟨_, rfl⟩
          have HCV := Lib.hid hcv
          clear hcv
          have qq0 : ∀ y : Xt wr, y.W.cell? (ad.add (i * 2)) = some (.int .u64 f) := fun y => y.x.cell q0
          have qq1 : ∀ y : Xt wr, y.W.cell? ⟨(ad.add (i * 2)).block, (ad.add (i * 2)).off + 1, none⟩ = some (.slice Bx nx cx) := fun y => y.x.cell q1
          have SXY : ∀ y : Xt wr, Hid (Sl y.W 1 Bx nx cx (wds lx)) := fun y => Lib.hid (HXS.out _ (HE.out.trans y.x))
          clear q0 q1
          rcases hah : tleq (g, lg) (f, lx) with _ | _
          all_goals
            have HT1 := Lib.hid hah
            clear hah
            by_cases hz : cv = 0
            all_goals
              by_cases hki : k < i
              all_goals
                have HZ := Lib.hid hz
                have HKI := Lib.hid hki
                have hbad : Hid (badL L i k = ((_root_.id (tleq (g, lg) (f, lx)) && !decide (cv = 0)) || (decide (cv = 0) && decide (k < i)))) := Lib.hid (by unfold badL; rw [HTV.out, HTK.out, HCV.out]; rfl)
                first
                  | (have hz1 : (cv == 0) = true := (by simpa using hz); clear hz; skip)
                  | (have hz1 : (cv == 0) = false := (by simpa using hz); clear hz; skip)
                first
                  | (have hk1 : decide ((k : Int) < (i : Int)) = true := (by simp; omega); clear hki; skip)
                  | (have hk1 : decide ((k : Int) < (i : Int)) = false := (by simp; omega); clear hki; skip)
                go_wp2
                (refine wp_region_ext (by kernel_rfl) (by kernel_rfl) ?_; (repeat (go_big_quiet_step ((go_at_call 119; with_reducible exact call_ext (rtq_at g f Ag Bx ng nx cg cx lg lx _ HT1 (RS _) (SXY _)))))); refine wpQuiet_nil ?_; rintro _ ⟨y1, rfl⟩)
                have rr0 : ∀ y : Xt y1.W, y.W.cell? (ad.add (k * 2)) = some (.int .u64 g) := fun y => r0 ⟨_, y1.x.trans y.x⟩
                have rr1 : ∀ y : Xt y1.W, y.W.cell? ⟨(ad.add (k * 2)).block, (ad.add (k * 2)).off + 1, none⟩ = some (.slice Ag ng cg) := fun y => r1 ⟨_, y1.x.trans y.x⟩
                have ss0 : ∀ y : Xt y1.W, y.W.cell? (ad.add (i * 2)) = some (.int .u64 f) := fun y => qq0 ⟨_, y1.x.trans y.x⟩
                have ss1 : ∀ y : Xt y1.W, y.W.cell? ⟨(ad.add (i * 2)).block, (ad.add (i * 2)).off + 1, none⟩ = some (.slice Bx nx cx) := fun y => qq1 ⟨_, y1.x.trans y.x⟩
                have RS2 : ∀ y : Xt y1.W, Hid (Sl y.W 1 Ag ng cg (wds lg)) := fun y => RS ⟨_, y1.x.trans y.x⟩
                have SX2 : ∀ y : Xt y1.W, Hid (Sl y.W 1 Bx nx cx (wds lx)) := fun y => SXY ⟨_, y1.x.trans y.x⟩
                have HE2 := Lib.hid (HE.out.trans y1.x)
                clear r0 r1 qq0 qq1 RS SXY
                go_wp2
                (refine wp_region_ext (by kernel_rfl) (by kernel_rfl) ?_; (repeat (go_big_quiet_step ((go_at_call 149; with_reducible exact call_ext (rtc_at g f Ag Bx ng nx cg cx lg lx _ HCV (RS2 _) (SX2 _) UG UX hng9 hnx9))))); refine wpQuiet_nil ?_; rintro _ ⟨y2, rfl⟩)
                clear rr0 rr1 ss0 ss1 RS2 SX2
                go_wp2
                go_roundg (m - (k + 1))
                case measure => omega
                case rel =>
                  refine ⟨k + 1, _, by omega, by omega, by go_num, rfl, Lib.hid ?_, Lib.hid (HE2.out.trans y2.x)⟩
                  rw [leastL_succ, HB.out, hbad.out, HT1.out]
                  have a := HZ.out
                  have b := HKI.out
                  simp [a, b]
        · obtain rfl : m = k := by omega
          have HLE : Hid (leastL L i L.length = b) := Lib.hid (by rw [← hm.out]; exact HB.out)
          cases b with
          | false =>
            go_wp2
            go_roundg (m - (i + 1))
            case measure => omega
            case rel => exact ⟨i + 1, n3, A3, c3, M, by omega, by omega, by go_num, rfl, Lib.hid (HP.out.skip HIL.out HLE.out HE.out)⟩
          | true =>
            obtain ⟨wl, hwl⟩ : ∃ wl : World, wl = wr := ⟨_, rfl⟩
            rw [← hwl] at HE ⊢
            clear hwl
            go_wp2
            go_loopg [9] n3 (fun z v9 wr => ∃ j : Nat, z = n3 - j ∧ j ≤ n3 ∧ v9 = .int .i64 j ∧ Hid (CmpLt L M i j) ∧ Hid (Ext wo wr))
            case atStart => exact ⟨0, rfl, Nat.zero_le _, rfl, Lib.hid (fun x hx => by simp at hx), HE⟩
            case round =>
              obtain ⟨j, rfl, hj, rfl, HLT, HE3⟩ := hrel
              by_cases hlj : j < n3
              · have hjM : j < M.length := by rw [← HP.out.len]; exact hlj
                obtain ⟨ad, eA, q0, q1⟩ := HXA.out wr HE3.out
                subst eA
                obtain ⟨g, Ag, ng, cg, lg, ad2, T, hg, hng⟩ := (HP.out.tin.ext HE3.out).tmAt hjM
                obtain ⟨e2, r0, r1, RS⟩ := T
                subst e2
                have hfg := fL.out _ (HP.out.sub _ (getT_mem hjM))
                rw [hg] at hfg
                have UG : Hid (U32 lg) := Lib.hid hfg.1
                have hng9 : ng ≤ 1000000 := by rw [hng]; exact hfg.2
                have HTK : Hid (M.getD j Tm.zero = ⟨g, Ag, cg, lg⟩) := Lib.hid hg
                have HJM := Lib.hid hjM
                clear hg hng hfg hjM
                obtain ⟨cv, hcv⟩ : ∃ cv, tcmp (g, lg) (f, lx) = cv := ⟨_, rfl⟩
                have HCV := Lib.hid hcv
                clear hcv
                have qq0 : ∀ y : Xt wr, y.W.cell? (ad.add (i * 2)) = some (.int .u64 f) := fun y => y.x.cell q0
                have qq1 : ∀ y : Xt wr, y.W.cell? ⟨(ad.add (i * 2)).block, (ad.add (i * 2)).off + 1, none⟩ = some (.slice Bx nx cx) := fun y => y.x.cell q1
                have SXY : ∀ y : Xt wr, Hid (Sl y.W 1 Bx nx cx (wds lx)) := fun y => Lib.hid (HXS.out _ (HE3.out.trans y.x))
                clear q0 q1
                by_cases hneg : cv < 0
                · have hn1 : decide (cv < 0) = true := by simpa using hneg
                  have HNEG := Lib.hid hneg
                  clear hneg
                  go_wp2
                  (refine wp_region_ext (by kernel_rfl) (by kernel_rfl) ?_; (repeat (go_big_quiet_step ((go_at_call 149; with_reducible exact call_ext (rtc_at g f Ag Bx ng nx cg cx lg lx _ HCV (RS _) (SXY _) UG UX hng9 hnx9))))); refine wpQuiet_nil ?_; rintro _ ⟨y2, rfl⟩)
                  clear r0 r1 qq0 qq1 RS SXY
                  go_wp2
                  go_roundg (n3 - (j + 1))
                  case measure => omega
                  case rel =>
                    refine ⟨j + 1, by omega, by omega, by go_num, Lib.hid (fun x hx => ?_), Lib.hid (HE3.out.trans y2.x)⟩
                    rw [take_snocT' HJM.out] at hx
                    rcases List.mem_append.1 hx with hx | hx
                    · exact HLT.out x hx
                    · rw [List.mem_singleton.1 hx, HTK.out, HTV.out]
                      show tcmp (g, lg) (f, lx) < 0
                      rw [HCV.out]; exact HNEG.out
                · have hn1 : decide (cv < 0) = false := by simpa using hneg
                  have HNEG := Lib.hid hneg
                  clear hneg
                  have HGT : Hid (CmpGe L M i j) := Lib.hid (fun x hx => by
                    rw [List.head?_drop, List.getElem?_eq_getElem HJM.out] at hx
                    injection hx with hx
                    have : M.getD j Tm.zero = x := by rw [List.getD_eq_getElem?_getD, List.getElem?_eq_getElem HJM.out]; exact hx
                    rw [← this, HTK.out, HTV.out]
                    show ¬ tcmp (g, lg) (f, lx) < 0
                    rw [HCV.out]; exact HNEG.out)
                  go_wp2
                  (refine wp_region_ext (by kernel_rfl) (by kernel_rfl) ?_; (repeat (go_big_quiet_step ((go_at_call 149; with_reducible exact call_ext (rtc_at g f Ag Bx ng nx cg cx lg lx _ HCV (RS _) (SXY _) UG UX hng9 hnx9))))); refine wpQuiet_nil ?_; rintro _ ⟨y2, rfl⟩)
                  clear r0 r1 qq0 qq1 RS SXY
                  have HE3 := Lib.hid (HE3.out.trans y2.x)
                  obtain ⟨wr, hwr⟩ : ∃ W : World, W = y2.W := ⟨_, rfl⟩
                  rw [← hwr] at HE3 ⊢
                  clear hwr
                  obtain ⟨ad0, eL, x0, x1⟩ := HXA.out wr HE3.out
                  obtain rfl : ad = ad0 := by injection eL
                  have HP := Lib.hid (HP.out.grow HE3.out)
                  have ST : Hid (Sl wr 2 (some ad2) j c3 (tmsC (M.take j))) := Lib.hid (by have := Sl.take (k := j) HP.out.tin.sl (by rw [← HP.out.len]; omega); rwa [tmsC_take] at this)
                  have SD : Hid (Sl wr 2 (if c3 = j then (some ad2) else (some ad2).map (·.add (j * 2))) (n3 - j) (c3 - j) (tmsC (M.drop j))) := Lib.hid (by have := Sl.drop (k := j) HP.out.tin.sl (by rw [← HP.out.len]; omega); rwa [tmsC_drop, ← HP.out.len] at this)
                  have hnc3 : n3 ≤ c3 ∧ c3 ≤ 9223372036854775807 := by have := HP.out.tin.sl.cap; rwa [← HP.out.len] at this
                  have hcj : ¬ c3 = j := by omega
                  have p1 : True := trivial
                  go_wp2_with (first
                    | (at_builtin; have mk := p1; clear p1 mk; go_loud (refine wpList_append_two _ elemTimes wr.heap.size _ _ rfl rfl none 0 0 [] rfl (Own.nil _ _ _ _) (some ad2) j c3 (tmsC (M.take j)) rfl ST.out (tmsC_one _) (by omega) (by decide) (Nat.le_refl _) ?_); intro A4 c4 w4 o4 g4 h4; clear h4; have y4 : Ext wr w4 := Ext.grown (Ext.refl _) g4 (fun k e => nomatch e); have O4 : Hid (Own w4 wr.heap.size 26 2 A4 j c4 (tmsC (M.take j))) := Lib.hid (by have := o4; rwa [Nat.zero_add, List.nil_append] at this); have e0 := y4.cell x0; have e1 := y4.cell x1; have Y4 := Lib.hid y4; clear o4 g4 y4; have p2 : True := trivial)
                    | (at_builtin; have mk := p2; clear p2 mk; go_loud (refine wpList_append_two _ elemTimes wr.heap.size _ _ rfl rfl A4 j c4 (tmsC (M.take j)) rfl (O4.out.alloc _) (some ⟨w4.heap.size, 0, none⟩) 1 1 [.int .u64 f, .slice Bx nx cx] rfl (Sl.one w4 #[.int .u64 f, .slice Bx nx cx] 26 2 rfl) (by intro u hu; simp at hu; rcases hu with rfl | rfl <;> rfl) (by omega) (by decide) (Nat.le_trans Y4.out.size ((Ext.refl w4).alloc _).size) ?_); intro A5 c5 w5 o5 g5 h5; clear h5; have Y5 : Hid (Ext wr w5) := Lib.hid (Ext.grown (Y4.out.alloc _) g5 (fun k e => (O4.out.lt k e).1)); have O5 := Lib.hid o5; clear o5 g5; have p3 : True := trivial)
                    | (at_builtin; have mk := p3; clear p3 mk; go_loud (refine wpList_append_two _ elemTimes wr.heap.size _ _ rfl rfl A5 (j + 1) c5 _ rfl O5.out (some (ad2.add (j * 2))) (n3 - j) (c3 - j) (tmsC (M.drop j)) rfl ((Sl.ext (by have := SD.out; rw [if_neg hcj] at this; exact this) Y5.out)) (tmsC_one _) (by omega) (by decide) Y5.out.size ?_); intro A6 c6 w6 o6 g6 h6; clear h6; have Y6 : Hid (Ext wr w6) := Lib.hid (Ext.grown Y5.out g6 (fun k e => (O5.out.lt k e).1)); have O6 := Lib.hid o6; clear o6 g6)
                    | fail)
                  go_roundg (m - (i + 1))
                  case measure => omega
                  case rel => exact ⟨i + 1, _, A6, c6, _, by omega, by omega, by go_num, rfl, Lib.hid (RofI.put (m := j + 1 + (n3 - j)) hL.out HP.out HIL.out HLE.out (j := j) (by omega) HLT.out HGT.out (by omega) Y6.out (by have := O6.out; rw [HXC.out]; exact this))⟩
              · obtain rfl : n3 = j := by omega
                have HGT : Hid (CmpGe L M i n3) := Lib.hid (fun x hx => by rw [List.drop_of_length_le (by rw [← HP.out.len]; exact Nat.le_refl _)] at hx; simp at hx)
                go_wp2
                (refine wp_region_ext (by kernel_rfl) (by kernel_rfl) ?_; (repeat (go_big_quiet_step (fail))); refine wpQuiet_nil ?_; rintro _ ⟨y2, rfl⟩)
                have HE3 := Lib.hid (HE3.out.trans y2.x)
                obtain ⟨wr, hwr⟩ : ∃ W : World, W = y2.W := ⟨_, rfl⟩
                rw [← hwr] at HE3 ⊢
                clear hwr
                obtain ⟨ad0, eL, x0, x1⟩ := HXA.out wr HE3.out
                subst eL
                have HP := Lib.hid (HP.out.grow HE3.out)
                have ST : Hid (Sl wr 2 A3 n3 c3 (tmsC (M.take n3))) := Lib.hid (by have := Sl.take (k := n3) HP.out.tin.sl (by rw [← HP.out.len]; omega); rwa [tmsC_take] at this)
                have SD : Hid (Sl wr 2 (if c3 = n3 then A3 else A3.map (·.add (n3 * 2))) (n3 - n3) (c3 - n3) (tmsC (M.drop n3))) := Lib.hid (by have := Sl.drop (k := n3) HP.out.tin.sl (by rw [← HP.out.len]; omega); rwa [tmsC_drop, ← HP.out.len] at this)
                have hnc3 : n3 ≤ c3 ∧ c3 ≤ 9223372036854775807 := by have := HP.out.tin.sl.cap; rwa [← HP.out.len] at this
                cases A3 with
                | none =>
                  obtain rfl : c3 = 0 := HP.out.tin.sl.2.2.2.1 rfl
                  have hn0 : n3 = 0 := by omega
                  subst hn0
                  have p1 : True := trivial
                  go_wp2_with (first
                    | (at_builtin; have mk := p1; clear p1 mk; go_loud (refine wpList_append_two _ elemTimes wr.heap.size _ _ rfl rfl none 0 0 [] rfl (Own.nil _ _ _ _) none 0 0 (tmsC (M.take 0)) rfl ST.out (tmsC_one _) (by omega) (by decide) (Nat.le_refl _) ?_); intro A4 c4 w4 o4 g4 h4; clear h4; have y4 : Ext wr w4 := Ext.grown (Ext.refl _) g4 (fun k e => nomatch e); have O4 : Hid (Own w4 wr.heap.size 26 2 A4 0 c4 (tmsC (M.take 0))) := Lib.hid (by have := o4; rwa [Nat.zero_add, List.nil_append] at this); have e0 := y4.cell x0; have e1 := y4.cell x1; have Y4 := Lib.hid y4; clear o4 g4 y4; have p2 : True := trivial)
                    | (at_builtin; have mk := p2; clear p2 mk; go_loud (refine wpList_append_two _ elemTimes wr.heap.size _ _ rfl rfl A4 0 c4 (tmsC (M.take 0)) rfl (O4.out.alloc _) (some ⟨w4.heap.size, 0, none⟩) 1 1 [.int .u64 f, .slice Bx nx cx] rfl (Sl.one w4 #[.int .u64 f, .slice Bx nx cx] 26 2 rfl) (by intro u hu; simp at hu; rcases hu with rfl | rfl <;> rfl) (by omega) (by decide) (Nat.le_trans Y4.out.size ((Ext.refl w4).alloc _).size) ?_); intro A5 c5 w5 o5 g5 h5; clear h5; have Y5 : Hid (Ext wr w5) := Lib.hid (Ext.grown (Y4.out.alloc _) g5 (fun k e => (O4.out.lt k e).1)); have O5 := Lib.hid o5; clear o5 g5; have p3 : True := trivial)
                    | (at_builtin; have mk := p3; clear p3 mk; go_loud (refine wpList_append_two _ elemTimes wr.heap.size _ _ rfl rfl A5 (0 + 1) c5 _ rfl O5.out none (0) (0) (tmsC (M.drop 0)) rfl ((Sl.ext (by have := SD.out; simpa using this) Y5.out)) (tmsC_one _) (by omega) (by decide) Y5.out.size ?_); intro A6 c6 w6 o6 g6 h6; clear h6; have Y6 : Hid (Ext wr w6) := Lib.hid (Ext.grown Y5.out g6 (fun k e => (O5.out.lt k e).1)); have O6 := Lib.hid o6; clear o6 g6)
                    | fail)
                  go_roundg (m - (i + 1))
                  case measure => omega
                  case rel => exact ⟨i + 1, _, A6, c6, _, by omega, by omega, by go_num, rfl, Lib.hid (RofI.put (m := 0 + 1 + (0)) hL.out HP.out HIL.out HLE.out (j := 0) (by omega) HLT.out HGT.out (by omega) Y6.out (by have := O6.out; rw [HXC.out]; exact this))⟩
                | some a3 =>
                  by_cases hcj : c3 = n3
                  · subst hcj
                    have p1 : True := trivial
                    go_wp2_with (first
                      | (at_builtin; have mk := p1; clear p1 mk; go_loud (refine wpList_append_two _ elemTimes wr.heap.size _ _ rfl rfl none 0 0 [] rfl (Own.nil _ _ _ _) (some a3) c3 c3 (tmsC (M.take c3)) rfl ST.out (tmsC_one _) (by omega) (by decide) (Nat.le_refl _) ?_); intro A4 c4 w4 o4 g4 h4; clear h4; have y4 : Ext wr w4 := Ext.grown (Ext.refl _) g4 (fun k e => nomatch e); have O4 : Hid (Own w4 wr.heap.size 26 2 A4 c3 c4 (tmsC (M.take c3))) := Lib.hid (by have := o4; rwa [Nat.zero_add, List.nil_append] at this); have e0 := y4.cell x0; have e1 := y4.cell x1; have Y4 := Lib.hid y4; clear o4 g4 y4; have p2 : True := trivial)
                      | (at_builtin; have mk := p2; clear p2 mk; go_loud (refine wpList_append_two _ elemTimes wr.heap.size _ _ rfl rfl A4 c3 c4 (tmsC (M.take c3)) rfl (O4.out.alloc _) (some ⟨w4.heap.size, 0, none⟩) 1 1 [.int .u64 f, .slice Bx nx cx] rfl (Sl.one w4 #[.int .u64 f, .slice Bx nx cx] 26 2 rfl) (by intro u hu; simp at hu; rcases hu with rfl | rfl <;> rfl) (by omega) (by decide) (Nat.le_trans Y4.out.size ((Ext.refl w4).alloc _).size) ?_); intro A5 c5 w5 o5 g5 h5; clear h5; have Y5 : Hid (Ext wr w5) := Lib.hid (Ext.grown (Y4.out.alloc _) g5 (fun k e => (O4.out.lt k e).1)); have O5 := Lib.hid o5; clear o5 g5; have p3 : True := trivial)
                      | (at_builtin; have mk := p3; clear p3 mk; go_loud (refine wpList_append_two _ elemTimes wr.heap.size _ _ rfl rfl A5 (c3 + 1) c5 _ rfl O5.out _ (0) (0) (tmsC (M.drop c3)) rfl ((Sl.ext (by have := SD.out; rw [if_pos rfl, Nat.sub_self] at this; exact this) Y5.out)) (tmsC_one _) (by omega) (by decide) Y5.out.size ?_); intro A6 c6 w6 o6 g6 h6; clear h6; have Y6 : Hid (Ext wr w6) := Lib.hid (Ext.grown Y5.out g6 (fun k e => (O5.out.lt k e).1)); have O6 := Lib.hid o6; clear o6 g6)
                      | fail)
                    go_roundg (m - (i + 1))
                    case measure => omega
                    case rel => exact ⟨i + 1, _, A6, c6, _, by omega, by omega, by go_num, rfl, Lib.hid (RofI.put (m := c3 + 1 + (0)) hL.out HP.out HIL.out HLE.out (j := c3) (by omega) HLT.out HGT.out (by omega) Y6.out (by have := O6.out; rw [HXC.out]; exact this))⟩
                  · have p1 : True := trivial
                    go_wp2_with (first
                      | (at_builtin; have mk := p1; clear p1 mk; go_loud (refine wpList_append_two _ elemTimes wr.heap.size _ _ rfl rfl none 0 0 [] rfl (Own.nil _ _ _ _) (some a3) n3 c3 (tmsC (M.take n3)) rfl ST.out (tmsC_one _) (by omega) (by decide) (Nat.le_refl _) ?_); intro A4 c4 w4 o4 g4 h4; clear h4; have y4 : Ext wr w4 := Ext.grown (Ext.refl _) g4 (fun k e => nomatch e); have O4 : Hid (Own w4 wr.heap.size 26 2 A4 n3 c4 (tmsC (M.take n3))) := Lib.hid (by have := o4; rwa [Nat.zero_add, List.nil_append] at this); have e0 := y4.cell x0; have e1 := y4.cell x1; have Y4 := Lib.hid y4; clear o4 g4 y4; have p2 : True := trivial)
                      | (at_builtin; have mk := p2; clear p2 mk; go_loud (refine wpList_append_two _ elemTimes wr.heap.size _ _ rfl rfl A4 n3 c4 (tmsC (M.take n3)) rfl (O4.out.alloc _) (some ⟨w4.heap.size, 0, none⟩) 1 1 [.int .u64 f, .slice Bx nx cx] rfl (Sl.one w4 #[.int .u64 f, .slice Bx nx cx] 26 2 rfl) (by intro u hu; simp at hu; rcases hu with rfl | rfl <;> rfl) (by omega) (by decide) (Nat.le_trans Y4.out.size ((Ext.refl w4).alloc _).size) ?_); intro A5 c5 w5 o5 g5 h5; clear h5; have Y5 : Hid (Ext wr w5) := Lib.hid (Ext.grown (Y4.out.alloc _) g5 (fun k e => (O4.out.lt k e).1)); have O5 := Lib.hid o5; clear o5 g5; have p3 : True := trivial)
                      | (at_builtin; have mk := p3; clear p3 mk; go_loud (refine wpList_append_two _ elemTimes wr.heap.size _ _ rfl rfl A5 (n3 + 1) c5 _ rfl O5.out (some (a3.add (n3 * 2))) (0) (c3 - n3) (tmsC (M.drop n3)) rfl ((Sl.ext (by have := SD.out; rw [if_neg hcj, Nat.sub_self] at this; exact this) Y5.out)) (tmsC_one _) (by omega) (by decide) Y5.out.size ?_); intro A6 c6 w6 o6 g6 h6; clear h6; have Y6 : Hid (Ext wr w6) := Lib.hid (Ext.grown Y5.out g6 (fun k e => (O5.out.lt k e).1)); have O6 := Lib.hid o6; clear o6 g6)
                      | fail)
                    go_roundg (m - (i + 1))
                    case measure => omega
                    case rel => exact ⟨i + 1, _, A6, c6, _, by omega, by omega, by go_num, rfl, Lib.hid (RofI.put (m := n3 + 1 + (0)) hL.out HP.out HIL.out HLE.out (j := n3) (by omega) HLT.out HGT.out (by omega) Y6.out (by have := O6.out; rw [HXC.out]; exact this))⟩
    · obtain rfl : m = i := by omega
      have HV : Hid (M.map Tm.v = ofV (L.map Tm.v)) := Lib.hid ((show IsOf (L.map Tm.v) (M.map Tm.v) from OfUpto.done (S := L.map Tm.v) (by have := HP.out.up; rwa [show m = (L.map Tm.v).length by rw [List.length_map]; exact hm.out] at this) (fun _ => Iff.rfl)).eq)
      go_wp2
      go_ret
      exact ⟨A3, c3, n3, M, by simp, HP.out.len, HP.out.tin, HV.out, HP.out.ext, HP.out.own, HP.out.sub⟩
theorem rof5_any (AL : Option Addr) (cL m : Nat) (L : List Tm) (w : World) (hm : Hid (m = L.length)) (hL : Hid (Tin w AL cL L)) (fL : Hid (∀ x ∈ L, U32 x.l ∧ x.l.length ≤ 1000000)) (h9 : m ≤ 1000000) :
    Calls Tryz.prog 151 #[.slice AL m cL] w (RofOut (ofV (L.map Tm.v)) w) := (rof5_own AL cL m L w hm hL fL h9).mono (by rintro e w1 ⟨A, c, n, M, e1, h1, h2, h3, h4, _⟩; exact ⟨A, c, n, M, e1, h1, h2, h3, h4⟩)
end Go.Proofs.YtdgbkpoickbidaaGreatDoor
namespace Go.Proofs.YtdgbkpoickbidaaGreatDoor
open Go.RowKit

def liveT (L : List Cg) (k : Nat) : List Tm := ((L.take k).filter fun x => decide (0 < x.d)).map Cg.t
theorem liveT_len (L : List Cg) (k : Nat) : (liveT L k).length ≤ k := by
  unfold liveT
  rw [List.length_map]
  have := List.length_filter_le (fun x : Cg => decide (0 < x.d)) (L.take k)
  rw [List.length_take] at this
  omega
theorem liveT_succ {L : List Cg} {k : Nat} (h : k < L.length) : liveT L (k + 1) = liveT L k ++ (if 0 < (L.getD k Cg.zero).d then [(L.getD k Cg.zero).t] else []) := by
  unfold liveT
  rw [List.take_succ_eq_append_getElem h, List.filter_append, List.map_append, List.getD_eq_getElem?_getD, List.getElem?_eq_getElem h]
  simp only [Option.getD_some]
  by_cases hd : 0 < L[k].d
  · simp [hd]
  · simp [hd]
theorem liveT_sub {L : List Cg} {k : Nat} : ∀ x ∈ liveT L k, ∃ y ∈ L, y.t = x := fun x hx => by
  obtain ⟨y, hy, rfl⟩ := List.mem_map.1 hx
  exact ⟨y, List.mem_of_mem_take (List.mem_filter.1 hy).1, rfl⟩
theorem liveT_all (L : List Cg) : (liveT L L.length).map Tm.v = liveV (L.map Cg.cv) := by
  unfold liveT liveV
  rw [List.take_length, List.filter_map, List.map_map, List.map_map]
  rfl
/-- the frontier, and where it lies -/
def RfrOut (L : List Cg) (V : List TV) (w : World) (e : Ending) (w' : World) : Prop := ∃ A c n M, e = .returned (.slice A n c) ∧ n = List.length M ∧ Tin w' A c M ∧ M.map Tm.v = V ∧ Ext w w' ∧ Own w' w.heap.size 26 2 A n c (tmsC M) ∧ ∀ x ∈ M, ∃ y ∈ L, y.t = x
theorem rof5_at' {V : List TV} (AL : Option Addr) (cL m : Nat) (L : List Tm) (w : World) (hV : Hid (ofV (L.map Tm.v) = V)) (hm : Hid (m = L.length)) (hL : Hid (Tin w AL cL L)) (fL : Hid (∀ x ∈ L, U32 x.l ∧ x.l.length ≤ 1000000)) (h9 : m ≤ 1000000) :
    Calls Tryz.prog 151 #[.slice AL m cL] w (RofOutO L V w) := hV.out ▸ rof5_own AL cL m L w hm hL fL h9
set_option maxRecDepth 100000 in
set_option maxHeartbeats 4000000 in
theorem rfront_own (gc m cL : Nat) (AL : Option Addr) (L : List Cg) (w : World) (hb : Hid (Bk w gc 65 #[.slice AL m cL])) (hm : Hid (m = L.length)) (hL : Hid (Cin w AL cL L)) (fL : Hid (∀ x ∈ L, U32 x.t.l ∧ x.t.l.length ≤ 1000000)) (h9 : m ≤ 100000) :
    Calls Tryz.prog 38 #[.pointer (some ⟨gc, 0, none⟩)] w (RfrOut L (ofV (liveV (L.map Cg.cv))) w) := by
  have HO0 : Hid (Own w w.heap.size 26 2 none 0 0 (tmsC (liveT L 0))) := Lib.hid (by unfold liveT; simp only [List.take_zero, List.filter_nil, List.map_nil]; exact Own.nil _ _ _ _)
  go_enter Tryz.func38, Tryz.ntmps38
  go_wp2
  go_loopg [3, 4] m (fun z v3 v wr => ∃ (k q : Nat) (A : Option Addr) (c : Nat), z = m - k ∧ k ≤ m ∧ v = .int .i64 k ∧ v3 = .slice A q c ∧ Hid (q = (liveT L k).length) ∧ q ≤ k ∧ Hid (Own wr w.heap.size 26 2 A q c (tmsC (liveT L k))) ∧ Hid (Ext w wr))
  case atStart => exact ⟨0, 0, none, 0, rfl, Nat.zero_le _, rfl, rfl, Lib.hid rfl, Nat.le_refl _, HO0, Lib.hid (Ext.refl _)⟩
  case round =>
    clear HO0
    obtain ⟨k, q, A, c, rfl, hk, rfl, rfl, HQ, hq, HO, HE⟩ := hrel
    have g0 : wr.cell? ⟨gc, 0, none⟩ = some (.slice AL m cL) := (hb.out.ext HE.out).cell 0
    by_cases hlt : k < m
    · have hkL : k < L.length := by rw [← hm.out]; exact hlt
      have HKL := Lib.hid hkL
      obtain ⟨ad, rfl, q0, q1, q2⟩ := (hL.out.ext HE.out).at hkL
      obtain ⟨x, hx⟩ : ∃ x, L.getD k Cg.zero = x := ⟨_, rfl⟩
      rw [hx] at q0 q1 q2
      have HX := Lib.hid hx
      clear hx hkL
      obtain ⟨⟨f, Ax, cx, lx⟩, d⟩ := x
      obtain ⟨nx, hnx⟩ : ∃ nx, lx.length = nx := ⟨_, rfl⟩
      have HNX := Lib.hid hnx
      replace q0 : wr.cell? (ad.add (k * 3)) = some (.int .u64 f) := q0
      replace q1 : wr.cell? ⟨(ad.add (k * 3)).block, (ad.add (k * 3)).off + 1, none⟩ = some (.slice Ax lx.length cx) := q1
      replace q2 : wr.cell? ⟨(ad.add (k * 3)).block, (ad.add (k * 3)).off + 2, none⟩ = some (.int .i64 d) := q2
      rw [hnx] at q1
      clear hnx
      by_cases hd : 0 < d
      · have HD := Lib.hid hd
        have hd1 : decide (0 < d) = true := by simpa using hd
        clear hd
        go_wp2_with (at_builtin; go_loud (refine wpList_append_two _ elemTimes w.heap.size _ _ rfl rfl A q c (tmsC (liveT L k)) rfl (HO.out.alloc _) (some ⟨wr.heap.size, 0, none⟩) 1 1 [.int .u64 f, .slice Ax nx cx] rfl (Sl.one wr #[.int .u64 f, .slice Ax nx cx] 26 2 rfl) (by intro u hu; simp at hu; rcases hu with rfl | rfl <;> rfl) (by omega) (by decide) (Nat.le_trans HE.out.size ((Ext.refl wr).alloc _).size) ?_); intro A5 c5 w5 o5 g5 h5; clear h5; have X5 : Hid (Ext w w5) := Lib.hid ((HE.out.alloc _).grown g5 (fun k hk => (HO.out.lt k hk).1)); have O5 := Lib.hid o5; clear o5 g5)
        go_roundg (m - (k + 1))
        case measure => omega
        case rel =>
          have e1 : liveT L (k + 1) = liveT L k ++ [⟨f, Ax, cx, lx⟩] := by rw [liveT_succ HKL.out, HX.out]; simp [HD.out]
          refine ⟨k + 1, q + 1, A5, c5, by omega, by omega, by go_num, rfl, Lib.hid (by rw [e1, List.length_append, HQ.out]; rfl), by omega, Lib.hid ?_, X5⟩
          rw [e1, tmsC_append, show tmsC [(⟨f, Ax, cx, lx⟩ : Tm)] = [.int .u64 f, .slice Ax nx cx] by rw [← HNX.out]; rfl]
          exact O5.out
      · have HD := Lib.hid hd
        have hd1 : decide (0 < d) = false := by simpa using hd
        clear hd
        go_wp2
        go_roundg (m - (k + 1))
        case measure => omega
        case rel =>
          have e1 : liveT L (k + 1) = liveT L k := by rw [liveT_succ HKL.out, HX.out]; simp [HD.out]
          exact ⟨k + 1, q, A, c, by omega, by omega, by go_num, rfl, Lib.hid (by rw [e1]; exact HQ.out), by omega, Lib.hid (by rw [e1]; exact HO.out), HE⟩
    · obtain rfl : m = k := by omega
      have HT : Hid (Tin wr A c (liveT L m)) := Lib.hid ⟨by have := HO.out.sl; rwa [HQ.out] at this, fun x hx => by
        obtain ⟨y, hy, rfl⟩ := liveT_sub x hx
        exact (hL.out.ls y hy).ext HE.out⟩
      have HF : Hid (∀ x ∈ liveT L m, U32 x.l ∧ x.l.length ≤ 1000000) := Lib.hid (fun x hx => by
        obtain ⟨y, hy, rfl⟩ := liveT_sub x hx
        exact fL.out y hy)
      have HV : Hid (ofV ((liveT L m).map Tm.v) = ofV (liveV (L.map Cg.cv))) := Lib.hid (by rw [hm.out, liveT_all])
      go_wp2_with (go_at_call 151; go_loud (refine (rof5_at' A c q _ _ HV HQ HT HF (by omega)).mono ?_); rintro r w4 ⟨A4, c4, n4, M4, rfl, h4, t4, v4, x4, o4, s4⟩; have HR : Hid (RofOutO (liveT L m) (ofV (liveV (L.map Cg.cv))) wr (.returned (.slice A4 n4 c4)) w4) := Lib.hid ⟨A4, c4, n4, M4, rfl, h4, t4, v4, x4, o4, s4⟩; clear h4 t4 v4 x4 o4 s4)
      go_ret
      obtain ⟨A', c', n', M', e', h1, h2, h3, h4, h5, h6⟩ := HR.out
      exact ⟨A', c', n', M', by simpa using e', h1, h2, h3, HE.out.trans h4, h5.mono HE.out.size, fun x hx => liveT_sub x (h6 x hx)⟩
theorem rfront_any (gc m cL : Nat) (AL : Option Addr) (L : List Cg) (w : World) (hb : Hid (Bk w gc 65 #[.slice AL m cL])) (hm : Hid (m = L.length)) (hL : Hid (Cin w AL cL L)) (fL : Hid (∀ x ∈ L, U32 x.t.l ∧ x.t.l.length ≤ 1000000)) (h9 : m ≤ 100000) :
    Calls Tryz.prog 38 #[.pointer (some ⟨gc, 0, none⟩)] w (RofOut (ofV (liveV (L.map Cg.cv))) w) := (rfront_own gc m cL AL L w hb hm hL fL h9).mono (by rintro e w1 ⟨A, c, n, M, e1, h1, h2, h3, h4, _⟩; exact ⟨A, c, n, M, e1, h1, h2, h3, h4⟩)
end Go.Proofs.YtdgbkpoickbidaaGreatDoor
namespace Go.Proofs.YtdgbkpoickbidaaGreatDoor
open Go.RowKit

set_option maxRecDepth 100000 in
set_option maxHeartbeats 2000000 in
theorem rhas_any (AL : Option Addr) (cL m : Nat) (L : List Tm) (e : Int) (A : Option Addr) (n c : Nat) (l : List Int) (w : World) (hm : Hid (m = L.length)) (hL : Hid (Tin w AL cL L)) (fL : Hid (∀ x ∈ L, U32 x.l ∧ x.l.length ≤ 1000000)) (ht : Hid (Sl w 1 A n c (wds l))) (u : Hid (U32 l)) (hn : n ≤ 1000000) :
    Calls Tryz.prog 150 #[.slice AL m cL, .agg #[.int .u64 e, .slice A n c]] w fun r w' => r = .returned (.bool (decide ((e, l) ∈ L.map Tm.v))) ∧ Ext w w' := by
  obtain ⟨b, hb⟩ : ∃ b, decide ((e, l) ∈ L.map Tm.v) = b := ⟨_, rfl⟩
  rw [hb]
  have HB := Lib.hid hb
  clear hb
  have hmax : m ≤ 9223372036854775807 := by rw [hm.out]; exact hL.out.sl.le
  go_enter Tryz.func150, Tryz.ntmps150
  go_wp2
  obtain ⟨w0, hw0⟩ : ∃ w0, w0 = w.alloc (Obj.cells #[Value.int IntKind.u64 e, Value.slice A n c] 26) := ⟨_, rfl⟩
  have X0 : Hid (Ext w w0) := Lib.hid (hw0 ▸ (Ext.refl w).alloc _)
  have B0 : Hid (Bk w0 w.heap.size 26 #[Value.int IntKind.u64 e, Value.slice A n c]) := Lib.hid (by subst hw0; exact Bk.new _ _ _)
  rw [← hw0]
  clear hw0
  go_loopg [5] m (fun z v wr => ∃ k : Nat, z = m - k ∧ k ≤ m ∧ v = .int .i64 k ∧ Hid ((e, l) ∉ (L.map Tm.v).take k) ∧ Hid (Ext w0 wr))
  case atStart => exact ⟨0, rfl, Nat.zero_le _, rfl, Lib.hid (by simp), Lib.hid (Ext.refl _)⟩
  case round =>
    obtain ⟨k, rfl, hk, rfl, HF, HE⟩ := hrel
    by_cases hlt : k < m
    · have b0 : ∀ y : Xt wr, y.W.cell? ⟨w.heap.size, 0, none⟩ = some (.int .u64 e) := fun y => (B0.out.ext (HE.out.trans y.x)).cell 0
      have b1 : ∀ y : Xt wr, y.W.cell? ⟨w.heap.size, 1, none⟩ = some (.slice A n c) := fun y => (B0.out.ext (HE.out.trans y.x)).cell 1
      have hkL : k < L.length := by rw [← hm.out]; exact hlt
      obtain ⟨f, Ax, nx, cx, lx, ad, T, hx, hnx⟩ := (hL.out.ext (X0.out.trans HE.out)).tmAt hkL
      have hfx := fL.out _ (getT_mem hkL)
      rw [hx] at hfx
      have UG : Hid (U32 lx) := Lib.hid hfx.1
      have hnx9 : nx ≤ 1000000 := by rw [hnx]; exact hfx.2
      have HKV := Lib.hid (map_at hkL)
      rw [hx] at HKV
      obtain ⟨rfl, q0, q1, HXS⟩ := T
      have STY : ∀ y : Xt wr, Hid (Sl y.W 1 A n c (wds l)) := fun y => Lib.hid (ht.out.ext ((X0.out.trans HE.out).trans y.x))
      clear hx hkL hnx hfx
      obtain ⟨cv, hcv⟩ : ∃ cv, tcmp (f, lx) (e, l) = cv := ⟨_, rfl⟩
      have HCV := Lib.hid hcv
      clear hcv
      by_cases hz : cv = 0
      · have hz1 : (cv == 0) = true := by simpa using hz
        have HZ := Lib.hid hz
        clear hz
        go_wp2
        (refine wp_region_ext (by kernel_rfl) (by kernel_rfl) ?_; (repeat (go_big_quiet_step ((go_at_call 149; with_reducible exact call_ext (rtc_at f e Ax A nx n cx c lx l _ HCV (HXS _) (STY _) UG u hnx9 hn))))); refine wpQuiet_nil ?_; rintro _ ⟨y, rfl⟩)
        go_wp2
        go_ret
        refine ⟨ret_bool ?_, (X0.out.trans HE.out).trans y.x⟩
        rw [← HB.out]
        obtain ⟨h1, h2⟩ := HKV.out
        have he : ((f, lx) : TV) = (e, l) := tcmp_zero.1 (HCV.out.trans HZ.out)
        refine (decide_eq_true ?_).symm
        rw [← he, ← show (L.map Tm.v)[k] = (f, lx) from h2]
        exact List.getElem_mem h1
      · have hz1 : (cv == 0) = false := by simpa using hz
        have HZ := Lib.hid hz
        clear hz
        go_wp2
        (refine wp_region_ext (by kernel_rfl) (by kernel_rfl) ?_; (repeat (go_big_quiet_step ((go_at_call 149; with_reducible exact call_ext (rtc_at f e Ax A nx n cx c lx l _ HCV (HXS _) (STY _) UG u hnx9 hn))))); refine wpQuiet_nil ?_; rintro _ ⟨y, rfl⟩)
        go_wp2
        go_roundg (m - (k + 1))
        case measure => omega
        case rel => exact ⟨k + 1, by omega, by omega, by go_num, Lib.hid (fun h => by
            obtain ⟨h1, h2⟩ := HKV.out
            rcases (take_mem_succ h1 _).1 h with h | h
            · exact HF.out h
            · rw [h2] at h
              exact HZ.out (HCV.out.symm.trans (tcmp_zero.2 h.symm))), Lib.hid (HE.out.trans y.x)⟩
    · obtain rfl : m = k := by omega
      go_wp2
      go_ret
      refine ⟨ret_bool ?_, X0.out.trans HE.out⟩
      rw [← HB.out]
      have := HF.out
      rw [List.take_of_length_le (by rw [List.length_map, hm.out]; exact Nat.le_refl _)] at this
      exact (decide_eq_false this).symm
theorem rhas_at {v : Bool} (AL : Option Addr) (cL m : Nat) (L : List Tm) (e : Int) (A : Option Addr) (n c : Nat) (l : List Int) (w : World) (hv : Hid (decide ((e, l) ∈ L.map Tm.v) = v)) (hm : Hid (m = L.length)) (hL : Hid (Tin w AL cL L)) (fL : Hid (∀ x ∈ L, U32 x.l ∧ x.l.length ≤ 1000000)) (ht : Hid (Sl w 1 A n c (wds l))) (u : Hid (U32 l)) (hn : n ≤ 1000000) :
    Calls Tryz.prog 150 #[.slice AL m cL, .agg #[.int .u64 e, .slice A n c]] w fun r w' => r = .returned (.bool v) ∧ Ext w w' := hv.out ▸ rhas_any AL cL m L e A n c l w hm hL fL ht u hn
end Go.Proofs.YtdgbkpoickbidaaGreatDoor
