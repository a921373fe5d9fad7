/- (*chain.Counts).Update's inner function: it tells the times of one list that another one lacks. Conditions: the lists are as readings give them; what has been told lies in memory of its own. -/
import Derived.Test.YtmdakaflmheidaaGreatDoorTmsFunc
import Derived.Test.YtmdakaflmheidaaGreatDoorCmp
import Derived.Test.YtmdakaflmheidaaGreatDoorChg
namespace Go.Proofs.YtmdakaflmheidaaGreatDoor
open Go.RowKit

theorem tcmp_dec (x t : TV) : (tcmp x t == 0) = decide (x = t) := by
  rw [Bool.eq_iff_iff, decide_eq_true_iff, beq_iff_eq]
  exact tcmp_zero
set_option maxRecDepth 100000 in
set_option maxHeartbeats 600000 in
theorem upd11_any (x : Tm) (B : Nat) (e : Int) (A : Option Addr) (n c : Nat) (l : List Int) (w : World) (hx : Hid (Sl w 1 x.A x.l.length x.c (wds x.l))) (hb : Hid (Bk w B 26 #[.int .u64 e, .slice A n c])) (ht : Hid (Sl w 1 A n c (wds l))) :
    Calls Tryz.prog 39 #[tmV x, .pointer (some ⟨B, 0, none⟩)] w fun r w' => r = .returned (.bool (decide (x.v = (e, l)))) ∧ Ext w w' := by
  have c0 : w.cell? ⟨B, 0, none⟩ = some (.int .u64 e) := hb.out.cell 0
  have c1 : w.cell? ⟨B, 1, none⟩ = some (.slice A n c) := hb.out.cell 1
  have hlt := hb.out.lt
  have hcon := fun (W : World) (y : Ext w W) => cmp_any x.e e x.A A x.l.length n x.c c x.l l W (hx.out.ext y) (ht.out.ext y)
  rw [← tcmp_dec]
  have ht2 : ∀ v : Int, tcmp x.v (e, l) = v → ∀ (W : World) (y : Ext w W), Calls Tryz.prog 40 #[.agg #[.int .u64 x.e, .slice x.A x.l.length x.c], .agg #[.int .u64 e, .slice A n c]] W fun r w' => r = .returned (.int .i64 v) ∧ Ext W w' := fun v hv W y => hv ▸ hcon W y
  obtain ⟨v, hv⟩ : ∃ v, tcmp x.v (e, l) = v := ⟨_, rfl⟩
  rw [hv]
  have HC := Lib.hid (ht2 v hv)
  clear ht2 hcon hv
  unfold tmV
  obtain ⟨xe, xA, xc, xl⟩ := x
  go_enter Tryz.func39, Tryz.ntmps39
  go_wp2_with (go_at_call 40; refine (HC.out _ ((Ext.refl w).alloc _)).mono ?_; rintro r w1 ⟨rfl, x1⟩)
  go_ret
  exact ⟨rfl, ((Ext.refl w).alloc _).trans x1⟩
theorem enters_upd11 : ∀ args w, (callFunc 39 args).run Tryz.prog w = .ok (.enter 39 args) w := enters_of Tryz.func39 (by kernel_rfl) rfl
/-- is a time's value among those of the list? -/
def inL (M : List Tm) (v : TV) : Bool := M.any fun x => decide (x.v = v)
theorem inL_iff {M : List Tm} {v : TV} : inL M v = true ↔ v ∈ M.map Tm.v := by
  unfold inL
  rw [List.any_eq_true, List.mem_map]
  exact ⟨fun ⟨x, hx, h⟩ => ⟨x, hx, of_decide_eq_true h⟩, fun ⟨x, hx, h⟩ => ⟨x, hx, decide_eq_true h⟩⟩
/-- what is told of the first k -/
def toldK (L M : List Tm) (d : Int) (k : Nat) : List Cg := ((L.take k).filter fun x => !inL M x.v).map fun x => ⟨x, d⟩
theorem toldK_yes {L M : List Tm} {d : Int} {k : Nat} (h : k < L.length) (hq : inL M (L.getD k Tm.zero).v = false) : toldK L M d (k + 1) = toldK L M d k ++ [⟨L.getD k Tm.zero, d⟩] := by
  unfold toldK
  have e : L.getD k Tm.zero = L[k] := by rw [List.getD_eq_getElem?_getD, List.getElem?_eq_getElem h]; rfl
  rw [List.take_succ_eq_append_getElem h, List.filter_append, List.map_append, e]
  rw [e] at hq
  simp [hq]
theorem toldK_no {L M : List Tm} {d : Int} {k : Nat} (h : k < L.length) (hq : inL M (L.getD k Tm.zero).v = true) : toldK L M d (k + 1) = toldK L M d k := by
  unfold toldK
  have e : L.getD k Tm.zero = L[k] := by rw [List.getD_eq_getElem?_getD, List.getElem?_eq_getElem h]; rfl
  rw [List.take_succ_eq_append_getElem h, List.filter_append, List.map_append]
  rw [e] at hq
  simp [hq]
theorem toldK_len (L M : List Tm) (d : Int) (k : Nat) : (toldK L M d k).length ≤ k := by
  unfold toldK
  rw [List.length_map]
  exact Nat.le_trans (List.length_filter_le _ _) (by rw [List.length_take]; omega)
/-- what the inner function leaves: 'out' in block go holds what was told, and this behind it -/
def TellOut (w0 : World) (go B : Nat) (R : List Cg) (e : Ending) (w' : World) : Prop := e = .returned (.tuple #[]) ∧ ∃ A c n, n = R.length ∧ Bk w' go 27 #[.slice A n c] ∧ Own w' B 29 3 A n c (cgsC R) ∧ Ext w0 w'
set_option maxRecDepth 100000 in
set_option maxHeartbeats 8000000 in
theorem tell_any (w0 : World) (go B : Nat) (AL AM : Option Addr) (cL cM m n : Nat) (L M : List Tm) (d : Int) (A0 : Option Addr) (c0 n0 : Nat) (R : List Cg) (w : World) (hm : Hid (m = L.length)) (hn : Hid (n = M.length)) (hL : Hid (Tin w0 AL cL L)) (hM : Hid (Tin w0 AM cM M))
    (x0 : Hid (Ext w0 w)) (hgo : Hid (w0.heap.size ≤ go)) (hB : Hid (go < B)) (hBk : Hid (Bk w go 27 #[.slice A0 n0 c0])) (hn0 : Hid (n0 = R.length)) (hO : Hid (Own w B 29 3 A0 n0 c0 (cgsC R))) (hBw : Hid (B ≤ w.heap.size)) (h9 : m ≤ 1000000) (h8 : n0 ≤ 1000000) :
    Calls Tryz.prog 37 #[.slice AL m cL, .slice AM n cM, .int .i64 d, .pointer (some ⟨go, 0, none⟩)] w (TellOut w0 go B (R ++ toldK L M d m)) := by
  go_enter Tryz.func37, Tryz.ntmps37
  go_wp2
  go_loopg [11] m (fun z v11 wr => ∃ (k : Nat) (A : Option Addr) (c q : Nat) (T : List Cg), z = m - k ∧ k ≤ m ∧ v11 = .int .i64 k ∧ Hid (T = R ++ toldK L M d k) ∧ Hid (q = T.length) ∧ Hid (Bk wr go 27 #[.slice A q c]) ∧ Hid (Own wr B 29 3 A q c (cgsC T)) ∧ Hid (Ext w0 wr) ∧ Hid (B ≤ wr.heap.size) ∧ q ≤ n0 + k)
  case atStart => exact ⟨0, A0, c0, n0, R, rfl, Nat.zero_le _, rfl, Lib.hid (by simp [toldK]), hn0, hBk, hO, x0, hBw, by omega⟩
  case round =>
    obtain ⟨k, A, c, q, T, rfl, hk, rfl, HT, HQ, HB, HO, HE, HS, hq⟩ := hrel
    by_cases hlt : k < m
    · have hkL : k < L.length := by rw [← hm.out]; exact hlt
      obtain ⟨ad, rfl, q0, q1⟩ := (hL.out.ext HE.out).at (i := k) hkL
      have HXS : Hid (Sl w0 1 (L.getD k Tm.zero).A (L.getD k Tm.zero).l.length (L.getD k Tm.zero).c (wds (L.getD k Tm.zero).l)) := Lib.hid (hL.out.ls _ (getT_mem hkL))
      have hyes := toldK_yes (M := M) (d := d) hkL
      have hno := toldK_no (M := M) (d := d) hkL
      obtain ⟨x, hx⟩ : ∃ x, L.getD k Tm.zero = x := ⟨_, rfl⟩
      rw [hx] at q0 q1 HXS hyes hno
      have HY := Lib.hid hyes
      have HN := Lib.hid hno
      clear hx hyes hno hkL
      obtain ⟨e, Ax, cx, l⟩ := x
      obtain ⟨nx, hnx⟩ : ∃ nx, l.length = nx := ⟨_, rfl⟩
      have HNX := Lib.hid hnx
      replace q0 : wr.cell? (ad.add (k * 2)) = some (.int .u64 e) := q0
      replace q1 : wr.cell? ⟨(ad.add (k * 2)).block, (ad.add (k * 2)).off + 1, none⟩ = some (.slice Ax l.length cx) := q1
      replace HXS : Hid (Sl w0 1 Ax l.length cx (wds l)) := HXS
      rw [hnx] at q1 HXS
      clear hnx
      have XY : Hid (Ext wr (wr.alloc (.cells #[.int .u64 e, .slice Ax nx cx] 26))) := Lib.hid ((Ext.refl _).alloc _)
      have BX : Hid (Bk (wr.alloc (.cells #[.int .u64 e, .slice Ax nx cx] 26)) wr.heap.size 26 #[.int .u64 e, .slice Ax nx cx]) := Lib.hid (Bk.new wr _ _)
      have HPr : Hid (Pred 39 #[.pointer (some ⟨wr.heap.size, 0, none⟩)] (fun y => decide (y.v = (e, l))) M (wr.alloc (.cells #[.int .u64 e, .slice Ax nx cx] 26))) := Lib.hid (fun W y hy z =>
        upd11_any y wr.heap.size e Ax nx cx l W (Lib.hid (((hM.out.ls y hy).ext (HE.out.trans XY.out)).ext z)) (Lib.hid (BX.out.ext z)) (Lib.hid ((HXS.out.ext (HE.out.trans XY.out)).ext z)))
      have hcon := contains_times _ 39 _ enters_upd11 AM cM n M _ hn (Lib.hid (hM.out.ext (HE.out.trans XY.out))) HPr
      replace hcon : Calls Tryz.prog 38 _ _ (fun r w' => r = .returned (.bool (inL M (e, l))) ∧ Ext _ w') := hcon
      cases hin : inL M (e, l) with
      | true =>
        rw [hin] at hcon
        have HIN := Lib.hid hin
        clear hin
        go_wp2_with (first
          | (go_at_call 38; go_loud (refine hcon.mono ?_); rintro r w3 ⟨rfl, x3⟩))
        go_roundg (m - (k + 1))
        case measure => omega
        case rel =>
          have XX := XY.out.trans x3
          exact ⟨k + 1, A, c, q, T, by omega, by omega, by go_num, Lib.hid (by rw [HN.out HIN.out]; exact HT.out), HQ, Lib.hid (HB.out.ext XX), Lib.hid (HO.out.ext XX), Lib.hid (HE.out.trans XX), Lib.hid (Nat.le_trans HS.out XX.size), by omega⟩
      | false =>
        rw [hin] at hcon
        have HIN := Lib.hid hin
        clear hin
        go_wp2_with (first
          | (go_at_call 38; go_loud (refine hcon.mono ?_); rintro r w3 ⟨rfl, x3⟩; have X3 : Hid (Ext wr w3) := Lib.hid (XY.out.trans x3); have B3 := BX.out.ext x3; have y0 : w3.cell? ⟨wr.heap.size, 0, none⟩ = some (.int .u64 e) := B3.cell 0; have y1 : w3.cell? ⟨wr.heap.size, 1, none⟩ = some (.slice Ax nx cx) := B3.cell 1; have G3 := HB.out.ext X3.out; have y2 : w3.cell? ⟨go, 0, none⟩ = some (.slice A q c) := G3.cell 0; clear x3 B3 G3)
          | (at_builtin; go_loud (refine wpList_append_gen _ elemChg B _ _ rfl rfl A q c (cgsC T) rfl ((HO.out.ext X3.out).alloc _) (some ⟨w3.heap.size, 0, none⟩) 1 1 (cgC ⟨⟨e, Ax, cx, l⟩, d⟩) rfl (by rw [show cgC ⟨⟨e, Ax, cx, l⟩, d⟩ = [.int .u64 e, .slice Ax nx cx, .int .i64 d] by rw [← HNX.out]; rfl]; exact Sl.one w3 #[.int .u64 e, .slice Ax nx cx, .int .i64 d] 29 3 rfl) (by rw [show cgC ⟨⟨e, Ax, cx, l⟩, d⟩ = [.int .u64 e, .slice Ax nx cx, .int .i64 d] by rw [← HNX.out]; rfl]; exact fun u hu => by simp at hu; rcases hu with rfl | rfl | rfl <;> rfl) (by omega) (by decide) (Nat.le_trans HS.out (Nat.le_trans X3.out.size (Ext.size ((Ext.refl w3).alloc _)))) ?_); intro A5 c5 w5 o5 g5 k5; have G5 : Bk w5 go 27 #[.slice A q c] := ((HB.out.ext X3.out).alloc _).grown g5 (fun h => by have := (HO.out.lt go h).1; have := hB.out; omega); have y3 := G5.cell 0; have y4 := G5.free 0; have HG5 := Lib.hid G5; have HO5 := Lib.hid o5; have HGr := Lib.hid g5; clear o5 g5 k5 G5))
        go_roundg (m - (k + 1))
        case measure => omega
        case rel =>
          have hrow : ∀ k, blk A c = some k → B ≤ k := fun k hk => (HO.out.lt k hk).1
          have hs3 := X3.out.size
          have e5 : Ext w0 w5 := ((HE.out.trans X3.out).alloc _).grown HGr.out (fun k hk => by have := hrow k hk; have := hgo.out; have := hB.out; omega)
          refine ⟨k + 1, A5, c5, q + 1, T ++ [⟨⟨e, Ax, cx, l⟩, d⟩], by omega, by omega, by go_num, Lib.hid (by rw [HY.out HIN.out, HT.out, List.append_assoc]), Lib.hid (by rw [List.length_append, HQ.out]; rfl), Lib.hid (HG5.out.set 0 _), Lib.hid ?_, Lib.hid (e5.set hgo.out _), Lib.hid ?_, by omega⟩
          · rw [cgsC_append, show cgsC [(⟨⟨e, Ax, cx, l⟩, d⟩ : Cg)] = cgC ⟨⟨e, Ax, cx, l⟩, d⟩ by simp [cgsC]]
            exact HO5.out.far (HO5.out.ne hB.out) _
          · have := HGr.out.size
            have := ((Ext.refl w3).alloc (.cells #[.int .u64 e, .slice Ax nx cx, .int .i64 d] 29)).size
            have := HS.out
            simp only [World.size_setCell]
            omega
    · obtain rfl : k = m := by omega
      go_wp2
      go_end0
      exact ⟨rfl, A, c, q, by rw [← HT.out]; exact HQ.out, HB.out, by rw [← HT.out]; exact HO.out, HE.out⟩
end Go.Proofs.YtmdakaflmheidaaGreatDoor
