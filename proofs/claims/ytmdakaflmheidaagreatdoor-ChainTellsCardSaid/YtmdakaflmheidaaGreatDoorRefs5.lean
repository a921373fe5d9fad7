/- penstockref05.Beyond, Leq, Of: what they answer. penstockref05.Of: the antichain, as the document says it. penstockref05.Join: the antichain beyond which lies what is beyond both. penstockref05.Advance: the time that stands for another one. Conditions: each theorem states its own. -/
import Derived.Test.YtmdakaflmheidaaGreatDoorTms
import Derived.Test.YtmdakaflmheidaaGreatDoorChainLaw2
import Derived.Test.YtmdakaflmheidaaGreatDoorRefLeqC
import Derived.Test.YtmdakaflmheidaaGreatDoorChOf
import Derived.Deep.LoopGhost
import Derived.Test.YtmdakaflmheidaaGreatDoorChAdv
import Derived.Test.YtmdakaflmheidaaGreatDoorRefJoin
namespace Go.Proofs.YtmdakaflmheidaaGreatDoor
open Go.RowKit

theorem rtq_at {v : Bool} (e1 e2 : Int) (A1 A2 : Option Addr) (n1 n2 c1 c2 : Nat) (l1 l2 : List Int) (w : World) (hr : Hid (tleq (e1, l1) (e2, l2) = v)) (h1 : Hid (Sl w 1 A1 n1 c1 (wds l1))) (h2 : Hid (Sl w 1 A2 n2 c2 (wds l2))) :
    Calls Tryz.prog 69 #[.agg #[.int .u64 e1, .slice A1 n1 c1], .agg #[.int .u64 e2, .slice A2 n2 c2]] w fun e w' => e = .returned (.bool v) ∧ Ext w w' := hr.out ▸ rleq_any e1 e2 A1 A2 n1 n2 c1 c2 l1 l2 w h1.out h2.out
theorem rtc_at {v : Int} (e1 e2 : Int) (A1 A2 : Option Addr) (n1 n2 c1 c2 : Nat) (l1 l2 : List Int) (w : World) (hr : Hid (tcmp (e1, l1) (e2, l2) = v)) (h1 : Hid (Sl w 1 A1 n1 c1 (wds l1))) (h2 : Hid (Sl w 1 A2 n2 c2 (wds l2))) (u1 : Hid (U32 l1)) (u2 : Hid (U32 l2)) (hn1 : n1 ≤ 1000000) (hn2 : n2 ≤ 1000000) :
    Calls Tryz.prog 43 #[.agg #[.int .u64 e1, .slice A1 n1 c1], .agg #[.int .u64 e2, .slice A2 n2 c2]] w fun e w' => e = .returned (.int .i64 v) ∧ Ext w w' := hr.out ▸ rcmp_any e1 e2 A1 A2 n1 n2 c1 c2 l1 l2 w h1.out h2.out u1.out u2.out hn1 hn2
theorem rbeyond_take {V : List TV} {k : Nat} (h : k < V.length) (t : TV) : beyondV (V.take (k + 1)) t = (beyondV (V.take k) t || tleq V[k] t) := by
  rw [List.take_succ_eq_append_getElem h, beyond_append]
/-- an element, its parts named: what the regions that draw want to know -/
structure TmAt (wr : World) (A : Option Addr) (k : Nat) (e : Int) (B : Option Addr) (n c : Nat) (l : List Int) (ad : Addr) : Prop where
  addr : A = some ad
  c0 : ∀ y : Xt wr, y.W.cell? (ad.add (k * 2)) = some (.int .u64 e)
  c1 : ∀ y : Xt wr, y.W.cell? ⟨(ad.add (k * 2)).block, (ad.add (k * 2)).off + 1, none⟩ = some (.slice B n c)
  sl : ∀ y : Xt wr, Hid (Sl y.W 1 B n c (wds l))
theorem Tin.tmAt {wr : World} {A : Option Addr} {c : Nat} {L : List Tm} (h : Tin wr A c L) {k : Nat} (hk : k < L.length) : ∃ e B n cc l ad, TmAt wr A k e B n cc l ad ∧ L.getD k Tm.zero = ⟨e, B, cc, l⟩ ∧ n = l.length := by
  obtain ⟨ad, rfl, q0, q1⟩ := h.at hk
  have hs := h.ls _ (getT_mem hk)
  obtain ⟨x, hx⟩ : ∃ x, L.getD k Tm.zero = x := ⟨_, rfl⟩
  rw [hx] at q0 q1 hs
  obtain ⟨e, B, cc, l⟩ := x
  exact ⟨e, B, l.length, cc, l, ad, ⟨rfl, fun y => y.x.cell q0, fun y => y.x.cell q1, fun y => Lib.hid (hs.ext y.x)⟩, hx, rfl⟩
set_option maxRecDepth 100000 in
set_option maxHeartbeats 2000000 in
theorem rbeyond_any (AL : Option Addr) (cL m : Nat) (L : List Tm) (e : Int) (A : Option Addr) (n c : Nat) (l : List Int) (w : World) (hm : Hid (m = L.length)) (hL : Hid (Tin w AL cL L)) (ht : Hid (Sl w 1 A n c (wds l))) :
    Calls Tryz.prog 33 #[.slice AL m cL, .agg #[.int .u64 e, .slice A n c]] w fun r w' => r = .returned (.bool (beyondV (L.map Tm.v) (e, l))) ∧ Ext w w' := by
  obtain ⟨b, hb⟩ : ∃ b, beyondV (L.map Tm.v) (e, l) = b := ⟨_, rfl⟩
  rw [hb]
  have HB := Lib.hid hb
  clear hb
  have hmax : m ≤ 9223372036854775807 := by rw [hm.out]; exact hL.out.sl.le
  go_enter Tryz.func33, Tryz.ntmps33
  go_wp2
  obtain ⟨w0, hw0⟩ : ∃ w0, w0 = w.alloc (Obj.cells #[Value.int IntKind.u64 e, Value.slice A n c] 26) := ⟨_, rfl⟩
  have X0 : Hid (Ext w w0) := Lib.hid (hw0 ▸ (Ext.refl w).alloc _)
  have B0 : Hid (Bk w0 w.heap.size 26 #[Value.int IntKind.u64 e, Value.slice A n c]) := Lib.hid (by subst hw0; exact Bk.new _ _ _)
  rw [← hw0]
  clear hw0
  go_loopg [5] m (fun z v wr => ∃ k : Nat, z = m - k ∧ k ≤ m ∧ v = .int .i64 k ∧ Hid (beyondV ((L.map Tm.v).take k) (e, l) = false) ∧ Hid (Ext w0 wr))
  case atStart => exact ⟨0, rfl, Nat.zero_le _, rfl, Lib.hid rfl, Lib.hid (Ext.refl _)⟩
  case round =>
    obtain ⟨k, rfl, hk, rfl, HF, HE⟩ := hrel
    by_cases hlt : k < m
    · have b0 : ∀ y : Xt wr, y.W.cell? ⟨w.heap.size, 0, none⟩ = some (.int .u64 e) := fun y => (B0.out.ext (HE.out.trans y.x)).cell 0
      have b1 : ∀ y : Xt wr, y.W.cell? ⟨w.heap.size, 1, none⟩ = some (.slice A n c) := fun y => (B0.out.ext (HE.out.trans y.x)).cell 1
      have hkL : k < L.length := by rw [← hm.out]; exact hlt
      obtain ⟨f, Ax, nx, cx, lx, ad, T, hx, -⟩ := (hL.out.ext (X0.out.trans HE.out)).tmAt hkL
      have HKV := Lib.hid (map_at hkL)
      rw [hx] at HKV
      obtain ⟨rfl, q0, q1, HXS⟩ := T
      have STY : ∀ y : Xt wr, Hid (Sl y.W 1 A n c (wds l)) := fun y => Lib.hid (ht.out.ext ((X0.out.trans HE.out).trans y.x))
      clear hx hkL
      rcases hq : tleq (f, lx) (e, l) with _ | _
      · have HT1 := Lib.hid hq
        clear hq
        go_wp2
        (refine wp_region_ext (by kernel_rfl) (by kernel_rfl) ?_; (repeat (go_big_quiet_step ((go_at_call 69; go_loud (with_reducible exact call_ext (rtq_at f e Ax A nx n cx c lx l _ HT1 (HXS _) (STY _))))))); refine wpQuiet_nil ?_; rintro _ ⟨y, rfl⟩)
        go_wp2
        go_roundg (m - (k + 1))
        case measure => omega
        case rel => exact ⟨k + 1, by omega, by omega, by go_num, Lib.hid (by obtain ⟨h1, h2⟩ := HKV.out; rw [rbeyond_take h1, HF.out, h2]; exact HT1.out), Lib.hid (HE.out.trans y.x)⟩
      · have HT1 := Lib.hid hq
        clear hq
        go_wp2
        (refine wp_region_ext (by kernel_rfl) (by kernel_rfl) ?_; (repeat (go_big_quiet_step ((go_at_call 69; go_loud (with_reducible exact call_ext (rtq_at f e Ax A nx n cx c lx l _ HT1 (HXS _) (STY _))))))); refine wpQuiet_nil ?_; rintro _ ⟨y, rfl⟩)
        go_wp2
        go_ret
        refine ⟨ret_bool ?_, (X0.out.trans HE.out).trans y.x⟩
        rw [← HB.out]
        obtain ⟨h1, h2⟩ := HKV.out
        exact (beyond_iff.2 ⟨_, List.getElem_mem h1, by rw [h2]; exact HT1.out⟩).symm
    · obtain rfl : m = k := by omega
      go_wp2
      go_ret
      refine ⟨ret_bool ?_, X0.out.trans HE.out⟩
      rw [← HB.out]
      have := HF.out
      rw [List.take_of_length_le (by rw [List.length_map, hm.out]; exact Nat.le_refl _)] at this
      exact this.symm
theorem rbeyond_at {v : Bool} (AL : Option Addr) (cL m : Nat) (L : List Tm) (e : Int) (A : Option Addr) (n c : Nat) (l : List Int) (w : World) (hv : Hid (beyondV (L.map Tm.v) (e, l) = v)) (hm : Hid (m = L.length)) (hL : Hid (Tin w AL cL L)) (ht : Hid (Sl w 1 A n c (wds l))) :
    Calls Tryz.prog 33 #[.slice AL m cL, .agg #[.int .u64 e, .slice A n c]] w fun r w' => r = .returned (.bool v) ∧ Ext w w' := hv.out ▸ rbeyond_any AL cL m L e A n c l w hm hL ht
set_option maxRecDepth 100000 in
set_option maxHeartbeats 2000000 in
theorem rchleq_any (AL AM : Option Addr) (cL cM m n : Nat) (L M : List Tm) (w : World) (hm : Hid (m = L.length)) (hn : Hid (n = M.length)) (hL : Hid (Tin w AL cL L)) (hM : Hid (Tin w AM cM M)) :
    Calls Tryz.prog 32 #[.slice AL m cL, .slice AM n cM] w fun r w' => r = .returned (.bool (leqV (L.map Tm.v) (M.map Tm.v))) ∧ Ext w w' := by
  obtain ⟨b, hb⟩ : ∃ b, leqV (L.map Tm.v) (M.map Tm.v) = b := ⟨_, rfl⟩
  rw [hb]
  have HB := Lib.hid hb
  clear hb
  have hmax : n ≤ 9223372036854775807 := by rw [hn.out]; exact hM.out.sl.le
  go_enter Tryz.func32, Tryz.ntmps32
  go_wp2
  go_loopg [5] n (fun z v wr => ∃ k : Nat, z = n - k ∧ k ≤ n ∧ v = .int .i64 k ∧ Hid (∀ j, j < k → beyondV (L.map Tm.v) (M.getD j Tm.zero).v = true) ∧ Hid (Ext w wr))
  case atStart => exact ⟨0, rfl, Nat.zero_le _, rfl, Lib.hid (fun j hj => absurd hj (by omega)), Lib.hid (Ext.refl _)⟩
  case round =>
    obtain ⟨k, rfl, hk, rfl, HF, HE⟩ := hrel
    by_cases hlt : k < n
    · have hkM : k < M.length := by rw [← hn.out]; exact hlt
      have HKM := Lib.hid hkM
      obtain ⟨ad, rfl, q0, q1⟩ := (hM.out.ext HE.out).at (i := k) hkM
      have HXS := Lib.hid ((hM.out.ext HE.out).ls _ (getT_mem hkM))
      obtain ⟨x, hx⟩ : ∃ x, M.getD k Tm.zero = x := ⟨_, rfl⟩
      rw [hx] at q0 q1 HXS
      have HX := Lib.hid hx
      clear hkM hx
      obtain ⟨f, Ax, cx, lx⟩ := x
      obtain ⟨nx, hnx⟩ : ∃ nx, lx.length = nx := ⟨_, rfl⟩
      replace q0 : wr.cell? (ad.add (k * 2)) = some (.int .u64 f) := q0
      replace q1 : wr.cell? ⟨(ad.add (k * 2)).block, (ad.add (k * 2)).off + 1, none⟩ = some (.slice Ax lx.length cx) := q1
      replace HXS : Hid (Sl wr 1 Ax lx.length cx (wds lx)) := HXS
      rw [hnx] at q1 HXS
      clear hnx
      rcases hq : beyondV (L.map Tm.v) (f, lx) with _ | _
      · have HT1 := Lib.hid hq
        clear hq
        go_wp2_with (go_at_call 33; go_loud (refine (rbeyond_at (v := false) AL cL m L f Ax nx cx lx _ HT1 hm (Lib.hid (hL.out.ext HE.out)) HXS).mono ?_); rintro r w1 ⟨rfl, x1⟩)
        go_ret
        refine ⟨ret_bool ?_, HE.out.trans x1⟩
        rw [← HB.out]
        refine Eq.symm (Bool.eq_false_iff.2 fun h => ?_)
        have := leqV_iff.1 h (f, lx) (List.mem_map.2 ⟨_, getT_mem HKM.out, by rw [HX.out]; rfl⟩)
        rw [HT1.out] at this
        exact absurd this (by decide)
      · have HT1 := Lib.hid hq
        clear hq
        go_wp2_with (go_at_call 33; go_loud (refine (rbeyond_at (v := true) AL cL m L f Ax nx cx lx _ HT1 hm (Lib.hid (hL.out.ext HE.out)) HXS).mono ?_); rintro r w1 ⟨rfl, x1⟩)
        go_roundg (n - (k + 1))
        case measure => omega
        case rel => exact ⟨k + 1, by omega, by omega, by go_num, Lib.hid (fun j hj => by
            by_cases hjk : j < k
            · exact HF.out j hjk
            · obtain rfl : j = k := by omega
              rw [HX.out]; exact HT1.out), Lib.hid (HE.out.trans x1)⟩
    · obtain rfl : n = k := by omega
      go_wp2
      go_ret
      refine ⟨ret_bool ?_, HE.out⟩
      rw [← HB.out]
      refine Eq.symm (leqV_iff.2 fun v hv => ?_)
      obtain ⟨x, hx, rfl⟩ := List.mem_map.1 hv
      obtain ⟨j, hj, rfl⟩ := List.getElem_of_mem hx
      have := HF.out j (by rw [hn.out]; exact hj)
      rw [List.getD_eq_getElem?_getD, List.getElem?_eq_getElem hj] at this
      exact this
theorem rchleq_at {v : Bool} (AL AM : Option Addr) (cL cM m n : Nat) (L M : List Tm) (w : World) (hv : Hid (leqV (L.map Tm.v) (M.map Tm.v) = v)) (hm : Hid (m = L.length)) (hn : Hid (n = M.length)) (hL : Hid (Tin w AL cL L)) (hM : Hid (Tin w AM cM M)) :
    Calls Tryz.prog 32 #[.slice AL m cL, .slice AM n cM] w fun r w' => r = .returned (.bool v) ∧ Ext w w' := hv.out ▸ rchleq_any AL AM cL cM m n L M w hm hn hL hM
end Go.Proofs.YtmdakaflmheidaaGreatDoor
namespace Go.Proofs.YtmdakaflmheidaaGreatDoor
open Go.RowKit

def tv (L : List Tm) (i : Nat) : TV := (L.getD i Tm.zero).v
/-- the k-th strikes the i-th -/
def badL (L : List Tm) (i k : Nat) : Bool := (tleq (tv L k) (tv L i) && !decide (tcmp (tv L k) (tv L i) = 0)) || (decide (tcmp (tv L k) (tv L i) = 0) && decide (k < i))
def leastL (L : List Tm) (i k : Nat) : Bool := (List.range k).all fun j => !badL L i j
theorem leastL_succ (L : List Tm) (i k : Nat) : leastL L i (k + 1) = (leastL L i k && !badL L i k) := by
  unfold leastL
  rw [List.range_succ, List.all_append]
  simp
theorem take_snocT' {L : List Tm} {i : Nat} (h : i < L.length) : L.take (i + 1) = L.take i ++ [L.getD i Tm.zero] := by
  rw [List.take_succ_eq_append_getElem h, List.getD_eq_getElem?_getD, List.getElem?_eq_getElem h]
  rfl
theorem tv_get {L : List Tm} {i : Nat} (h : i < (L.map Tm.v).length) : (L.map Tm.v)[i] = tv L i := getT_v (by rwa [List.length_map] at h)
theorem leastL_true {L : List Tm} {i : Nat} (hi : i < (L.map Tm.v).length) (h : leastL L i L.length = true) : Least (L.map Tm.v) (L.map Tm.v)[i] ∧ (L.map Tm.v)[i] ∉ (L.map Tm.v).take i := by
  have hb : ∀ k, k < L.length → badL L i k = false := fun k hk => by
    have := List.all_eq_true.1 h k (List.mem_range.2 hk)
    simpa using this
  refine ⟨⟨List.getElem_mem hi, fun u hu huv => ?_⟩, fun hm => ?_⟩
  · obtain ⟨k, hk, rfl⟩ := List.getElem_of_mem hu
    rw [tv_get hk, tv_get hi] at huv ⊢
    have := hb k (by simpa using hk)
    unfold badL at this
    rw [huv] at this
    simp at this
    exact tcmp_zero.1 this.1
  · obtain ⟨k, hk, e⟩ := List.mem_take_iff_getElem.1 hm
    rw [tv_get (by omega), tv_get hi] at e
    have := hb k (by have := hi; rw [List.length_map] at this; omega)
    unfold badL at this
    rw [e, tcmp_zero.2 rfl] at this
    simp at this
    omega
theorem leastL_false {L : List Tm} {i : Nat} (hi : i < (L.map Tm.v).length) (h : leastL L i L.length = false) (hl : Least (L.map Tm.v) (L.map Tm.v)[i]) : (L.map Tm.v)[i] ∈ (L.map Tm.v).take i := by
  have : ∃ k, k < L.length ∧ badL L i k = true := by
    apply Classical.byContradiction
    intro hn
    have : leastL L i L.length = true := List.all_eq_true.2 fun k hk => by
      cases hb : badL L i k with
      | false => rfl
      | true => exact absurd ⟨k, List.mem_range.1 hk, hb⟩ hn
    rw [this] at h
    exact absurd h (by decide)
  obtain ⟨k, hk, hb⟩ := this
  have hkv : k < (L.map Tm.v).length := by rw [List.length_map]; exact hk
  unfold badL at hb
  rw [Bool.or_eq_true, Bool.and_eq_true, Bool.and_eq_true] at hb
  rcases hb with ⟨h1, h2⟩ | ⟨h1, h2⟩
  · have e := hl.2 (L.map Tm.v)[k] (List.getElem_mem hkv) (by rw [tv_get hkv, tv_get hi]; exact h1)
    rw [tv_get hkv, tv_get hi] at e
    rw [e, tcmp_zero.2 rfl] at h2
    simp at h2
  · have h1 := tcmp_zero.1 (of_decide_eq_true h1)
    have h2 := of_decide_eq_true h2
    rw [← tv_get hkv, ← tv_get hi] at h1
    rw [← h1]
    exact List.mem_take_iff_getElem.2 ⟨k, by omega, rfl⟩
def RofOut (V : List TV) (w : World) (e : Ending) (w' : World) : Prop := ∃ A c n M, e = .returned (.slice A n c) ∧ n = List.length M ∧ Tin w' A c M ∧ M.map Tm.v = V ∧ Ext w w'
/-- how it stands when so many have been looked at -/
structure RofI (w : World) (L : List Tm) (wr : World) (i n : Nat) (A : Option Addr) (c : Nat) (M : List Tm) : Prop where
  len : n = M.length
  le : n ≤ i
  tin : Tin wr A c M
  sub : ∀ x ∈ M, x ∈ L
  up : OfUpto (L.map Tm.v) (L.map Tm.v) i (M.map Tm.v)
  ext : Ext w wr
theorem RofI.skip {w wr w2 : World} {L M : List Tm} {i n c : Nat} {A : Option Addr} (h : RofI w L wr i n A c M) (hi : i < L.length) (hb : leastL L i L.length = false) (x : Ext wr w2) : RofI w L w2 (i + 1) n A c M :=
  ⟨h.len, by have := h.le; omega, h.tin.ext x, h.sub, h.up.skipR (by rw [List.length_map]; exact hi) (leastL_false (by rw [List.length_map]; exact hi) hb), h.ext.trans x⟩
theorem RofI.put {A0 : Option Addr} {c0 : Nat} {w wr w6 : World} {L M : List Tm} {i n c j m : Nat} {A A6 : Option Addr} {c6 B : Nat} (hL : Tin w A0 c0 L) (h : RofI w L wr i n A c M) (hi : i < L.length) (hb : leastL L i L.length = true) (hj : j ≤ n)
    (h1 : ∀ x ∈ M.take j, tcmp x.v (tv L i) < 0) (h2 : ∀ x, (M.drop j).head? = some x → ¬ tcmp x.v (tv L i) < 0) (hm : m = n + 1) (x6 : Ext wr w6)
    (o : Own w6 B 26 2 A6 m c6 (tmsC (M.take j) ++ tmC (L.getD i Tm.zero) ++ tmsC (M.drop j))) : RofI w L w6 (i + 1) m A6 c6 (M.take j ++ [L.getD i Tm.zero] ++ M.drop j) := by
  have hiV : i < (L.map Tm.v).length := by rw [List.length_map]; exact hi
  obtain ⟨q1, q2⟩ := leastL_true hiV hb
  have hlen : m = (M.take j ++ [L.getD i Tm.zero] ++ M.drop j).length := by
    have := h.len
    simp
    omega
  have hsub : ∀ x ∈ M.take j ++ [L.getD i Tm.zero] ++ M.drop j, x ∈ L := fun x hx => by
    rcases List.mem_append.1 hx with hx | hx
    · rcases List.mem_append.1 hx with hx | hx
      · exact h.sub x (List.mem_of_mem_take hx)
      · rw [List.mem_singleton.1 hx]; exact getT_mem hi
    · exact h.sub x (List.mem_of_mem_drop hx)
  refine ⟨hlen, by have := h.le; omega, ⟨?_, fun x hx => ((hL.ls x (hsub x hx)).ext (h.ext.trans x6))⟩, hsub, ?_, h.ext.trans x6⟩
  · rw [← hlen, tmsC_append, tmsC_append, show tmsC [L.getD i Tm.zero] = tmC (L.getD i Tm.zero) by simp [tmsC]]
    exact o.sl
  · have e : (M.take j ++ [L.getD i Tm.zero] ++ M.drop j).map Tm.v = (M.take j).map Tm.v ++ [(L.map Tm.v)[i]] ++ (M.drop j).map Tm.v := by
      rw [List.map_append, List.map_append, tv_get hiV]
      rfl
    rw [e]
    refine OfUpto.putR (by rw [← List.map_append, List.take_append_drop]; exact h.up) hiV q1 (fun x hx => ?_) (fun x hx => ?_) q2
    · obtain ⟨y, hy, rfl⟩ := List.mem_map.1 hx
      rw [tv_get hiV]
      exact h1 y hy
    · rw [List.head?_map] at hx
      cases hd : (M.drop j).head? with
      | none => rw [hd] at hx; simp at hx
      | some y =>
        rw [hd] at hx
        injection hx with hx
        subst hx
        rw [tv_get hiV]
        exact h2 y hd

theorem RofI.grow {w wr w2 : World} {L M : List Tm} {i n c : Nat} {A : Option Addr} (h : RofI w L wr i n A c M) (x : Ext wr w2) : RofI w L w2 i n A c M := ⟨h.len, h.le, h.tin.ext x, h.sub, h.up, h.ext.trans x⟩
def CmpGe (L M : List Tm) (i j : Nat) : Prop := ∀ x, (M.drop j).head? = some x → ¬ tcmp x.v (tv L i) < 0
def CmpLt (L M : List Tm) (i j : Nat) : Prop := ∀ x ∈ M.take j, tcmp x.v (tv L i) < 0
set_option maxRecDepth 100000 in
set_option maxHeartbeats 16000000 in
theorem rof5_any (AL : Option Addr) (cL m : Nat) (L : List Tm) (w : World) (hm : Hid (m = L.length)) (hL : Hid (Tin w AL cL L)) (fL : Hid (∀ x ∈ L, U32 x.l ∧ x.l.length ≤ 1000000)) (h9 : m ≤ 1000000) :
    Calls Tryz.prog 28 #[.slice AL m cL] w (RofOut (ofV (L.map Tm.v)) w) := by
  have HI0 : Hid (RofI w L w 0 0 none 0 []) := Lib.hid ⟨rfl, Nat.le_refl _, Tin.nil w, fun x hx => (nomatch hx), OfUpto.zero _ _, Ext.refl _⟩
  go_enter Tryz.func28, Tryz.ntmps28
  go_wp2
  go_loopg [3, 4] m (fun z v3 v4 wr => ∃ (i n3 : Nat) (A3 : Option Addr) (c3 : Nat) (M : List Tm), z = m - i ∧ i ≤ m ∧ v4 = .int .i64 i ∧ v3 = .slice A3 n3 c3 ∧ Hid (RofI w L wr i n3 A3 c3 M))
  case atStart => exact ⟨0, 0, none, 0, [], rfl, Nat.zero_le _, rfl, rfl, HI0⟩
  case round =>
    clear HI0
    obtain ⟨i, n3, A3, c3, M, rfl, hi, rfl, rfl, HP⟩ := hrel
    have hn3 : n3 ≤ i := HP.out.le
    obtain ⟨wo, hwo⟩ : ∃ wo : World, wo = wr := ⟨_, rfl⟩
    rw [← hwo] at HP ⊢
    clear hwo
    by_cases hlt : i < m
    · have hiL : i < L.length := by rw [← hm.out]; exact hlt
      have HIL := Lib.hid hiL
      have hxx := getT_mem hiL
      have hf := fL.out _ hxx
      obtain ⟨x, hx⟩ : ∃ x, L.getD i Tm.zero = x := ⟨_, rfl⟩
      have hxa : ∀ W, Ext wo W → ∃ ad, AL = some ad ∧ W.cell? (ad.add (i * 2)) = some (.int .u64 x.e) ∧ W.cell? ⟨(ad.add (i * 2)).block, (ad.add (i * 2)).off + 1, none⟩ = some (.slice x.A x.l.length x.c) := fun W q => by
        have := (hL.out.ext (HP.out.ext.trans q)).at hiL
        rwa [hx] at this
      have hxs : ∀ W, Ext wo W → Sl W 1 x.A x.l.length x.c (wds x.l) := fun W q => by
        have := (hL.out.ext (HP.out.ext.trans q)).ls _ hxx
        rwa [hx] at this
      rw [hx] at hf
      have HX := Lib.hid hx
      obtain ⟨f, Bx, cx, lx⟩ := x
      obtain ⟨nx, hnx⟩ : ∃ nx, lx.length = nx := ⟨_, rfl⟩
      dsimp only at hxa hxs hf
      have HXC : Hid (tmC (L.getD i Tm.zero) = [.int .u64 f, .slice Bx nx cx]) := Lib.hid (by rw [hx, ← hnx]; rfl)
      have HTV : Hid (tv L i = (f, lx)) := Lib.hid (by unfold tv; rw [hx]; rfl)
      simp only [hnx] at hxa hxs hf
      have HXA := Lib.hid hxa
      have HXS := Lib.hid hxs
      have UX := Lib.hid hf.1
      have hnx9 := hf.2
      clear hx hnx hxa hxs hf hxx hiL
      go_wp2
      go_loopg [5, 6] m (fun z v5 v6 wr => ∃ (k : Nat) (b : Bool), z = m - k ∧ k ≤ m ∧ v6 = .int .i64 k ∧ v5 = .bool b ∧ Hid (leastL L i k = b) ∧ Hid (Ext wo wr))
      case atStart => exact ⟨0, true, rfl, Nat.zero_le _, rfl, rfl, Lib.hid rfl, Lib.hid (Ext.refl _)⟩
      case round =>
        obtain ⟨k, b, rfl, hk, rfl, rfl, HB, HE⟩ := hrel
        by_cases hlk : k < m
        · have hkL : k < L.length := by rw [← hm.out]; exact hlk
          obtain ⟨ad, eA, q0, q1⟩ := HXA.out wr HE.out
          subst eA
          obtain ⟨g, Ag, ng, cg, lg, ad2, T, hg, hng⟩ := (hL.out.ext (HP.out.ext.trans HE.out)).tmAt hkL
          obtain ⟨e2, r0, r1, RS⟩ := T
          obtain rfl : ad = ad2 := by injection e2
          have hfg := fL.out _ (getT_mem hkL)
          rw [hg] at hfg
          have UG : Hid (U32 lg) := Lib.hid hfg.1
          have hng9 : ng ≤ 1000000 := by rw [hng]; exact hfg.2
          have HTK : Hid (tv L k = (g, lg)) := Lib.hid (by unfold tv; rw [hg]; rfl)
          clear hg hng hfg hkL e2
          obtain ⟨cv, hcv⟩ : ∃ cv, tcmp (g, lg) (f, lx) = cv := ⟨_, rfl⟩
          have HCV := Lib.hid hcv
          clear hcv
          have qq0 : ∀ y : Xt wr, y.W.cell? (ad.add (i * 2)) = some (.int .u64 f) := fun y => y.x.cell q0
          have qq1 : ∀ y : Xt wr, y.W.cell? ⟨(ad.add (i * 2)).block, (ad.add (i * 2)).off + 1, none⟩ = some (.slice Bx nx cx) := fun y => y.x.cell q1
          have SXY : ∀ y : Xt wr, Hid (Sl y.W 1 Bx nx cx (wds lx)) := fun y => Lib.hid (HXS.out _ (HE.out.trans y.x))
          clear q0 q1
          rcases hah : tleq (g, lg) (f, lx) with _ | _
          all_goals
            have HT1 := Lib.hid hah
            clear hah
            by_cases hz : cv = 0
            all_goals
              by_cases hki : k < i
              all_goals
                have HZ := Lib.hid hz
                have HKI := Lib.hid hki
                have hbad : Hid (badL L i k = ((_root_.id (tleq (g, lg) (f, lx)) && !decide (cv = 0)) || (decide (cv = 0) && decide (k < i)))) := Lib.hid (by unfold badL; rw [HTV.out, HTK.out, HCV.out]; rfl)
                first
                  | (have hz1 : (cv == 0) = true := (by simpa using hz); clear hz; skip)
                  | (have hz1 : (cv == 0) = false := (by simpa using hz); clear hz; skip)
                first
                  | (have hk1 : decide ((k : Int) < (i : Int)) = true := (by simp; omega); clear hki; skip)
                  | (have hk1 : decide ((k : Int) < (i : Int)) = false := (by simp; omega); clear hki; skip)
                go_wp2
                (refine wp_region_ext (by kernel_rfl) (by kernel_rfl) ?_; (repeat (go_big_quiet_step ((go_at_call 69; with_reducible exact call_ext (rtq_at g f Ag Bx ng nx cg cx lg lx _ HT1 (RS _) (SXY _)))))); refine wpQuiet_nil ?_; rintro _ ⟨y1, rfl⟩)
                have rr0 : ∀ y : Xt y1.W, y.W.cell? (ad.add (k * 2)) = some (.int .u64 g) := fun y => r0 ⟨_, y1.x.trans y.x⟩
                have rr1 : ∀ y : Xt y1.W, y.W.cell? ⟨(ad.add (k * 2)).block, (ad.add (k * 2)).off + 1, none⟩ = some (.slice Ag ng cg) := fun y => r1 ⟨_, y1.x.trans y.x⟩
                have ss0 : ∀ y : Xt y1.W, y.W.cell? (ad.add (i * 2)) = some (.int .u64 f) := fun y => qq0 ⟨_, y1.x.trans y.x⟩
                have ss1 : ∀ y : Xt y1.W, y.W.cell? ⟨(ad.add (i * 2)).block, (ad.add (i * 2)).off + 1, none⟩ = some (.slice Bx nx cx) := fun y => qq1 ⟨_, y1.x.trans y.x⟩
                have RS2 : ∀ y : Xt y1.W, Hid (Sl y.W 1 Ag ng cg (wds lg)) := fun y => RS ⟨_, y1.x.trans y.x⟩
                have SX2 : ∀ y : Xt y1.W, Hid (Sl y.W 1 Bx nx cx (wds lx)) := fun y => SXY ⟨_, y1.x.trans y.x⟩
                have HE2 := Lib.hid (HE.out.trans y1.x)
                clear r0 r1 qq0 qq1 RS SXY
                go_wp2
                (refine wp_region_ext (by kernel_rfl) (by kernel_rfl) ?_; (repeat (go_big_quiet_step ((go_at_call 43; with_reducible exact call_ext (rtc_at g f Ag Bx ng nx cg cx lg lx _ HCV (RS2 _) (SX2 _) UG UX hng9 hnx9))))); refine wpQuiet_nil ?_; rintro _ ⟨y2, rfl⟩)
                clear rr0 rr1 ss0 ss1 RS2 SX2
                go_wp2
                go_roundg (m - (k + 1))
                case measure => omega
                case rel =>
                  refine ⟨k + 1, _, by omega, by omega, by go_num, rfl, Lib.hid ?_, Lib.hid (HE2.out.trans y2.x)⟩
                  rw [leastL_succ, HB.out, hbad.out, HT1.out]
                  have a := HZ.out
                  have b := HKI.out
                  simp [a, b]
        · obtain rfl : m = k := by omega
          have HLE : Hid (leastL L i L.length = b) := Lib.hid (by rw [← hm.out]; exact HB.out)
          cases b with
          | false =>
            go_wp2
            go_roundg (m - (i + 1))
            case measure => omega
            case rel => exact ⟨i + 1, n3, A3, c3, M, by omega, by omega, by go_num, rfl, Lib.hid (HP.out.skip HIL.out HLE.out HE.out)⟩
          | true =>
            obtain ⟨wl, hwl⟩ : ∃ wl : World, wl = wr := ⟨_, rfl⟩
            rw [← hwl] at HE ⊢
            clear hwl
            go_wp2
            go_loopg [9] n3 (fun z v9 wr => ∃ j : Nat, z = n3 - j ∧ j ≤ n3 ∧ v9 = .int .i64 j ∧ Hid (CmpLt L M i j) ∧ Hid (Ext wo wr))
            case atStart => exact ⟨0, rfl, Nat.zero_le _, rfl, Lib.hid (fun x hx => by simp at hx), HE⟩
            case round =>
              obtain ⟨j, rfl, hj, rfl, HLT, HE3⟩ := hrel
              by_cases hlj : j < n3
              · have hjM : j < M.length := by rw [← HP.out.len]; exact hlj
                obtain ⟨ad, eA, q0, q1⟩ := HXA.out wr HE3.out
                subst eA
                obtain ⟨g, Ag, ng, cg, lg, ad2, T, hg, hng⟩ := (HP.out.tin.ext HE3.out).tmAt hjM
                obtain ⟨e2, r0, r1, RS⟩ := T
                subst e2
                have hfg := fL.out _ (HP.out.sub _ (getT_mem hjM))
                rw [hg] at hfg
                have UG : Hid (U32 lg) := Lib.hid hfg.1
                have hng9 : ng ≤ 1000000 := by rw [hng]; exact hfg.2
                have HTK : Hid (M.getD j Tm.zero = ⟨g, Ag, cg, lg⟩) := Lib.hid hg
                have HJM := Lib.hid hjM
                clear hg hng hfg hjM
                obtain ⟨cv, hcv⟩ : ∃ cv, tcmp (g, lg) (f, lx) = cv := ⟨_, rfl⟩
                have HCV := Lib.hid hcv
                clear hcv
                have qq0 : ∀ y : Xt wr, y.W.cell? (ad.add (i * 2)) = some (.int .u64 f) := fun y => y.x.cell q0
                have qq1 : ∀ y : Xt wr, y.W.cell? ⟨(ad.add (i * 2)).block, (ad.add (i * 2)).off + 1, none⟩ = some (.slice Bx nx cx) := fun y => y.x.cell q1
                have SXY : ∀ y : Xt wr, Hid (Sl y.W 1 Bx nx cx (wds lx)) := fun y => Lib.hid (HXS.out _ (HE3.out.trans y.x))
                clear q0 q1
                by_cases hneg : cv < 0
                · have hn1 : decide (cv < 0) = true := by simpa using hneg
                  have HNEG := Lib.hid hneg
                  clear hneg
                  go_wp2
                  (refine wp_region_ext (by kernel_rfl) (by kernel_rfl) ?_; (repeat (go_big_quiet_step ((go_at_call 43; with_reducible exact call_ext (rtc_at g f Ag Bx ng nx cg cx lg lx _ HCV (RS _) (SXY _) UG UX hng9 hnx9))))); refine wpQuiet_nil ?_; rintro _ ⟨y2, rfl⟩)
                  clear r0 r1 qq0 qq1 RS SXY
                  go_wp2
                  go_roundg (n3 - (j + 1))
                  case measure => omega
                  case rel =>
                    refine ⟨j + 1, by omega, by omega, by go_num, Lib.hid (fun x hx => ?_), Lib.hid (HE3.out.trans y2.x)⟩
                    rw [take_snocT' HJM.out] at hx
                    rcases List.mem_append.1 hx with hx | hx
                    · exact HLT.out x hx
                    · rw [List.mem_singleton.1 hx, HTK.out, HTV.out]
                      show tcmp (g, lg) (f, lx) < 0
                      rw [HCV.out]; exact HNEG.out
                · have hn1 : decide (cv < 0) = false := by simpa using hneg
                  have HNEG := Lib.hid hneg
                  clear hneg
                  have HGT : Hid (CmpGe L M i j) := Lib.hid (fun x hx => by
                    rw [List.head?_drop, List.getElem?_eq_getElem HJM.out] at hx
                    injection hx with hx
                    have : M.getD j Tm.zero = x := by rw [List.getD_eq_getElem?_getD, List.getElem?_eq_getElem HJM.out]; exact hx
                    rw [← this, HTK.out, HTV.out]
                    show ¬ tcmp (g, lg) (f, lx) < 0
                    rw [HCV.out]; exact HNEG.out)
                  go_wp2
                  (refine wp_region_ext (by kernel_rfl) (by kernel_rfl) ?_; (repeat (go_big_quiet_step ((go_at_call 43; with_reducible exact call_ext (rtc_at g f Ag Bx ng nx cg cx lg lx _ HCV (RS _) (SXY _) UG UX hng9 hnx9))))); refine wpQuiet_nil ?_; rintro _ ⟨y2, rfl⟩)
                  clear r0 r1 qq0 qq1 RS SXY
                  have HE3 := Lib.hid (HE3.out.trans y2.x)
                  obtain ⟨wr, hwr⟩ : ∃ W : World, W = y2.W := ⟨_, rfl⟩
                  rw [← hwr] at HE3 ⊢
                  clear hwr
                  obtain ⟨ad0, eL, x0, x1⟩ := HXA.out wr HE3.out
                  obtain rfl : ad = ad0 := by injection eL
                  have HP := Lib.hid (HP.out.grow HE3.out)
                  have ST : Hid (Sl wr 2 (some ad2) j c3 (tmsC (M.take j))) := Lib.hid (by have := Sl.take (k := j) HP.out.tin.sl (by rw [← HP.out.len]; omega); rwa [tmsC_take] at this)
                  have SD : Hid (Sl wr 2 (if c3 = j then (some ad2) else (some ad2).map (·.add (j * 2))) (n3 - j) (c3 - j) (tmsC (M.drop j))) := Lib.hid (by have := Sl.drop (k := j) HP.out.tin.sl (by rw [← HP.out.len]; omega); rwa [tmsC_drop, ← HP.out.len] at this)
                  have hnc3 : n3 ≤ c3 ∧ c3 ≤ 9223372036854775807 := by have := HP.out.tin.sl.cap; rwa [← HP.out.len] at this
                  have hcj : ¬ c3 = j := by omega
                  have p1 : True := trivial
                  go_wp2_with (first
                    | (at_builtin; have mk := p1; clear p1 mk; go_loud (refine wpList_append_two _ elemTimes wr.heap.size _ _ rfl rfl none 0 0 [] rfl (Own.nil _ _ _ _) (some ad2) j c3 (tmsC (M.take j)) rfl ST.out (tmsC_one _) (by omega) (by decide) (Nat.le_refl _) ?_); intro A4 c4 w4 o4 g4 h4; clear h4; have y4 : Ext wr w4 := Ext.grown (Ext.refl _) g4 (fun k e => nomatch e); have O4 : Hid (Own w4 wr.heap.size 26 2 A4 j c4 (tmsC (M.take j))) := Lib.hid (by have := o4; rwa [Nat.zero_add, List.nil_append] at this); have e0 := y4.cell x0; have e1 := y4.cell x1; have Y4 := Lib.hid y4; clear o4 g4 y4; have p2 : True := trivial)
                    | (at_builtin; have mk := p2; clear p2 mk; go_loud (refine wpList_append_two _ elemTimes wr.heap.size _ _ rfl rfl A4 j c4 (tmsC (M.take j)) rfl (O4.out.alloc _) (some ⟨w4.heap.size, 0, none⟩) 1 1 [.int .u64 f, .slice Bx nx cx] rfl (Sl.one w4 #[.int .u64 f, .slice Bx nx cx] 26 2 rfl) (by intro u hu; simp at hu; rcases hu with rfl | rfl <;> rfl) (by omega) (by decide) (Nat.le_trans Y4.out.size ((Ext.refl w4).alloc _).size) ?_); intro A5 c5 w5 o5 g5 h5; clear h5; have Y5 : Hid (Ext wr w5) := Lib.hid (Ext.grown (Y4.out.alloc _) g5 (fun k e => (O4.out.lt k e).1)); have O5 := Lib.hid o5; clear o5 g5; have p3 : True := trivial)
                    | (at_builtin; have mk := p3; clear p3 mk; go_loud (refine wpList_append_two _ elemTimes wr.heap.size _ _ rfl rfl A5 (j + 1) c5 _ rfl O5.out (some (ad2.add (j * 2))) (n3 - j) (c3 - j) (tmsC (M.drop j)) rfl ((Sl.ext (by have := SD.out; rw [if_neg hcj] at this; exact this) Y5.out)) (tmsC_one _) (by omega) (by decide) Y5.out.size ?_); intro A6 c6 w6 o6 g6 h6; clear h6; have Y6 : Hid (Ext wr w6) := Lib.hid (Ext.grown Y5.out g6 (fun k e => (O5.out.lt k e).1)); have O6 := Lib.hid o6; clear o6 g6)
                    | fail)
                  go_roundg (m - (i + 1))
                  case measure => omega
                  case rel => exact ⟨i + 1, _, A6, c6, _, by omega, by omega, by go_num, rfl, Lib.hid (RofI.put (m := j + 1 + (n3 - j)) hL.out HP.out HIL.out HLE.out (j := j) (by omega) HLT.out HGT.out (by omega) Y6.out (by have := O6.out; rw [HXC.out]; exact this))⟩
              · obtain rfl : n3 = j := by omega
                have HGT : Hid (CmpGe L M i n3) := Lib.hid (fun x hx => by rw [List.drop_of_length_le (by rw [← HP.out.len]; exact Nat.le_refl _)] at hx; simp at hx)
                go_wp2
                (refine wp_region_ext (by kernel_rfl) (by kernel_rfl) ?_; (repeat (go_big_quiet_step (fail))); refine wpQuiet_nil ?_; rintro _ ⟨y2, rfl⟩)
                have HE3 := Lib.hid (HE3.out.trans y2.x)
                obtain ⟨wr, hwr⟩ : ∃ W : World, W = y2.W := ⟨_, rfl⟩
                rw [← hwr] at HE3 ⊢
                clear hwr
                obtain ⟨ad0, eL, x0, x1⟩ := HXA.out wr HE3.out
                subst eL
                have HP := Lib.hid (HP.out.grow HE3.out)
                have ST : Hid (Sl wr 2 A3 n3 c3 (tmsC (M.take n3))) := Lib.hid (by have := Sl.take (k := n3) HP.out.tin.sl (by rw [← HP.out.len]; omega); rwa [tmsC_take] at this)
                have SD : Hid (Sl wr 2 (if c3 = n3 then A3 else A3.map (·.add (n3 * 2))) (n3 - n3) (c3 - n3) (tmsC (M.drop n3))) := Lib.hid (by have := Sl.drop (k := n3) HP.out.tin.sl (by rw [← HP.out.len]; omega); rwa [tmsC_drop, ← HP.out.len] at this)
                have hnc3 : n3 ≤ c3 ∧ c3 ≤ 9223372036854775807 := by have := HP.out.tin.sl.cap; rwa [← HP.out.len] at this
                cases A3 with
                | none =>
                  obtain rfl : c3 = 0 := HP.out.tin.sl.2.2.2.1 rfl
                  have hn0 : n3 = 0 := by omega
                  subst hn0
                  have p1 : True := trivial
                  go_wp2_with (first
                    | (at_builtin; have mk := p1; clear p1 mk; go_loud (refine wpList_append_two _ elemTimes wr.heap.size _ _ rfl rfl none 0 0 [] rfl (Own.nil _ _ _ _) none 0 0 (tmsC (M.take 0)) rfl ST.out (tmsC_one _) (by omega) (by decide) (Nat.le_refl _) ?_); intro A4 c4 w4 o4 g4 h4; clear h4; have y4 : Ext wr w4 := Ext.grown (Ext.refl _) g4 (fun k e => nomatch e); have O4 : Hid (Own w4 wr.heap.size 26 2 A4 0 c4 (tmsC (M.take 0))) := Lib.hid (by have := o4; rwa [Nat.zero_add, List.nil_append] at this); have e0 := y4.cell x0; have e1 := y4.cell x1; have Y4 := Lib.hid y4; clear o4 g4 y4; have p2 : True := trivial)
                    | (at_builtin; have mk := p2; clear p2 mk; go_loud (refine wpList_append_two _ elemTimes wr.heap.size _ _ rfl rfl A4 0 c4 (tmsC (M.take 0)) rfl (O4.out.alloc _) (some ⟨w4.heap.size, 0, none⟩) 1 1 [.int .u64 f, .slice Bx nx cx] rfl (Sl.one w4 #[.int .u64 f, .slice Bx nx cx] 26 2 rfl) (by intro u hu; simp at hu; rcases hu with rfl | rfl <;> rfl) (by omega) (by decide) (Nat.le_trans Y4.out.size ((Ext.refl w4).alloc _).size) ?_); intro A5 c5 w5 o5 g5 h5; clear h5; have Y5 : Hid (Ext wr w5) := Lib.hid (Ext.grown (Y4.out.alloc _) g5 (fun k e => (O4.out.lt k e).1)); have O5 := Lib.hid o5; clear o5 g5; have p3 : True := trivial)
                    | (at_builtin; have mk := p3; clear p3 mk; go_loud (refine wpList_append_two _ elemTimes wr.heap.size _ _ rfl rfl A5 (0 + 1) c5 _ rfl O5.out none (0) (0) (tmsC (M.drop 0)) rfl ((Sl.ext (by have := SD.out; simpa using this) Y5.out)) (tmsC_one _) (by omega) (by decide) Y5.out.size ?_); intro A6 c6 w6 o6 g6 h6; clear h6; have Y6 : Hid (Ext wr w6) := Lib.hid (Ext.grown Y5.out g6 (fun k e => (O5.out.lt k e).1)); have O6 := Lib.hid o6; clear o6 g6)
                    | fail)
                  go_roundg (m - (i + 1))
                  case measure => omega
                  case rel => exact ⟨i + 1, _, A6, c6, _, by omega, by omega, by go_num, rfl, Lib.hid (RofI.put (m := 0 + 1 + (0)) hL.out HP.out HIL.out HLE.out (j := 0) (by omega) HLT.out HGT.out (by omega) Y6.out (by have := O6.out; rw [HXC.out]; exact this))⟩
                | some a3 =>
                  by_cases hcj : c3 = n3
                  · subst hcj
                    have p1 : True := trivial
                    go_wp2_with (first
                      | (at_builtin; have mk := p1; clear p1 mk; go_loud (refine wpList_append_two _ elemTimes wr.heap.size _ _ rfl rfl none 0 0 [] rfl (Own.nil _ _ _ _) (some a3) c3 c3 (tmsC (M.take c3)) rfl ST.out (tmsC_one _) (by omega) (by decide) (Nat.le_refl _) ?_); intro A4 c4 w4 o4 g4 h4; clear h4; have y4 : Ext wr w4 := Ext.grown (Ext.refl _) g4 (fun k e => nomatch e); have O4 : Hid (Own w4 wr.heap.size 26 2 A4 c3 c4 (tmsC (M.take c3))) := Lib.hid (by have := o4; rwa [Nat.zero_add, List.nil_append] at this); have e0 := y4.cell x0; have e1 := y4.cell x1; have Y4 := Lib.hid y4; clear o4 g4 y4; have p2 : True := trivial)
                      | (at_builtin; have mk := p2; clear p2 mk; go_loud (refine wpList_append_two _ elemTimes wr.heap.size _ _ rfl rfl A4 c3 c4 (tmsC (M.take c3)) rfl (O4.out.alloc _) (some ⟨w4.heap.size, 0, none⟩) 1 1 [.int .u64 f, .slice Bx nx cx] rfl (Sl.one w4 #[.int .u64 f, .slice Bx nx cx] 26 2 rfl) (by intro u hu; simp at hu; rcases hu with rfl | rfl <;> rfl) (by omega) (by decide) (Nat.le_trans Y4.out.size ((Ext.refl w4).alloc _).size) ?_); intro A5 c5 w5 o5 g5 h5; clear h5; have Y5 : Hid (Ext wr w5) := Lib.hid (Ext.grown (Y4.out.alloc _) g5 (fun k e => (O4.out.lt k e).1)); have O5 := Lib.hid o5; clear o5 g5; have p3 : True := trivial)
                      | (at_builtin; have mk := p3; clear p3 mk; go_loud (refine wpList_append_two _ elemTimes wr.heap.size _ _ rfl rfl A5 (c3 + 1) c5 _ rfl O5.out _ (0) (0) (tmsC (M.drop c3)) rfl ((Sl.ext (by have := SD.out; rw [if_pos rfl, Nat.sub_self] at this; exact this) Y5.out)) (tmsC_one _) (by omega) (by decide) Y5.out.size ?_); intro A6 c6 w6 o6 g6 h6; clear h6; have Y6 : Hid (Ext wr w6) := Lib.hid (Ext.grown Y5.out g6 (fun k e => (O5.out.lt k e).1)); have O6 := Lib.hid o6; clear o6 g6)
                      | fail)
                    go_roundg (m - (i + 1))
                    case measure => omega
                    case rel => exact ⟨i + 1, _, A6, c6, _, by omega, by omega, by go_num, rfl, Lib.hid (RofI.put (m := c3 + 1 + (0)) hL.out HP.out HIL.out HLE.out (j := c3) (by omega) HLT.out HGT.out (by omega) Y6.out (by have := O6.out; rw [HXC.out]; exact this))⟩
                  · have p1 : True := trivial
                    go_wp2_with (first
                      | (at_builtin; have mk := p1; clear p1 mk; go_loud (refine wpList_append_two _ elemTimes wr.heap.size _ _ rfl rfl none 0 0 [] rfl (Own.nil _ _ _ _) (some a3) n3 c3 (tmsC (M.take n3)) rfl ST.out (tmsC_one _) (by omega) (by decide) (Nat.le_refl _) ?_); intro A4 c4 w4 o4 g4 h4; clear h4; have y4 : Ext wr w4 := Ext.grown (Ext.refl _) g4 (fun k e => nomatch e); have O4 : Hid (Own w4 wr.heap.size 26 2 A4 n3 c4 (tmsC (M.take n3))) := Lib.hid (by have := o4; rwa [Nat.zero_add, List.nil_append] at this); have e0 := y4.cell x0; have e1 := y4.cell x1; have Y4 := Lib.hid y4; clear o4 g4 y4; have p2 : True := trivial)
                      | (at_builtin; have mk := p2; clear p2 mk; go_loud (refine wpList_append_two _ elemTimes wr.heap.size _ _ rfl rfl A4 n3 c4 (tmsC (M.take n3)) rfl (O4.out.alloc _) (some ⟨w4.heap.size, 0, none⟩) 1 1 [.int .u64 f, .slice Bx nx cx] rfl (Sl.one w4 #[.int .u64 f, .slice Bx nx cx] 26 2 rfl) (by intro u hu; simp at hu; rcases hu with rfl | rfl <;> rfl) (by omega) (by decide) (Nat.le_trans Y4.out.size ((Ext.refl w4).alloc _).size) ?_); intro A5 c5 w5 o5 g5 h5; clear h5; have Y5 : Hid (Ext wr w5) := Lib.hid (Ext.grown (Y4.out.alloc _) g5 (fun k e => (O4.out.lt k e).1)); have O5 := Lib.hid o5; clear o5 g5; have p3 : True := trivial)
                      | (at_builtin; have mk := p3; clear p3 mk; go_loud (refine wpList_append_two _ elemTimes wr.heap.size _ _ rfl rfl A5 (n3 + 1) c5 _ rfl O5.out (some (a3.add (n3 * 2))) (0) (c3 - n3) (tmsC (M.drop n3)) rfl ((Sl.ext (by have := SD.out; rw [if_neg hcj, Nat.sub_self] at this; exact this) Y5.out)) (tmsC_one _) (by omega) (by decide) Y5.out.size ?_); intro A6 c6 w6 o6 g6 h6; clear h6; have Y6 : Hid (Ext wr w6) := Lib.hid (Ext.grown Y5.out g6 (fun k e => (O5.out.lt k e).1)); have O6 := Lib.hid o6; clear o6 g6)
                      | fail)
                    go_roundg (m - (i + 1))
                    case measure => omega
                    case rel => exact ⟨i + 1, _, A6, c6, _, by omega, by omega, by go_num, rfl, Lib.hid (RofI.put (m := n3 + 1 + (0)) hL.out HP.out HIL.out HLE.out (j := n3) (by omega) HLT.out HGT.out (by omega) Y6.out (by have := O6.out; rw [HXC.out]; exact this))⟩
    · obtain rfl : m = i := by omega
      have HV : Hid (M.map Tm.v = ofV (L.map Tm.v)) := Lib.hid ((show IsOf (L.map Tm.v) (M.map Tm.v) from OfUpto.done (S := L.map Tm.v) (by have := HP.out.up; rwa [show m = (L.map Tm.v).length by rw [List.length_map]; exact hm.out] at this) (fun _ => Iff.rfl)).eq)
      go_wp2
      go_ret
      exact ⟨A3, c3, n3, M, by simp, HP.out.len, HP.out.tin, HV.out, HP.out.ext⟩
end Go.Proofs.YtmdakaflmheidaaGreatDoor
namespace Go.Proofs.YtmdakaflmheidaaGreatDoor
open Go.RowKit

theorem rjoin_ok {mx : Int} {zl : List Int} (e1 e2 : Int) (A1 A2 : Option Addr) (n c1 c2 : Nat) (l1 l2 : List Int) (w : World) (hm : Hid (max e1 e2 = mx)) (hz : Hid (List.zipWith max l1 l2 = zl)) (h1 : Hid (Sl w 1 A1 n c1 (wds l1))) (h2 : Hid (Sl w 1 A2 n c2 (wds l2))) (hn : n ≤ 100000) :
    Calls Tryz.prog 70 #[.agg #[.int .u64 e1, .slice A1 n c1], .agg #[.int .u64 e2, .slice A2 n c2]] w fun e w' =>
      ∃ A c, e = .returned (.tuple #[.agg #[.int .u64 mx, .slice A n c], .int .i64 0]) ∧ Own w' w.heap.size 74 1 A n c (wds zl) ∧ Ext w w' := by
  rw [← hm.out, ← hz.out]
  exact rjoin_same e1 e2 A1 A2 n c1 c2 l1 l2 w h1.out h2.out (by omega)
theorem rof5_at {V : List TV} (AL : Option Addr) (cL m : Nat) (L : List Tm) (w : World) (hV : Hid (ofV (L.map Tm.v) = V)) (hm : Hid (m = L.length)) (hL : Hid (Tin w AL cL L)) (fL : Hid (∀ x ∈ L, U32 x.l ∧ x.l.length ≤ 1000000)) (h9 : m ≤ 1000000) :
    Calls Tryz.prog 28 #[.slice AL m cL] w (RofOut V w) := hV.out ▸ rof5_any AL cL m L w hm hL fL h9
set_option maxRecDepth 100000 in
set_option maxHeartbeats 16000000 in
theorem rchjoin_any (AL AM : Option Addr) (cL cM m n : Nat) (L M : List Tm) (w : World) (hm : Hid (m = L.length)) (hn : Hid (n = M.length)) (hL : Hid (Tin w AL cL L)) (hM : Hid (Tin w AM cM M)) (fL : Hid (Fine L)) (fM : Hid (Fine M)) (hm9 : m ≤ 1000) (hn9 : n ≤ 1000) :
    Calls Tryz.prog 29 #[.slice AL m cL, .slice AM n cM] w (RofOut (joinV (L.map Tm.v) (M.map Tm.v)) w) := by
  have HJ0 : Hid (JoinI w w none 0 [] (pairsV ((L.map Tm.v).take 0) (M.map Tm.v))) := Lib.hid ⟨Tout.nil _ _, rfl, fun x hx => (nomatch hx), Ext.refl _⟩
  have fFV : Hid (∀ v ∈ pairsV (L.map Tm.v) (M.map Tm.v), U32 v.2) := Lib.hid (fun v hv => by
    obtain ⟨x, hx, y, hy, _, rfl⟩ := pairs_mem.1 hv
    obtain ⟨x', hx', rfl⟩ := List.mem_map.1 hx
    obtain ⟨y', hy', rfl⟩ := List.mem_map.1 hy
    have h1 := (fL.out x' hx').1
    have h2 := (fM.out y' hy').1
    exact u32_max h1 h2)
  go_enter Tryz.func29, Tryz.ntmps29
  go_wp2
  go_loopg [5, 6] m (fun z v5 v14 wr => ∃ (k : Nat) (A : Option Addr) (c q : Nat) (R : List Tm), z = m - k ∧ k ≤ m ∧ v14 = .int .i64 k ∧ v5 = .slice A q c ∧ Hid (q = R.length) ∧ Hid (JoinI w wr A c R (pairsV ((L.map Tm.v).take k) (M.map Tm.v))) ∧ q ≤ k * 1000)
  case atStart => exact ⟨0, none, 0, 0, [], rfl, Nat.zero_le _, rfl, rfl, Lib.hid rfl, HJ0, Nat.zero_le _⟩
  case round =>
    clear HJ0
    obtain ⟨k, A, c, q, R, rfl, hk, rfl, rfl, HQ, HJ, hq⟩ := hrel
    by_cases hlt : k < m
    · have hkL : k < L.length := by rw [← hm.out]; exact hlt
      have HKV := Lib.hid (map_at hkL)
      have HKL := Lib.hid hkL
      have HJ1 : Hid (JoinI w wr A c R (pairK (L.map Tm.v) (M.map Tm.v) (L.getD k Tm.zero).v k 0)) := Lib.hid (by rw [pairK_zero]; exact HJ.out)
      clear HJ hkL
      obtain ⟨wo, hwo⟩ : ∃ wo : World, wo = wr := ⟨_, rfl⟩
      rw [← hwo] at HJ1 ⊢
      clear hwo
      go_wp2
      go_loopg [5, 7] n (fun z v5 v20 wi => ∃ (j : Nat) (A : Option Addr) (c q : Nat) (R : List Tm), z = n - j ∧ j ≤ n ∧ v20 = .int .i64 j ∧ v5 = .slice A q c ∧ Hid (q = R.length) ∧ Hid (JoinI w wi A c R (pairK (L.map Tm.v) (M.map Tm.v) (L.getD k Tm.zero).v k j)) ∧ q ≤ k * 1000 + j)
      case atStart => exact ⟨0, A, c, q, R, rfl, Nat.zero_le _, rfl, rfl, HQ, HJ1, by omega⟩
      case round =>
        clear HJ1 HQ
        obtain ⟨j, A, c, q, R, rfl, hj, rfl, rfl, HQ, HJ, hq⟩ := hrel
        by_cases hjt : j < n
        · have hjM : j < M.length := by rw [← hn.out]; exact hjt
          obtain ⟨e, Ax, nx, cx, l, ad, TX, hx, hnx⟩ := (hL.out.ext HJ.out.ext).tmAt HKL.out
          obtain ⟨f, Ay, ny, cy, ly, am, TY, hy, hny⟩ := (hM.out.ext HJ.out.ext).tmAt hjM
          obtain ⟨rfl, q0, q1, SX⟩ := TX
          have hfx := fL.out _ (getT_mem HKL.out)
          rw [hx] at hfx
          have hnx9 : nx ≤ 100000 := by rw [hnx]; exact hfx.2
          have HJV := Lib.hid (map_at hjM)
          have HXV : Hid ((L.getD k Tm.zero).v = (e, l)) := Lib.hid (by rw [hx]; rfl)
          rw [hy] at HJV
          rw [HXV.out] at HJ
          have HNX : Hid (l.length = nx) := Lib.hid hnx.symm
          have HNY : Hid (ly.length = ny) := Lib.hid hny.symm
          obtain ⟨e2, p0, p1, SY⟩ := TY
          have HQ0 := Lib.hid q0
          have HQ1 := Lib.hid q1
          have HP0 := Lib.hid p0
          have HP1 := Lib.hid p1
          subst e2
          clear hx hnx hy hny hjM hfx q0 q1 p0 p1
          have XE : Ext wr wr.drew := (Ext.refl wr).drew
          have q0 : ∀ y : Xt wr.drew, y.W.cell? (ad.add (k * 2)) = some (.int .u64 e) := fun y => HQ0.out ⟨_, XE.trans y.x⟩
          have q1 : ∀ y : Xt wr.drew, y.W.cell? ⟨(ad.add (k * 2)).block, (ad.add (k * 2)).off + 1, none⟩ = some (.slice Ax nx cx) := fun y => HQ1.out ⟨_, XE.trans y.x⟩
          have p0 : ∀ y : Xt wr.drew, y.W.cell? (am.add (j * 2)) = some (.int .u64 f) := fun y => HP0.out ⟨_, XE.trans y.x⟩
          have p1 : ∀ y : Xt wr.drew, y.W.cell? ⟨(am.add (j * 2)).block, (am.add (j * 2)).off + 1, none⟩ = some (.slice Ay ny cy) := fun y => HP1.out ⟨_, XE.trans y.x⟩
          by_cases hs : nx = ny
          · subst hs
            obtain ⟨mx, hmx⟩ : ∃ mx, max e f = mx := ⟨_, rfl⟩
            obtain ⟨zl, hzl⟩ : ∃ zl, List.zipWith max l ly = zl := ⟨_, rfl⟩
            have HMX := Lib.hid hmx
            have HZL := Lib.hid hzl
            clear hmx hzl
            have HZN : Hid (nx = zl.length) := Lib.hid (by have a := HNX.out; have b := HNY.out; rw [← HZL.out, List.length_zipWith, a, b]; simp)
            go_upto_region 8 with fail
            refine wp_region_ord [0,0,3,7,0,0,48,112,255,511,1023,1023,0,6143,16383] (.flo [0,1,2,3,4,5,6,7] (.both 8 12 (.flo [9,10] (.pur [11] (.ext 12 (.one 13 (.flo [14] (.fin)))))) (.ext 8 (.flo [9,10] (.pur [11] (.one 13 (.flo [14] (.fin)))))))) (by kernel_rfl) (by kernel_rfl) (by intro _ _ d _ _ h; cases d <;> exact h) ?_
            (refine ord_flo (pick_cons rfl (pick_cons rfl (pick_cons rfl (pick_cons rfl (pick_cons rfl (pick_cons rfl (pick_cons rfl (pick_cons rfl pick_nil)))))))) ?_; (repeat (go_big_quiet_step (fail))); refine wpQuiet_nil ?_; show ordWalk _ _ _ _ _ _ _)
            refine ord_both (pick_cons rfl pick_nil) (pick_cons rfl pick_nil) ?_ ?_ <;> intro K_ hK_
            · go_wp2_with (go_at_call 70; go_loud (refine (rjoin_ok e f Ax Ay nx cx cy l ly _ HMX HZL (SX ⟨_, XE⟩) (SY ⟨_, XE⟩) hnx9).mono ?_); rintro r w3 ⟨A3, c3, rfl, o3, x3⟩)
              refine ordNext.mk x3 ?_
              (refine ord_flo (pick_cons rfl (pick_cons rfl pick_nil)) ?_; (repeat (go_big_quiet_step (fail))); refine wpQuiet_nil ?_; show ordWalk _ _ _ _ _ _ _)
              (refine ord_pur (pick_cons rfl pick_nil) ?_; (repeat (go_big_quiet_step (fail))); refine wpQuiet_nil ?_; show ordWalk _ _ _ _ _ _ _)
              refine ord_ext (pick_cons rfl pick_nil) ?_; intro K_ hK_
              go_wp2
              refine ordNext.mk ((Ext.refl _).alloc _) ?_
              have bz : Bk (w3.alloc (.cells #[.int .u64 0, .slice none 0 0] 26)) w3.heap.size 26 #[.int .u64 0, .slice none 0 0] := Bk.new _ _ _
              have d0 := bz.cell 0
              have d1 := bz.cell 1
              have d2 := bz.free 0
              have d3 := bz.free 1
              refine ord_one (pick_cons rfl pick_nil) ?_; intro K_ hK_
              go_wp2
              (refine ord_flo (pick_cons rfl pick_nil) ?_; (repeat (go_big_quiet_step (fail))); refine wpQuiet_nil ?_; show ordWalk _ _ _ _ _ _ _)
              refine ord_fin ?_
              obtain ⟨w8, hw8⟩ : ∃ w8, w8 = w3.alloc (.cells #[.int .u64 mx, .slice A3 nx c3] 26) := ⟨_, rfl⟩
              have t8 : Bk w8 w3.heap.size 26 #[.int .u64 mx, .slice A3 nx c3] := by subst hw8; exact Bk.new _ _ _
              have x8 : Ext wr w8 := by subst hw8; exact (XE.trans x3).alloc _
              have o8 : Own w8 wr.heap.size 74 1 A3 nx c3 (wds zl) := by subst hw8; exact (o3.mono XE.size).alloc _
              rw [← hw8]
              clear hw8 bz d0 d1 d2 d3 o3 x3
              have HT8 := Lib.hid t8
              have X8 := Lib.hid x8
              have HO8 := Lib.hid o8
              have z0 := t8.cell 0
              have z1 := t8.cell 1
              clear t8 x8 o8
              go_wp2_with (at_builtin; go_loud (refine wpList_append_two _ elemTimes w.heap.size _ _ rfl rfl A q c (tmsC R) rfl (by rw [HQ.out]; exact ((HJ.out.out.ext X8.out).own.alloc _)) (some ⟨w8.heap.size, 0, none⟩) 1 1 (tmC ⟨mx, A3, c3, zl⟩) rfl (by rw [show tmC ⟨mx, A3, c3, zl⟩ = [.int .u64 mx, .slice A3 nx c3] by rw [HZN.out]; rfl]; exact Sl.one w8 #[.int .u64 mx, .slice A3 nx c3] 26 2 rfl) (by rw [show tmC ⟨mx, A3, c3, zl⟩ = [.int .u64 mx, .slice A3 nx c3] by rw [HZN.out]; rfl]; exact fun u hu => by simp at hu; rcases hu with rfl | rfl <;> rfl) (by omega) (by decide) (Nat.le_trans HJ.out.ext.size (Nat.le_trans X8.out.size (Ext.size ((Ext.refl w8).alloc _)))) ?_); intro A5 c5 w5 o5 g5 x5; have HO5 := Lib.hid o5; have HG5 := Lib.hid g5; have HX5 := Lib.hid x5; clear o5 g5 x5)
              go_roundg (n - (j + 1))
              case measure => omega
              case rel =>
                have hp := HJ.out.push X8.out HZN.out hnx9 HO8.out (by rw [← HQ.out]; exact HO5.out) _ HG5.out HX5.out
                refine ⟨j + 1, A5, c5, q + 1, R ++ [⟨mx, A3, c3, zl⟩], by omega, by omega, by go_num, rfl, Lib.hid (by rw [List.length_append, HQ.out]; rfl), Lib.hid ?_, by omega⟩
                rw [HXV.out]
                obtain ⟨h1, h2⟩ := HJV.out
                rw [pairK_yes h1 (by rw [h2]; exact decide_eq_true (by have a := HNX.out; have b := HNY.out; show l.length = ly.length; omega)), h2]
                have e9 : maxT (e, l) (⟨f, Ay, cy, ly⟩ : Tm).v = (mx, zl) := by show (max e f, List.zipWith max l ly) = _; rw [HMX.out, HZL.out]
                rw [e9]
                exact hp
            · go_wp2
              refine ordNext.mk ((Ext.refl _).alloc _) ?_
              obtain ⟨w2, hw2⟩ : ∃ w2, w2 = (wr.alloc (.cells #[.int .u64 0, .slice none 0 0] 26)).drew := ⟨_, rfl⟩
              have b2 : Bk w2 wr.heap.size 26 #[.int .u64 0, .slice none 0 0] := by subst hw2; exact (Bk.new _ _ _).drew
              have x2 : Ext wr.drew w2 := by subst hw2; exact (Ext.refl wr.drew).alloc _
              rw [← hw2]
              clear hw2
              have hb2 := b2.lt
              refine ord_ext (pick_cons rfl pick_nil) ?_; intro K_ hK_
              go_wp2_with (go_at_call 70; go_loud (refine (rjoin_ok e f Ax Ay nx cx cy l ly _ HMX HZL (SX ⟨_, XE.trans x2⟩) (SY ⟨_, XE.trans x2⟩) hnx9).mono ?_); rintro r w3 ⟨A3, c3, rfl, o3, x3⟩)
              refine ordNext.mk x3 ?_
              have bz := b2.ext x3
              have d0 := bz.cell 0
              have d1 := bz.cell 1
              have d2 := bz.free 0
              have d3 := bz.free 1
              have d4 := bz.set2 (.int .u64 mx) (.slice A3 nx c3)
              have d5 := d4.1
              have d6 := d4.2
              clear d4
              (refine ord_flo (pick_cons rfl (pick_cons rfl pick_nil)) ?_; (repeat (go_big_quiet_step (fail))); refine wpQuiet_nil ?_; show ordWalk _ _ _ _ _ _ _)
              (refine ord_pur (pick_cons rfl pick_nil) ?_; (repeat (go_big_quiet_step (fail))); refine wpQuiet_nil ?_; show ordWalk _ _ _ _ _ _ _)
              refine ord_one (pick_cons rfl pick_nil) ?_; intro K_ hK_
              go_wp2
              (refine ord_flo (pick_cons rfl pick_nil) ?_; (repeat (go_big_quiet_step (fail))); refine wpQuiet_nil ?_; show ordWalk _ _ _ _ _ _ _)
              refine ord_fin ?_
              obtain ⟨w8, hw8⟩ : ∃ w8, w8 = (w3.setCell ⟨wr.heap.size, 0, none⟩ (.int .u64 mx)).setCell ⟨wr.heap.size, 1, none⟩ (.slice A3 nx c3) := ⟨_, rfl⟩
              have t8 : Bk w8 wr.heap.size 26 #[.int .u64 mx, .slice A3 nx c3] := by subst hw8; exact (bz.set 0 _).set 1 _
              have hgw : wr.heap.size ≤ wr.heap.size := Nat.le_refl _
              have x8 : Ext wr w8 := by subst hw8; exact (((XE.trans x2).trans x3).set hgw _).set hgw _
              have o8 : Own w8 wr.heap.size 74 1 A3 nx c3 (wds zl) := by subst hw8; exact ((o3.far (o3.ne hb2) _).far (o3.ne hb2) _).mono (Nat.le_trans XE.size x2.size)
              rw [← hw8]
              clear hw8 bz d0 d1 d2 d3 d5 d6 o3 x3 b2
              have HT8 := Lib.hid t8
              have X8 := Lib.hid x8
              have HO8 := Lib.hid o8
              have z0 := t8.cell 0
              have z1 := t8.cell 1
              clear t8 x8 o8
              go_wp2_with (at_builtin; go_loud (refine wpList_append_two _ elemTimes w.heap.size _ _ rfl rfl A q c (tmsC R) rfl (by rw [HQ.out]; exact ((HJ.out.out.ext X8.out).own.alloc _)) (some ⟨w8.heap.size, 0, none⟩) 1 1 (tmC ⟨mx, A3, c3, zl⟩) rfl (by rw [show tmC ⟨mx, A3, c3, zl⟩ = [.int .u64 mx, .slice A3 nx c3] by rw [HZN.out]; rfl]; exact Sl.one w8 #[.int .u64 mx, .slice A3 nx c3] 26 2 rfl) (by rw [show tmC ⟨mx, A3, c3, zl⟩ = [.int .u64 mx, .slice A3 nx c3] by rw [HZN.out]; rfl]; exact fun u hu => by simp at hu; rcases hu with rfl | rfl <;> rfl) (by omega) (by decide) (Nat.le_trans HJ.out.ext.size (Nat.le_trans X8.out.size (Ext.size ((Ext.refl w8).alloc _)))) ?_); intro A5 c5 w5 o5 g5 x5; have HO5 := Lib.hid o5; have HG5 := Lib.hid g5; have HX5 := Lib.hid x5; clear o5 g5 x5)
              go_roundg (n - (j + 1))
              case measure => omega
              case rel =>
                have hp := HJ.out.push X8.out HZN.out hnx9 HO8.out (by rw [← HQ.out]; exact HO5.out) _ HG5.out HX5.out
                refine ⟨j + 1, A5, c5, q + 1, R ++ [⟨mx, A3, c3, zl⟩], by omega, by omega, by go_num, rfl, Lib.hid (by rw [List.length_append, HQ.out]; rfl), Lib.hid ?_, by omega⟩
                rw [HXV.out]
                obtain ⟨h1, h2⟩ := HJV.out
                rw [pairK_yes h1 (by rw [h2]; exact decide_eq_true (by have a := HNX.out; have b := HNY.out; show l.length = ly.length; omega)), h2]
                have e9 : maxT (e, l) (⟨f, Ay, cy, ly⟩ : Tm).v = (mx, zl) := by show (max e f, List.zipWith max l ly) = _; rw [HMX.out, HZL.out]
                rw [e9]
                exact hp
          · have hne : ((nx : Int) != (ny : Int)) = true := by simp; omega
            have HS := Lib.hid hs
            clear hs
            have HPN : Hid (∀ w8, Ext wr w8 → JoinI w w8 A c R (pairK (L.map Tm.v) (M.map Tm.v) (e, l) k (j + 1))) := Lib.hid (fun w8 x8 => by
              obtain ⟨h1, h2⟩ := HJV.out
              rw [pairK_no h1 (by rw [h2]; exact decide_eq_false (by have a := HNX.out; have b := HNY.out; have := HS.out; show ¬ l.length = ly.length; omega))]
              exact HJ.out.grow x8)
            go_upto_region 8 with fail
            refine wp_region_ord [0,0,3,7,0,0,48,112,255,511,1023,1023,0,6143,16383] (.flo [0,1,2,3,4,5,6,7] (.both 8 12 (.flo [9,10] (.pur [11] (.ext 12 (.one 13 (.flo [14] (.fin)))))) (.ext 8 (.flo [9,10] (.pur [11] (.one 13 (.flo [14] (.fin)))))))) (by kernel_rfl) (by kernel_rfl) (by intro _ _ d _ _ h; cases d <;> exact h) ?_
            (refine ord_flo (pick_cons rfl (pick_cons rfl (pick_cons rfl (pick_cons rfl (pick_cons rfl (pick_cons rfl (pick_cons rfl (pick_cons rfl pick_nil)))))))) ?_; (repeat (go_big_quiet_step (fail))); refine wpQuiet_nil ?_; show ordWalk _ _ _ _ _ _ _)
            refine ord_both (pick_cons rfl pick_nil) (pick_cons rfl pick_nil) ?_ ?_ <;> intro K_ hK_
            · go_wp2_with (go_at_call 70; go_loud (refine (rjoin_diff e f Ax Ay nx ny cx cy _ hne).mono ?_); rintro r w3 ⟨rfl, x3⟩)
              refine ordNext.mk x3 ?_
              (refine ord_flo (pick_cons rfl (pick_cons rfl pick_nil)) ?_; (repeat (go_big_quiet_step (fail))); refine wpQuiet_nil ?_; show ordWalk _ _ _ _ _ _ _)
              (refine ord_pur (pick_cons rfl pick_nil) ?_; (repeat (go_big_quiet_step (fail))); refine wpQuiet_nil ?_; show ordWalk _ _ _ _ _ _ _)
              refine ord_ext (pick_cons rfl pick_nil) ?_; intro K_ hK_
              go_wp2
              refine ordNext.mk ((Ext.refl _).alloc _) ?_
              have bz : Bk (w3.alloc (.cells #[.int .u64 0, .slice none 0 0] 26)) w3.heap.size 26 #[.int .u64 0, .slice none 0 0] := Bk.new _ _ _
              have d0 := bz.cell 0
              have d1 := bz.cell 1
              have d2 := bz.free 0
              have d3 := bz.free 1
              refine ord_one (pick_cons rfl pick_nil) ?_; intro K_ hK_
              go_wp2
              (refine ord_flo (pick_cons rfl pick_nil) ?_; (repeat (go_big_quiet_step (fail))); refine wpQuiet_nil ?_; show ordWalk _ _ _ _ _ _ _)
              refine ord_fin ?_
              have X8 := Lib.hid ((XE.trans x3).alloc (.cells #[.int .u64 0, .slice none 0 0] 26))
              clear bz d0 d1 d2 d3 x3
              go_wp2
              go_roundg (n - (j + 1))
              case measure => omega
              case rel => exact ⟨j + 1, A, c, q, R, by omega, by omega, by go_num, rfl, HQ, Lib.hid (by rw [HXV.out]; exact HPN.out _ X8.out), by omega⟩
            · go_wp2
              refine ordNext.mk ((Ext.refl _).alloc _) ?_
              obtain ⟨w2, hw2⟩ : ∃ w2, w2 = (wr.alloc (.cells #[.int .u64 0, .slice none 0 0] 26)).drew := ⟨_, rfl⟩
              have b2 : Bk w2 wr.heap.size 26 #[.int .u64 0, .slice none 0 0] := by subst hw2; exact (Bk.new _ _ _).drew
              have x2 : Ext wr.drew w2 := by subst hw2; exact (Ext.refl wr.drew).alloc _
              rw [← hw2]
              clear hw2
              refine ord_ext (pick_cons rfl pick_nil) ?_; intro K_ hK_
              go_wp2_with (go_at_call 70; go_loud (refine (rjoin_diff e f Ax Ay nx ny cx cy _ hne).mono ?_); rintro r w3 ⟨rfl, x3⟩)
              refine ordNext.mk x3 ?_
              have bz := b2.ext x3
              have d0 := bz.cell 0
              have d1 := bz.cell 1
              have d2 := bz.free 0
              have d3 := bz.free 1
              have d4 := bz.set2 (.int .u64 0) (.slice none 0 0)
              have d5 := d4.1
              have d6 := d4.2
              clear d4
              (refine ord_flo (pick_cons rfl (pick_cons rfl pick_nil)) ?_; (repeat (go_big_quiet_step (fail))); refine wpQuiet_nil ?_; show ordWalk _ _ _ _ _ _ _)
              (refine ord_pur (pick_cons rfl pick_nil) ?_; (repeat (go_big_quiet_step (fail))); refine wpQuiet_nil ?_; show ordWalk _ _ _ _ _ _ _)
              refine ord_one (pick_cons rfl pick_nil) ?_; intro K_ hK_
              go_wp2
              (refine ord_flo (pick_cons rfl pick_nil) ?_; (repeat (go_big_quiet_step (fail))); refine wpQuiet_nil ?_; show ordWalk _ _ _ _ _ _ _)
              refine ord_fin ?_
              have hgw : wr.heap.size ≤ wr.heap.size := Nat.le_refl _
              have X8 := Lib.hid ((((XE.trans x2).trans x3).set (p := ⟨wr.heap.size, 0, none⟩) hgw (.int .u64 0)).set (p := ⟨wr.heap.size, 1, none⟩) hgw (.slice none 0 0))
              clear bz d0 d1 d2 d3 d5 d6 x3 b2
              go_wp2
              go_roundg (n - (j + 1))
              case measure => omega
              case rel => exact ⟨j + 1, A, c, q, R, by omega, by omega, by go_num, rfl, HQ, Lib.hid (by rw [HXV.out]; exact HPN.out _ X8.out), by omega⟩
        · obtain rfl : n = j := by omega
          go_wp2
          go_roundg (m - (k + 1))
          case measure => omega
          case rel =>
            refine ⟨k + 1, A, c, q, R, by omega, by omega, by go_num, rfl, HQ, Lib.hid ?_, by omega⟩
            obtain ⟨h1, h2⟩ := HKV.out
            have hJ := HJ.out
            rw [show n = (M.map Tm.v).length by rw [List.length_map]; exact hn.out, show (L.getD k Tm.zero).v = (L.map Tm.v)[k] from h2.symm, pairK_end h1] at hJ
            exact hJ
    · obtain rfl : m = k := by omega
      have HF : Hid (∀ x ∈ R, U32 x.l ∧ x.l.length ≤ 1000000) := Lib.hid (fun x hx => ⟨fFV.out x.v (by have := HJ.out.is; rw [show m = (L.map Tm.v).length by rw [List.length_map]; exact hm.out, List.take_length] at this; rw [← this]; exact List.mem_map.2 ⟨x, hx, rfl⟩), HJ.out.len x hx⟩)
      have HV : Hid (ofV (R.map Tm.v) = joinV (L.map Tm.v) (M.map Tm.v)) := Lib.hid (by have := HJ.out.is; rw [show m = (L.map Tm.v).length by rw [List.length_map]; exact hm.out, List.take_length] at this; rw [this]; rfl)
      go_wp2_with (first
        | (go_at_call 28; go_loud (refine (rof5_at A c q R _ HV HQ (Lib.hid HJ.out.out.tin) HF (by omega)).mono ?_); rintro r w4 ⟨A4, c4, n4, M4, rfl, h4, t4, v4, x4⟩; have HO : Hid (RofOut (joinV (L.map Tm.v) (M.map Tm.v)) wr (.returned (.slice A4 n4 c4)) w4) := Lib.hid ⟨A4, c4, n4, M4, rfl, h4, t4, v4, x4⟩; clear h4 t4 v4 x4))
      go_ret
      obtain ⟨A', c', n', M', e', h1, h2, h3, h4⟩ := HO.out
      exact ⟨A', c', n', M', by simpa using e', h1, h2, h3, HJ.out.ext.trans h4⟩
end Go.Proofs.YtmdakaflmheidaaGreatDoor
namespace Go.Proofs.YtmdakaflmheidaaGreatDoor
open Go.RowKit

theorem rmeet_ok {mx : Int} {zl : List Int} (e1 e2 : Int) (A1 A2 : Option Addr) (n c1 c2 : Nat) (l1 l2 : List Int) (w : World) (hm : Hid (min e1 e2 = mx)) (hz : Hid (List.zipWith min l1 l2 = zl)) (h1 : Hid (Sl w 1 A1 n c1 (wds l1))) (h2 : Hid (Sl w 1 A2 n c2 (wds l2))) (hn : n ≤ 100000) :
    Calls Tryz.prog 72 #[.agg #[.int .u64 e1, .slice A1 n c1], .agg #[.int .u64 e2, .slice A2 n c2]] w fun e w' =>
      ∃ A c, e = .returned (.tuple #[.agg #[.int .u64 mx, .slice A n c], .int .i64 0]) ∧ Own w' w.heap.size 74 1 A n c (wds zl) ∧ Ext w w' := by
  rw [← hm.out, ← hz.out]
  exact rmeet_same e1 e2 A1 A2 n c1 c2 l1 l2 w h1.out h2.out (by omega)
theorem Bk.set_ne {w : World} {g : Nat} {T : TypeId} {cs : Array Value} (h : Bk w g T cs) {p : Addr} (hp : g ≠ p.block) (u : Value) : Bk (w.setCell p u) g T cs := by
  have := (Upd.refl (fun k => k = p.block) w).setCell (p := p) (.inl rfl) u
  exact (this.block g h.lt hp).trans h
set_option maxRecDepth 100000 in
set_option maxHeartbeats 16000000 in
theorem radv5_any (AL : Option Addr) (cL m : Nat) (L : List Tm) (e : Int) (A : Option Addr) (n c : Nat) (l : List Int) (w : World) (hm : Hid (m = L.length)) (hL : Hid (Tin w AL cL L)) (fL : Hid (Fine L)) (ht : Hid (Sl w 1 A n c (wds l))) (u : U32 l) (h9 : m ≤ 1000000) (hn : n ≤ 100000) :
    Calls Tryz.prog 31 #[.slice AL m cL, .agg #[.int .u64 e, .slice A n c]] w fun r w' => ∃ A' c', r = .returned (.agg #[.int .u64 (advV (L.map Tm.v) (e, l)).1, .slice A' n c']) ∧ Sl w' 1 A' n c' (wds (advV (L.map Tm.v) (e, l)).2) ∧ Ext w w' := by
  have HN : Hid (n = l.length) := Lib.hid ht.out.wlen.symm
  have HU := Lib.hid u
  clear u
  go_enter Tryz.func31, Tryz.ntmps31
  go_wp2
  obtain ⟨w0, hw0⟩ : ∃ w0, w0 = ((w.alloc (Obj.cells #[Value.int IntKind.u64 e, Value.slice A n c] 26)).alloc (Obj.cells #[Value.int IntKind.u64 0, Value.slice none 0 0] 26)).alloc (Obj.cells #[Value.int IntKind.u64 e, Value.slice A n c] 26) := ⟨_, rfl⟩
  have X0 : Hid (Ext w w0) := Lib.hid (hw0 ▸ (((Ext.refl w).alloc _).alloc _).alloc _)
  have T0 : Hid (Bk w0 w.heap.size 26 #[Value.int IntKind.u64 e, Value.slice A n c]) := Lib.hid (by subst hw0; exact ((Bk.new _ _ _).alloc _).alloc _)
  have R0 : Hid (Bk w0 (w.heap.size + 1) 26 #[Value.int IntKind.u64 0, Value.slice none 0 0]) := Lib.hid (by subst hw0; exact (Bk.at (by simp)).alloc _)
  have O0 : Hid (Bk w0 (w.heap.size + 2) 26 #[Value.int IntKind.u64 e, Value.slice A n c]) := Lib.hid (by subst hw0; exact Bk.at (by simp))
  have S0 : Hid (w.heap.size + 3 ≤ w0.heap.size) := Lib.hid (by subst hw0; simp)
  rw [← hw0]
  clear hw0
  go_loopg [6, 7] m (fun z v6 v7 wr => ∃ (k : Nat) (acc : Option TV) (o : TV) (Ao : Option Addr) (co : Nat) (b : Bool), z = m - k ∧ k ≤ m ∧ v7 = .int .i64 k ∧ v6 = .bool b ∧ Hid (((L.map Tm.v).take k).foldl (advStep (e, l)) none = acc) ∧ Hid (Ext w wr) ∧ Hid (Bk wr w.heap.size 26 #[.int .u64 e, .slice A n c]) ∧ Hid (Bk wr (w.heap.size + 1) 26 #[.int .u64 0, .slice none 0 0]) ∧ Hid (Bk wr (w.heap.size + 2) 26 #[.int .u64 o.1, .slice Ao n co]) ∧ Hid (w.heap.size + 3 ≤ wr.heap.size) ∧
    ((acc = none ∧ b = true ∧ Hid (o = (e, l) ∧ Ao = A ∧ co = c)) ∨ (acc = some o ∧ b = false ∧ Hid (Own wr (w.heap.size + 3) 74 1 Ao n co (wds o.2)) ∧ Hid (U32 o.2))))
  case atStart => exact ⟨0, none, (e, l), A, c, true, rfl, Nat.zero_le _, rfl, rfl, Lib.hid rfl, X0, T0, R0, O0, S0, .inl ⟨rfl, rfl, Lib.hid ⟨rfl, rfl, rfl⟩⟩⟩
  case round =>
    clear X0 T0 R0 O0 S0
    obtain ⟨k, acc, o, Ao, co, b, rfl, hk, rfl, rfl, HF, HE, tb, rb, ob, HW2, hacc⟩ := hrel
    by_cases hlt : k < m
    · have hkL : k < L.length := by rw [← hm.out]; exact hlt
      obtain ⟨f, Ax, nx, cx, lx, ad, TX, hx, hnx⟩ := (hL.out.ext HE.out).tmAt hkL
      obtain ⟨rfl, qq0, qq1, SX⟩ := TX
      have hfx := fL.out _ (getT_mem hkL)
      rw [hx] at hfx
      have HG : Hid (U32 lx) := Lib.hid hfx.1
      have HKV := Lib.hid (map_at hkL)
      rw [hx] at HKV
      have HNX : Hid (lx.length = nx) := Lib.hid hnx.symm
      have HQ0 := Lib.hid qq0
      have HQ1 := Lib.hid qq1
      clear hx hnx hkL hfx qq0 qq1
      have XE : Ext wr wr.drew := (Ext.refl wr).drew
      have q0 : ∀ y : Xt wr.drew, y.W.cell? (ad.add (k * 2)) = some (.int .u64 f) := fun y => HQ0.out ⟨_, XE.trans y.x⟩
      have q1 : ∀ y : Xt wr.drew, y.W.cell? ⟨(ad.add (k * 2)).block, (ad.add (k * 2)).off + 1, none⟩ = some (.slice Ax nx cx) := fun y => HQ1.out ⟨_, XE.trans y.x⟩
      have p0 : ∀ y : Xt wr.drew, y.W.cell? ⟨w.heap.size, 0, none⟩ = some (.int .u64 e) := fun y => (tb.out.ext (XE.trans y.x)).cell 0
      have p1 : ∀ y : Xt wr.drew, y.W.cell? ⟨w.heap.size, 1, none⟩ = some (.slice A n c) := fun y => (tb.out.ext (XE.trans y.x)).cell 1
      by_cases hs : n = nx
      · subst hs
        obtain ⟨mx, hmx⟩ : ∃ mx, max e f = mx := ⟨_, rfl⟩
        obtain ⟨zl, hzl⟩ : ∃ zl, List.zipWith max l lx = zl := ⟨_, rfl⟩
        have HMX := Lib.hid hmx
        have HZL := Lib.hid hzl
        clear hmx hzl
        have HZU : Hid (U32 zl) := Lib.hid (HZL.out ▸ u32_max HU.out HG.out)
        have HM : Hid (maxT (e, l) (f, lx) = (mx, zl)) := Lib.hid (by show (max e f, List.zipWith max l lx) = _; rw [HMX.out, HZL.out])
        have HSM : Hid (same (e, l) (f, lx) = true) := Lib.hid (decide_eq_true (by have a := HNX.out; have b := HN.out; show l.length = lx.length; omega))
        go_upto_region 6 with fail
        refine wp_region_ord [0,0,0,6,14,31,63,127,127,0,767,2047] (.flo [0,1,2,3,4] (.both 5 9 (.flo [6,7] (.pur [8] (.ext 9 (.one 10 (.flo [11] (.fin)))))) (.ext 5 (.flo [6,7] (.pur [8] (.one 10 (.flo [11] (.fin)))))))) (by kernel_rfl) (by kernel_rfl) (by intro _ _ d _ _ h; cases d <;> exact h) ?_
        (refine ord_flo (pick_cons rfl (pick_cons rfl (pick_cons rfl (pick_cons rfl (pick_cons rfl pick_nil))))) ?_; (repeat (go_big_quiet_step (fail))); refine wpQuiet_nil ?_; show ordWalk _ _ _ _ _ _ _)
        refine ord_both (pick_cons rfl pick_nil) (pick_cons rfl pick_nil) ?_ ?_ <;> intro K_ hK_
        · go_wp2_with (go_at_call 70; go_loud (refine (rjoin_ok e f A Ax n c cx l lx _ HMX HZL (Lib.hid (ht.out.ext (HE.out.trans XE))) (SX ⟨_, XE⟩) hn).mono ?_); rintro r w3 ⟨A3, c3, rfl, o3, x3⟩)
          refine ordNext.mk x3 ?_
          (refine ord_flo (pick_cons rfl (pick_cons rfl pick_nil)) ?_; (repeat (go_big_quiet_step (fail))); refine wpQuiet_nil ?_; show ordWalk _ _ _ _ _ _ _)
          (refine ord_pur (pick_cons rfl pick_nil) ?_; (repeat (go_big_quiet_step (fail))); refine wpQuiet_nil ?_; show ordWalk _ _ _ _ _ _ _)
          refine ord_ext (pick_cons rfl pick_nil) ?_; intro K_ hK_
          go_wp2
          refine ordNext.mk ((Ext.refl _).alloc _) ?_
          have bz : Bk (w3.alloc (.cells #[.int .u64 0, .slice none 0 0] 26)) w3.heap.size 26 #[.int .u64 0, .slice none 0 0] := Bk.new _ _ _
          have d0 := bz.cell 0
          have d1 := bz.cell 1
          have d2 := bz.free 0
          have d3 := bz.free 1
          refine ord_one (pick_cons rfl pick_nil) ?_; intro K_ hK_
          go_wp2
          (refine ord_flo (pick_cons rfl pick_nil) ?_; (repeat (go_big_quiet_step (fail))); refine wpQuiet_nil ?_; show ordWalk _ _ _ _ _ _ _)
          refine ord_fin ?_
          obtain ⟨w8, hw8⟩ : ∃ w8, w8 = w3.alloc (.cells #[.int .u64 mx, .slice A3 n c3] 26) := ⟨_, rfl⟩
          have t8 : Bk w8 w3.heap.size 26 #[.int .u64 mx, .slice A3 n c3] := by subst hw8; exact Bk.new _ _ _
          have x8 : Ext wr w8 := by subst hw8; exact (XE.trans x3).alloc _
          have o8 : Own w8 wr.heap.size 74 1 A3 n c3 (wds zl) := by subst hw8; exact (o3.mono XE.size).alloc _
          rw [← hw8]
          clear hw8 bz d0 d1 d2 d3 o3 x3
          have tb8 := tb.out.ext x8
          have rb8 := rb.out.ext x8
          have ob8 := ob.out.ext x8
          have z0 := t8.cell 0
          have z1 := t8.cell 1
          have y0 := ob8.cell 0
          have y1 := ob8.cell 1
          have y2 := ob8.free 0
          have y3 := ob8.free 1
          have HT8 := Lib.hid t8
          have X8 := Lib.hid x8
          have HO8 := Lib.hid o8
          have TB := Lib.hid tb8
          have RB := Lib.hid rb8
          have OB := Lib.hid ob8
          clear t8 x8 o8 tb8 rb8 ob8
          rcases hacc with ⟨rfl, rfl, HOT⟩ | ⟨rfl, rfl, HOS, HOU⟩
          · have y4 := OB.out.set2 (.int .u64 mx) (.slice A3 n c3)
            have y5 := y4.1
            have y6 := y4.2
            clear y4
            go_wp2
            go_roundg (m - (k + 1))
            case measure => omega
            case rel =>
              have h8 := X8.out.size
              have hw2 := HW2.out
              refine ⟨k + 1, some (mx, zl), (mx, zl), A3, c3, false, by omega, by omega, by go_num, rfl, Lib.hid ?_, Lib.hid ?_, Lib.hid ?_, Lib.hid ?_, Lib.hid ?_, Lib.hid ?_, .inr ⟨rfl, rfl, Lib.hid ?_, Lib.hid HZU.out⟩⟩
              · obtain ⟨h1, h2⟩ := HKV.out
                rw [fold_take h1, HF.out, h2]
                show (if same (e, l) (f, lx) = true then some (maxT (e, l) (f, lx)) else none) = _
                rw [if_pos HSM.out, HM.out]
              · exact ((HE.out.trans X8.out).set (p := ⟨w.heap.size + 2, 0, none⟩) (by simp) _).set (p := ⟨w.heap.size + 2, 1, none⟩) (by simp) _
              · exact (TB.out.set_ne (p := ⟨w.heap.size + 2, 0, none⟩) (by simp) _).set_ne (p := ⟨w.heap.size + 2, 1, none⟩) (by simp) _
              · exact (RB.out.set_ne (p := ⟨w.heap.size + 2, 0, none⟩) (by simp) _).set_ne (p := ⟨w.heap.size + 2, 1, none⟩) (by simp) _
              · exact (OB.out.set 0 _).set 1 _
              · simp only [World.size_setCell]; omega
              · exact Own.mono ((HO8.out.far (HO8.out.ne (k := w.heap.size + 2) (by omega)) _).far (HO8.out.ne (k := w.heap.size + 2) (by omega)) _) (show w.heap.size + 3 ≤ wr.heap.size by omega)
          · obtain ⟨mn, hmn⟩ : ∃ mn, min o.1 mx = mn := ⟨_, rfl⟩
            obtain ⟨zn, hzn⟩ : ∃ zn, List.zipWith min o.2 zl = zn := ⟨_, rfl⟩
            have HMN := Lib.hid hmn
            have HZN := Lib.hid hzn
            clear hmn hzn
            have HM2 : Hid (minT o (mx, zl) = (mn, zn)) := Lib.hid (by show (min o.1 mx, List.zipWith min o.2 zl) = _; rw [HMN.out, HZN.out])
            go_wp2_with (first
              | (go_at_call 72; go_loud (refine (rmeet_ok o.1 mx Ao A3 n co c3 o.2 zl _ HMN HZN (Lib.hid (HOS.out.sl.ext X8.out)) (Lib.hid HO8.out.sl) hn).mono ?_); rintro r w5 ⟨A5, c5, rfl, o5, x5⟩; have TB := Lib.hid (TB.out.ext x5); have RB := Lib.hid (RB.out.ext x5); have OB := Lib.hid (OB.out.ext x5); have y0 := OB.out.cell 0; have y1 := OB.out.cell 1; have y2 := OB.out.free 0; have y3 := OB.out.free 1; have y4 := OB.out.set2 (.int .u64 mn) (.slice A5 n c5); have y5 := y4.1; have y6 := y4.2; clear y4; have HO5 := Lib.hid o5; have X5 := Lib.hid x5; clear o5 x5))
            go_roundg (m - (k + 1))
            case measure => omega
            case rel =>
              have h8 := X8.out.size
              have h5 := X5.out.size
              have hw2 := HW2.out
              refine ⟨k + 1, some (mn, zn), (mn, zn), A5, c5, false, by omega, by omega, by go_num, rfl, Lib.hid ?_, Lib.hid ?_, Lib.hid ?_, Lib.hid ?_, Lib.hid ?_, Lib.hid ?_, .inr ⟨rfl, rfl, Lib.hid ?_, Lib.hid (HZN.out ▸ u32_min HOU.out HZU.out)⟩⟩
              · obtain ⟨h1, h2⟩ := HKV.out
                rw [fold_take h1, HF.out, h2]
                show (if same (e, l) (f, lx) = true then some (minT o (maxT (e, l) (f, lx))) else _) = _
                rw [if_pos HSM.out, HM.out, HM2.out]
              · exact (((HE.out.trans X8.out).trans X5.out).set (p := ⟨w.heap.size + 2, 0, none⟩) (by simp) _).set (p := ⟨w.heap.size + 2, 1, none⟩) (by simp) _
              · exact (TB.out.set_ne (p := ⟨w.heap.size + 2, 0, none⟩) (by simp) _).set_ne (p := ⟨w.heap.size + 2, 1, none⟩) (by simp) _
              · exact (RB.out.set_ne (p := ⟨w.heap.size + 2, 0, none⟩) (by simp) _).set_ne (p := ⟨w.heap.size + 2, 1, none⟩) (by simp) _
              · exact (OB.out.set 0 _).set 1 _
              · simp only [World.size_setCell]; omega
              · exact Own.mono ((HO5.out.far (HO5.out.ne (k := w.heap.size + 2) (by omega)) _).far (HO5.out.ne (k := w.heap.size + 2) (by omega)) _) (show w.heap.size + 3 ≤ w8.heap.size by omega)
        · go_wp2
          refine ordNext.mk ((Ext.refl _).alloc _) ?_
          obtain ⟨w2, hw2⟩ : ∃ w2, w2 = (wr.alloc (.cells #[.int .u64 0, .slice none 0 0] 26)).drew := ⟨_, rfl⟩
          have b2 : Bk w2 wr.heap.size 26 #[.int .u64 0, .slice none 0 0] := by subst hw2; exact (Bk.new _ _ _).drew
          have x2 : Ext wr.drew w2 := by subst hw2; exact (Ext.refl wr.drew).alloc _
          rw [← hw2]
          clear hw2
          have hb2 := b2.lt
          refine ord_ext (pick_cons rfl pick_nil) ?_; intro K_ hK_
          go_wp2_with (go_at_call 70; go_loud (refine (rjoin_ok e f A Ax n c cx l lx _ HMX HZL (Lib.hid (ht.out.ext (HE.out.trans (XE.trans x2)))) (SX ⟨_, (XE.trans x2)⟩) hn).mono ?_); rintro r w3 ⟨A3, c3, rfl, o3, x3⟩)
          refine ordNext.mk x3 ?_
          have bz := b2.ext x3
          have d0 := bz.cell 0
          have d1 := bz.cell 1
          have d2 := bz.free 0
          have d3 := bz.free 1
          have d4 := bz.set2 (.int .u64 mx) (.slice A3 n c3)
          have d5 := d4.1
          have d6 := d4.2
          clear d4
          (refine ord_flo (pick_cons rfl (pick_cons rfl pick_nil)) ?_; (repeat (go_big_quiet_step (fail))); refine wpQuiet_nil ?_; show ordWalk _ _ _ _ _ _ _)
          (refine ord_pur (pick_cons rfl pick_nil) ?_; (repeat (go_big_quiet_step (fail))); refine wpQuiet_nil ?_; show ordWalk _ _ _ _ _ _ _)
          refine ord_one (pick_cons rfl pick_nil) ?_; intro K_ hK_
          go_wp2
          (refine ord_flo (pick_cons rfl pick_nil) ?_; (repeat (go_big_quiet_step (fail))); refine wpQuiet_nil ?_; show ordWalk _ _ _ _ _ _ _)
          refine ord_fin ?_
          have hgw : wr.heap.size ≤ wr.heap.size := Nat.le_refl _
          obtain ⟨w8, hw8⟩ : ∃ w8, w8 = (w3.setCell ⟨wr.heap.size, 0, none⟩ (.int .u64 mx)).setCell ⟨wr.heap.size, 1, none⟩ (.slice A3 n c3) := ⟨_, rfl⟩
          have t8 : Bk w8 wr.heap.size 26 #[.int .u64 mx, .slice A3 n c3] := by subst hw8; exact (bz.set 0 _).set 1 _
          have x8 : Ext wr w8 := by subst hw8; exact (((XE.trans x2).trans x3).set hgw _).set hgw _
          have o8 : Own w8 wr.heap.size 74 1 A3 n c3 (wds zl) := by subst hw8; exact ((o3.far (o3.ne hb2) _).far (o3.ne hb2) _).mono (Nat.le_trans XE.size x2.size)
          rw [← hw8]
          clear hw8 bz d0 d1 d2 d3 d5 d6 o3 x3 b2
          have tb8 := tb.out.ext x8
          have rb8 := rb.out.ext x8
          have ob8 := ob.out.ext x8
          have z0 := t8.cell 0
          have z1 := t8.cell 1
          have y0 := ob8.cell 0
          have y1 := ob8.cell 1
          have y2 := ob8.free 0
          have y3 := ob8.free 1
          have HT8 := Lib.hid t8
          have X8 := Lib.hid x8
          have HO8 := Lib.hid o8
          have TB := Lib.hid tb8
          have RB := Lib.hid rb8
          have OB := Lib.hid ob8
          clear t8 x8 o8 tb8 rb8 ob8
          rcases hacc with ⟨rfl, rfl, HOT⟩ | ⟨rfl, rfl, HOS, HOU⟩
          · have y4 := OB.out.set2 (.int .u64 mx) (.slice A3 n c3)
            have y5 := y4.1
            have y6 := y4.2
            clear y4
            go_wp2
            go_roundg (m - (k + 1))
            case measure => omega
            case rel =>
              have h8 := X8.out.size
              have hw2 := HW2.out
              refine ⟨k + 1, some (mx, zl), (mx, zl), A3, c3, false, by omega, by omega, by go_num, rfl, Lib.hid ?_, Lib.hid ?_, Lib.hid ?_, Lib.hid ?_, Lib.hid ?_, Lib.hid ?_, .inr ⟨rfl, rfl, Lib.hid ?_, Lib.hid HZU.out⟩⟩
              · obtain ⟨h1, h2⟩ := HKV.out
                rw [fold_take h1, HF.out, h2]
                show (if same (e, l) (f, lx) = true then some (maxT (e, l) (f, lx)) else none) = _
                rw [if_pos HSM.out, HM.out]
              · exact ((HE.out.trans X8.out).set (p := ⟨w.heap.size + 2, 0, none⟩) (by simp) _).set (p := ⟨w.heap.size + 2, 1, none⟩) (by simp) _
              · exact (TB.out.set_ne (p := ⟨w.heap.size + 2, 0, none⟩) (by simp) _).set_ne (p := ⟨w.heap.size + 2, 1, none⟩) (by simp) _
              · exact (RB.out.set_ne (p := ⟨w.heap.size + 2, 0, none⟩) (by simp) _).set_ne (p := ⟨w.heap.size + 2, 1, none⟩) (by simp) _
              · exact (OB.out.set 0 _).set 1 _
              · simp only [World.size_setCell]; omega
              · exact Own.mono ((HO8.out.far (HO8.out.ne (k := w.heap.size + 2) (by omega)) _).far (HO8.out.ne (k := w.heap.size + 2) (by omega)) _) (show w.heap.size + 3 ≤ wr.heap.size by omega)
          · obtain ⟨mn, hmn⟩ : ∃ mn, min o.1 mx = mn := ⟨_, rfl⟩
            obtain ⟨zn, hzn⟩ : ∃ zn, List.zipWith min o.2 zl = zn := ⟨_, rfl⟩
            have HMN := Lib.hid hmn
            have HZN := Lib.hid hzn
            clear hmn hzn
            have HM2 : Hid (minT o (mx, zl) = (mn, zn)) := Lib.hid (by show (min o.1 mx, List.zipWith min o.2 zl) = _; rw [HMN.out, HZN.out])
            go_wp2_with (first
              | (go_at_call 72; go_loud (refine (rmeet_ok o.1 mx Ao A3 n co c3 o.2 zl _ HMN HZN (Lib.hid (HOS.out.sl.ext X8.out)) (Lib.hid HO8.out.sl) hn).mono ?_); rintro r w5 ⟨A5, c5, rfl, o5, x5⟩; have TB := Lib.hid (TB.out.ext x5); have RB := Lib.hid (RB.out.ext x5); have OB := Lib.hid (OB.out.ext x5); have y0 := OB.out.cell 0; have y1 := OB.out.cell 1; have y2 := OB.out.free 0; have y3 := OB.out.free 1; have y4 := OB.out.set2 (.int .u64 mn) (.slice A5 n c5); have y5 := y4.1; have y6 := y4.2; clear y4; have HO5 := Lib.hid o5; have X5 := Lib.hid x5; clear o5 x5))
            go_roundg (m - (k + 1))
            case measure => omega
            case rel =>
              have h8 := X8.out.size
              have h5 := X5.out.size
              have hw2 := HW2.out
              refine ⟨k + 1, some (mn, zn), (mn, zn), A5, c5, false, by omega, by omega, by go_num, rfl, Lib.hid ?_, Lib.hid ?_, Lib.hid ?_, Lib.hid ?_, Lib.hid ?_, Lib.hid ?_, .inr ⟨rfl, rfl, Lib.hid ?_, Lib.hid (HZN.out ▸ u32_min HOU.out HZU.out)⟩⟩
              · obtain ⟨h1, h2⟩ := HKV.out
                rw [fold_take h1, HF.out, h2]
                show (if same (e, l) (f, lx) = true then some (minT o (maxT (e, l) (f, lx))) else _) = _
                rw [if_pos HSM.out, HM.out, HM2.out]
              · exact (((HE.out.trans X8.out).trans X5.out).set (p := ⟨w.heap.size + 2, 0, none⟩) (by simp) _).set (p := ⟨w.heap.size + 2, 1, none⟩) (by simp) _
              · exact (TB.out.set_ne (p := ⟨w.heap.size + 2, 0, none⟩) (by simp) _).set_ne (p := ⟨w.heap.size + 2, 1, none⟩) (by simp) _
              · exact (RB.out.set_ne (p := ⟨w.heap.size + 2, 0, none⟩) (by simp) _).set_ne (p := ⟨w.heap.size + 2, 1, none⟩) (by simp) _
              · exact (OB.out.set 0 _).set 1 _
              · simp only [World.size_setCell]; omega
              · exact Own.mono ((HO5.out.far (HO5.out.ne (k := w.heap.size + 2) (by omega)) _).far (HO5.out.ne (k := w.heap.size + 2) (by omega)) _) (show w.heap.size + 3 ≤ w8.heap.size by omega)
      · have hne : ((n : Int) != (nx : Int)) = true := by simp; omega
        have HS := Lib.hid hs
        clear hs
        go_upto_region 6 with fail
        refine wp_region_ord [0,0,0,6,14,31,63,127,127,0,767,2047] (.flo [0,1,2,3,4] (.both 5 9 (.flo [6,7] (.pur [8] (.ext 9 (.one 10 (.flo [11] (.fin)))))) (.ext 5 (.flo [6,7] (.pur [8] (.one 10 (.flo [11] (.fin)))))))) (by kernel_rfl) (by kernel_rfl) (by intro _ _ d _ _ h; cases d <;> exact h) ?_
        (refine ord_flo (pick_cons rfl (pick_cons rfl (pick_cons rfl (pick_cons rfl (pick_cons rfl pick_nil))))) ?_; (repeat (go_big_quiet_step (fail))); refine wpQuiet_nil ?_; show ordWalk _ _ _ _ _ _ _)
        refine ord_both (pick_cons rfl pick_nil) (pick_cons rfl pick_nil) ?_ ?_ <;> intro K_ hK_
        · go_wp2_with (go_at_call 70; go_loud (refine (rjoin_diff e f A Ax n nx c cx _ hne).mono ?_); rintro r w3 ⟨rfl, x3⟩)
          refine ordNext.mk x3 ?_
          (refine ord_flo (pick_cons rfl (pick_cons rfl pick_nil)) ?_; (repeat (go_big_quiet_step (fail))); refine wpQuiet_nil ?_; show ordWalk _ _ _ _ _ _ _)
          (refine ord_pur (pick_cons rfl pick_nil) ?_; (repeat (go_big_quiet_step (fail))); refine wpQuiet_nil ?_; show ordWalk _ _ _ _ _ _ _)
          refine ord_ext (pick_cons rfl pick_nil) ?_; intro K_ hK_
          go_wp2
          refine ordNext.mk ((Ext.refl _).alloc _) ?_
          have bz : Bk (w3.alloc (.cells #[.int .u64 0, .slice none 0 0] 26)) w3.heap.size 26 #[.int .u64 0, .slice none 0 0] := Bk.new _ _ _
          have d0 := bz.cell 0
          have d1 := bz.cell 1
          have d2 := bz.free 0
          have d3 := bz.free 1
          refine ord_one (pick_cons rfl pick_nil) ?_; intro K_ hK_
          go_wp2
          (refine ord_flo (pick_cons rfl pick_nil) ?_; (repeat (go_big_quiet_step (fail))); refine wpQuiet_nil ?_; show ordWalk _ _ _ _ _ _ _)
          refine ord_fin ?_
          have X8 := Lib.hid ((XE.trans x3).alloc (.cells #[.int .u64 0, .slice none 0 0] 26))
          clear bz d0 d1 d2 d3 x3
          go_wp2
          go_roundg (m - (k + 1))
          case measure => omega
          case rel =>
            refine ⟨k + 1, acc, o, Ao, co, b, by omega, by omega, by go_num, rfl, Lib.hid ?_, Lib.hid (HE.out.trans X8.out), Lib.hid (tb.out.ext X8.out), Lib.hid (rb.out.ext X8.out), Lib.hid (ob.out.ext X8.out), Lib.hid (by have := X8.out.size; have := HW2.out; omega), ?_⟩
            · obtain ⟨h1, h2⟩ := HKV.out
              rw [fold_take h1, HF.out, h2]
              unfold advStep
              rw [if_neg (by have a := HNX.out; have b := HN.out; have cc := HS.out; show ¬ same (e, l) (f, lx) = true; unfold same; rw [decide_eq_true_iff]; show ¬ l.length = lx.length; omega)]
            · rcases hacc with ⟨h1, h2, h3⟩ | ⟨h1, h2, h3, h4⟩
              · exact .inl ⟨h1, h2, Lib.hid h3.out⟩
              · exact .inr ⟨h1, h2, Lib.hid (h3.out.ext X8.out), h4⟩
        · go_wp2
          refine ordNext.mk ((Ext.refl _).alloc _) ?_
          obtain ⟨w2, hw2⟩ : ∃ w2, w2 = (wr.alloc (.cells #[.int .u64 0, .slice none 0 0] 26)).drew := ⟨_, rfl⟩
          have b2 : Bk w2 wr.heap.size 26 #[.int .u64 0, .slice none 0 0] := by subst hw2; exact (Bk.new _ _ _).drew
          have x2 : Ext wr.drew w2 := by subst hw2; exact (Ext.refl wr.drew).alloc _
          rw [← hw2]
          clear hw2
          have hb2 := b2.lt
          refine ord_ext (pick_cons rfl pick_nil) ?_; intro K_ hK_
          go_wp2_with (go_at_call 70; go_loud (refine (rjoin_diff e f A Ax n nx c cx _ hne).mono ?_); rintro r w3 ⟨rfl, x3⟩)
          refine ordNext.mk x3 ?_
          have bz := b2.ext x3
          have d0 := bz.cell 0
          have d1 := bz.cell 1
          have d2 := bz.free 0
          have d3 := bz.free 1
          have d4 := bz.set2 (.int .u64 0) (.slice none 0 0)
          have d5 := d4.1
          have d6 := d4.2
          clear d4
          (refine ord_flo (pick_cons rfl (pick_cons rfl pick_nil)) ?_; (repeat (go_big_quiet_step (fail))); refine wpQuiet_nil ?_; show ordWalk _ _ _ _ _ _ _)
          (refine ord_pur (pick_cons rfl pick_nil) ?_; (repeat (go_big_quiet_step (fail))); refine wpQuiet_nil ?_; show ordWalk _ _ _ _ _ _ _)
          refine ord_one (pick_cons rfl pick_nil) ?_; intro K_ hK_
          go_wp2
          (refine ord_flo (pick_cons rfl pick_nil) ?_; (repeat (go_big_quiet_step (fail))); refine wpQuiet_nil ?_; show ordWalk _ _ _ _ _ _ _)
          refine ord_fin ?_
          have hgw : wr.heap.size ≤ wr.heap.size := Nat.le_refl _
          have X8 := Lib.hid ((((XE.trans x2).trans x3).set (p := ⟨wr.heap.size, 0, none⟩) hgw (.int .u64 0)).set (p := ⟨wr.heap.size, 1, none⟩) hgw (.slice none 0 0))
          clear bz d0 d1 d2 d3 d5 d6 x3 b2
          go_wp2
          go_roundg (m - (k + 1))
          case measure => omega
          case rel =>
            refine ⟨k + 1, acc, o, Ao, co, b, by omega, by omega, by go_num, rfl, Lib.hid ?_, Lib.hid (HE.out.trans X8.out), Lib.hid (tb.out.ext X8.out), Lib.hid (rb.out.ext X8.out), Lib.hid (ob.out.ext X8.out), Lib.hid (by have := X8.out.size; have := HW2.out; omega), ?_⟩
            · obtain ⟨h1, h2⟩ := HKV.out
              rw [fold_take h1, HF.out, h2]
              unfold advStep
              rw [if_neg (by have a := HNX.out; have b := HN.out; have cc := HS.out; show ¬ same (e, l) (f, lx) = true; unfold same; rw [decide_eq_true_iff]; show ¬ l.length = lx.length; omega)]
            · rcases hacc with ⟨h1, h2, h3⟩ | ⟨h1, h2, h3, h4⟩
              · exact .inl ⟨h1, h2, Lib.hid h3.out⟩
              · exact .inr ⟨h1, h2, Lib.hid (h3.out.ext X8.out), h4⟩
    · obtain rfl : m = k := by omega
      have HF2 : Hid (advV (L.map Tm.v) (e, l) = o) := Lib.hid (by
        have h1 := HF.out
        rw [show m = (L.map Tm.v).length by rw [List.length_map]; exact hm.out, List.take_length] at h1
        unfold advV advO
        rw [h1]
        rcases hacc with ⟨h2, _, h3⟩ | ⟨h2, _⟩
        · rw [h2, h3.out.1]; rfl
        · rw [h2]; rfl)
      have HXE : Hid (∀ u v, Ext w ((wr.setCell ⟨w.heap.size + 1, 0, none⟩ u).setCell ⟨w.heap.size + 1, 1, none⟩ v)) := Lib.hid (fun u v => (HE.out.set (p := ⟨w.heap.size + 1, 0, none⟩) (by simp) _).set (p := ⟨w.heap.size + 1, 1, none⟩) (by simp) _)
      have HOS : Hid (∀ u v, Sl ((wr.setCell ⟨w.heap.size + 1, 0, none⟩ u).setCell ⟨w.heap.size + 1, 1, none⟩ v) 1 Ao n co (wds o.2)) := Lib.hid (fun u v => by
        rcases hacc with ⟨_, _, h3⟩ | ⟨_, _, h3, _⟩
        · obtain ⟨a1, a2, a3⟩ := h3.out
          rw [a1, a2, a3]; exact ht.out.ext (HXE.out u v)
        · exact ((h3.out.far (h3.out.ne (k := w.heap.size + 1) (by omega)) _).far (h3.out.ne (k := w.heap.size + 1) (by omega)) _).sl)
      have z0 := ob.out.cell 0
      have z1 := ob.out.cell 1
      have z2 := rb.out.cell 0
      have z3 := rb.out.cell 1
      have z4 := rb.out.free 0
      have z5 := rb.out.free 1
      have bb := rb.out.set2 (.int .u64 o.1) (.slice Ao n co)
      have z6 := bb.1
      have z7 := bb.2
      clear hacc
      go_wp2
      refine bodyPost_ret (v := .agg #[.int .u64 o.1, .slice Ao n co]) (by simp [results, Tryz.results31, go_sem, bb.1, bb.2]) rfl ⟨Ao, co, by rw [HF2.out], ?_, ?_⟩
      · rw [HF2.out]; exact HOS.out _ _
      · exact HXE.out _ _
end Go.Proofs.YtmdakaflmheidaaGreatDoor
