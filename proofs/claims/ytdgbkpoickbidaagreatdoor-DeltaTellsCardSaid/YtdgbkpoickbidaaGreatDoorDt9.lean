/- penstocklaw10.much, far: are there more updates, times than are looked at? penstockref00.SameRow: what it answers. penstockref00.SameRow, SameCounteds, WholeRow, WholeCounteds: of what is the same they say so. penstockref00.SameTime, SameTimes: what they answer. penstockref00.SameUpdates: of what is the same it says so. penstocklaw10.update, known: what the chapter's first example fixes. penstockref00.WholeRow: what was lent is as it was. penstockref00.LentWords, WholeWords, SpoilWords, SameTime: what they answer. penstockref00.LentTime, WholeTime. Counters that were lent. penstockref00.LentUpdates, WholeUpdates: copies with marked room behind. penstockref00.WholeUpdates: what was lent is as it was. penstockref00.SpoilRow: it turns what it is handed, and nothing else. penstockref00.SpoilUpdates: it turns what it is handed, and nothing else. penstockref04.Join, Meet: what they answer. penstockref04.Join of times of one depth. penstockref05.Advance: the time that stands for another one. Conditions: each theorem states its own. -/
import Derived.Test.YtdgbkpoickbidaaGreatDoorDt5
import Derived.Test.YtdgbkpoickbidaaGreatDoorDt6
import Derived.Deep.LoopGhost
import Derived.Test.YtdgbkpoickbidaaGreatDoorDt4
import Derived.Test.YtdgbkpoickbidaaGreatDoorDt1
import Derived.Test.YtdgbkpoickbidaaGreatDoorDt2
import Derived.Test.YtdgbkpoickbidaaGreatDoorDt3
import Derived.Test.YtdgbkpoickbidaaGreatDoorDt7
namespace Go.Proofs.YtdgbkpoickbidaaGreatDoor
open Go.RowKit

def farN (V : List TV) : Nat := (V.map fun v => v.2.length / 4).sum
def farV (V : List TV) : Bool := decide (200 < V.length + farN V)
theorem farN_take {V : List TV} {k : Nat} (h : k < V.length) : farN (V.take (k + 1)) = farN (V.take k) + V[k].2.length / 4 := by
  unfold farN
  rw [List.take_succ_eq_append_getElem h, List.map_append, List.sum_append]
  simp
theorem farN_le (V : List TV) (k : Nat) : farN (V.take k) ≤ farN V := by
  have h : farN V = farN (V.take k) + farN (V.drop k) := by
    unfold farN
    rw [← List.sum_append, ← List.map_append, List.take_append_drop]
  omega
theorem farN_mem {V : List TV} {v : TV} (h : v ∈ V) : v.2.length / 4 ≤ farN V := by
  unfold farN
  induction V with
  | nil => cases h
  | cons x V ih =>
    rw [List.map_cons, List.sum_cons]
    rcases List.mem_cons.1 h with rfl | h
    · omega
    · have := ih h
      omega
theorem far_small {L : List Tm} (h : farV (L.map Tm.v) = false) : L.length ≤ 200 ∧ ∀ x ∈ L, x.l.length ≤ 803 := by
  unfold farV at h
  rw [decide_eq_false_iff_not, List.length_map] at h
  refine ⟨by omega, fun x hx => ?_⟩
  have := farN_mem (List.mem_map.2 ⟨x, hx, rfl⟩ : x.v ∈ L.map Tm.v)
  replace this : x.l.length / 4 ≤ _ := this
  omega
set_option maxRecDepth 100000 in
set_option maxHeartbeats 2000000 in
theorem far10_any (AL : Option Addr) (cL m : Nat) (L : List Tm) (w : World) (hm : Hid (m = L.length)) (hL : Hid (Tin w AL cL L)) :
    Calls Tryz.prog 14 #[.slice AL m cL] w fun e w' => e = .returned (.bool (farV (L.map Tm.v))) ∧ Ext w w' := by
  have hmax : m ≤ 9223372036854775807 := by rw [hm.out]; exact hL.out.sl.le
  obtain ⟨b, hb⟩ : ∃ b, farV (L.map Tm.v) = b := ⟨_, rfl⟩
  rw [hb]
  have HB := Lib.hid hb
  clear hb
  go_enter Tryz.func14, Tryz.ntmps14
  go_wp2
  go_loopg [3, 4] m (fun z v3 v4 wr => ∃ (k s : Nat), z = m - k ∧ k ≤ m ∧ v4 = .int .i64 k ∧ v3 = .int .i64 s ∧ Hid (s = m + farN ((L.map Tm.v).take k)) ∧ Hid (Ext w wr) ∧ s ≤ 9223372036854775807)
  case atStart => exact ⟨0, m, rfl, Nat.zero_le _, rfl, rfl, Lib.hid (by simp [farN]), Lib.hid (Ext.refl _), by omega⟩
  case round =>
    obtain ⟨k, s, rfl, hk, rfl, rfl, HS, HE, hs⟩ := hrel
    by_cases hlt : k < m
    · by_cases h200 : s ≤ 200
      · have hkL : k < L.length := by rw [← hm.out]; exact hlt
        obtain ⟨ad, rfl, q0, q1⟩ := (hL.out.ext HE.out).at (i := k) hkL
        have hlen := (hL.out.ls _ (getT_mem hkL)).cap
        have hkv := map_at hkL
        obtain ⟨x, hx⟩ : ∃ x, L.getD k Tm.zero = x := ⟨_, rfl⟩
        rw [hx] at q0 q1 hkv hlen
        have HKV := Lib.hid hkv
        clear hx hkv hkL
        obtain ⟨e, Ax, cx, l⟩ := x
        obtain ⟨nx, hnx⟩ : ∃ nx, l.length = nx := ⟨_, rfl⟩
        have HNX := Lib.hid hnx
        replace q1 : wr.cell? ⟨(ad.add (k * 2)).block, (ad.add (k * 2)).off + 1, none⟩ = some (.slice Ax l.length cx) := q1
        replace hlen : l.length ≤ cx ∧ cx ≤ 9223372036854775807 := hlen
        rw [hnx] at q1 hlen
        clear hnx q0
        go_wp2
        go_roundg (m - (k + 1))
        case measure => omega
        case rel =>
          obtain ⟨h1, h2⟩ := HKV.out
          have h3 := farN_take h1
          rw [h2] at h3
          replace h3 : _ = _ + l.length / 4 := h3
          have h4 := HNX.out
          have h5 := HS.out
          exact ⟨k + 1, s + nx / 4, by omega, by omega, by go_num, by go_num, Lib.hid (by rw [h3, h4]; omega), HE, by omega⟩
      · have hgt : ((s : Int) ≤ 200) = False := by simp; omega
        have HG := Lib.hid h200
        clear h200
        go_wp2
        go_ret
        have hle := farN_le (L.map Tm.v) k
        refine ⟨ret_bool ?_, HE.out⟩
        rw [← HB.out]
        unfold farV
        have a := HG.out
        have c := HS.out
        have d := hm.out
        rw [eq_comm, decide_eq_decide, List.length_map]
        constructor <;> intro <;> omega
    · obtain rfl : k = m := by omega
      have HF : Hid (s = k + farN (L.map Tm.v)) := Lib.hid (by have := HS.out; rwa [show (L.map Tm.v).take k = L.map Tm.v from List.take_of_length_le (by rw [List.length_map, hm.out]; exact Nat.le_refl _)] at this)
      go_wp2
      go_ret
      refine ⟨ret_bool ?_, HE.out⟩
      rw [← HB.out]
      unfold farV
      have c := HF.out
      have d := hm.out
      rw [eq_comm, decide_eq_decide, List.length_map]
      constructor <;> intro <;> omega
theorem far10_at {v : Bool} (AL : Option Addr) (cL m : Nat) (L : List Tm) (w : World) (hv : Hid (farV (L.map Tm.v) = v)) (hm : Hid (m = L.length)) (hL : Hid (Tin w AL cL L)) :
    Calls Tryz.prog 14 #[.slice AL m cL] w fun e w' => e = .returned (.bool v) ∧ Ext w w' := hv.out ▸ far10_any AL cL m L w hm hL
def costU (v : UV) : Nat := v.1.1.length / 16 + v.1.2.2.length / 4
def costs (V : List UV) : Nat := (V.map costU).sum
def muchU (V : List UV) : Bool := decide (200 < V.length + costs V)
theorem costs_take {L : List Ud} {k : Nat} (h : k < L.length) : costs ((L.take (k + 1)).map Ud.uv) = costs ((L.take k).map Ud.uv) + costU (L.getD k Ud.zero).uv := by
  unfold costs
  rw [takeU h, List.map_append, List.map_append, List.sum_append]
  simp
theorem costs_le (L : List Ud) (k : Nat) : costs ((L.take k).map Ud.uv) ≤ costs (L.map Ud.uv) := by
  have h : costs (L.map Ud.uv) = costs ((L.take k).map Ud.uv) + costs ((L.drop k).map Ud.uv) := by
    unfold costs
    rw [← List.sum_append, ← List.map_append, ← List.map_append, List.take_append_drop]
  omega
theorem costs_mem {V : List UV} {v : UV} (h : v ∈ V) : costU v ≤ costs V := by
  unfold costs
  induction V with
  | nil => cases h
  | cons x V ih =>
    rw [List.map_cons, List.sum_cons]
    rcases List.mem_cons.1 h with rfl | h
    · omega
    · have := ih h
      omega
theorem muchU_small {L : List Ud} (h : muchU (L.map Ud.uv) = false) : L.length ≤ 200 ∧ ∀ x ∈ L, x.l.length ≤ 3215 ∧ x.t.l.length ≤ 803 := by
  unfold muchU at h
  rw [decide_eq_false_iff_not, List.length_map] at h
  refine ⟨by omega, fun x hx => ?_⟩
  have := costs_mem (List.mem_map.2 ⟨x, hx, rfl⟩ : x.uv ∈ L.map Ud.uv)
  replace this : x.l.length / 16 + x.t.l.length / 4 ≤ _ := this
  omega
set_option maxRecDepth 100000 in
set_option maxHeartbeats 2000000 in
theorem much10_any (AL : Option Addr) (cL m : Nat) (L : List Ud) (w : World) (hm : Hid (m = L.length)) (hL : Hid (Uin w AL cL L)) :
    Calls Tryz.prog 13 #[.slice AL m cL] w fun e w' => e = .returned (.bool (muchU (L.map Ud.uv))) ∧ Ext w w' := by
  have hmax : m ≤ 9223372036854775807 := by rw [hm.out]; exact hL.out.sl.le
  obtain ⟨b, hb⟩ : ∃ b, muchU (L.map Ud.uv) = b := ⟨_, rfl⟩
  rw [hb]
  have HB := Lib.hid hb
  clear hb
  go_enter Tryz.func13, Tryz.ntmps13
  go_wp2
  go_loopg [3, 4] m (fun z v3 v4 wr => ∃ (k s : Nat), z = m - k ∧ k ≤ m ∧ v4 = .int .i64 k ∧ v3 = .int .i64 s ∧ Hid (s = m + costs ((L.take k).map Ud.uv)) ∧ Hid (Ext w wr) ∧ s ≤ 9223372036854775807)
  case atStart => exact ⟨0, m, rfl, Nat.zero_le _, rfl, rfl, Lib.hid (by simp [costs]), Lib.hid (Ext.refl _), by omega⟩
  case round =>
    obtain ⟨k, s, rfl, hk, rfl, rfl, HS, HE, hs⟩ := hrel
    by_cases hlt : k < m
    · by_cases h60 : s ≤ 200
      · have hkL : k < L.length := by rw [← hm.out]; exact hlt
        obtain ⟨ad, rfl, q0, _, q2, _⟩ := (hL.out.ext HE.out).at (i := k) hkL
        have hlen := (hL.out.ls _ (getU_mem hkL)).r.cap
        have hlet := (hL.out.ls _ (getU_mem hkL)).t.cap
        have hkv := costs_take hkL
        obtain ⟨x, hx⟩ : ∃ x, L.getD k Ud.zero = x := ⟨_, rfl⟩
        rw [hx] at q0 q2 hkv hlen hlet
        have HKV := Lib.hid hkv
        clear hx hkv hkL
        obtain ⟨nx, hnx⟩ : ∃ nx, x.l.length = nx := ⟨_, rfl⟩
        obtain ⟨tx, htx⟩ : ∃ tx, x.t.l.length = tx := ⟨_, rfl⟩
        have HNX := Lib.hid hnx
        have HTX := Lib.hid htx
        rw [hnx] at q0 hlen
        rw [htx] at q2 hlet
        clear hnx htx
        have X : Ext wr wr.drew := (Ext.refl wr).drew
        have Q0 : ∀ z : Xt wr.drew, z.W.cell? (ad.add (k * 4)) = some (.slice x.A nx x.c) := fun z => (X.trans z.x).cell q0
        have Q2 : ∀ z : Xt wr.drew, z.W.cell? ⟨(ad.add (k * 4)).block, (ad.add (k * 4)).off + 2, none⟩ = some (.slice x.t.A tx x.t.c) := fun z => (X.trans z.x).cell q2
        go_upto_region 5 with fail
        clear q0 q2
        refine wp_region_ord [0,0,0,6,14,30,62,126,0,0,768,1792,3840,7936,16128,32512,65534,131071,262143] (.flo [0,1,2,3,4,5,6,7,8,9,10,11,12,13,14,15,16,17,18] (.fin)) (by kernel_rfl) (by kernel_rfl) (by intro _ _ d _ _ h; cases d <;> exact h) ?_
        (refine ord_flo (pick_cons rfl (pick_cons rfl (pick_cons rfl (pick_cons rfl (pick_cons rfl (pick_cons rfl (pick_cons rfl (pick_cons rfl (pick_cons rfl (pick_cons rfl (pick_cons rfl (pick_cons rfl (pick_cons rfl (pick_cons rfl (pick_cons rfl (pick_cons rfl (pick_cons rfl (pick_cons rfl (pick_cons rfl pick_nil))))))))))))))))))) ?_; (repeat (go_big_quiet_step (fail))); refine wpQuiet_nil ?_; show ordWalk _ _ _ _ _ _ _)
        refine ord_fin ?_
        go_wp2
        go_roundg (m - (k + 1))
        case measure => omega
        case rel =>
          have h3 := HKV.out
          replace h3 : _ = _ + (x.l.length / 16 + x.t.l.length / 4) := h3
          have h4 := HNX.out
          have h6 := HTX.out
          have h5 := HS.out
          exact ⟨k + 1, s + (nx / 16 + tx / 4), by omega, by omega, by go_num, by go_num, Lib.hid (by rw [h3, h4, h6]; omega), Lib.hid (HE.out.trans X), by omega⟩
      · have hgt : ((s : Int) ≤ 200) = False := by simp; omega
        have HG := Lib.hid h60
        clear h60
        go_wp2
        go_ret
        have hle := costs_le L k
        refine ⟨ret_bool ?_, HE.out⟩
        rw [← HB.out]
        unfold muchU
        have a := HG.out
        have c := HS.out
        have d := hm.out
        rw [eq_comm, decide_eq_decide, List.length_map]
        constructor <;> intro <;> omega
    · obtain rfl : k = m := by omega
      have HF : Hid (s = k + costs (L.map Ud.uv)) := Lib.hid (by have := HS.out; rwa [show L.take k = L from List.take_of_length_le (by rw [hm.out]; exact Nat.le_refl _)] at this)
      go_wp2
      go_ret
      refine ⟨ret_bool ?_, HE.out⟩
      rw [← HB.out]
      unfold muchU
      have c := HF.out
      have d := hm.out
      rw [eq_comm, decide_eq_decide, List.length_map]
      constructor <;> intro <;> omega
theorem much10_at {v : Bool} (AL : Option Addr) (cL m : Nat) (L : List Ud) (w : World) (hv : Hid (muchU (L.map Ud.uv) = v)) (hm : Hid (m = L.length)) (hL : Hid (Uin w AL cL L)) :
    Calls Tryz.prog 13 #[.slice AL m cL] w fun e w' => e = .returned (.bool v) ∧ Ext w w' := hv.out ▸ much10_any AL cL m L w hm hL
end Go.Proofs.YtdgbkpoickbidaaGreatDoor
namespace Go.Proofs.YtdgbkpoickbidaaGreatDoor
open Go.RowKit

set_option maxRecDepth 100000 in
set_option maxHeartbeats 1000000 in
theorem sameRow_any (A1 A2 : Option Addr) (c1 c2 n m : Nat) (l : List Dat) (w : World) (hn : n = l.length) (hm : m = n) (h1 : Rw w A1 c1 l) (h2 : Rw w A2 c2 l) :
    Calls Tryz.prog 117 #[.slice A1 n c1, .slice A2 m c2] w fun e w' => e = .returned (.bool true) ∧ Ext w w' := by
  subst hm
  have hnm := h1.le
  rw [← hn] at hnm
  have HN := Lib.hid hn
  have H1 := Lib.hid h1
  have H2 := Lib.hid h2
  clear hn h1 h2
  go_enter Tryz.func117, Tryz.ntmps117
  go_wp2
  go_loopw [5] (fun v wr => ∃ i : Nat, i ≤ m ∧ v = .int .i64 i ∧ Ext w wr) (fun v _ => m - (intOf v).toNat)
  case atStart => exact ⟨0, Nat.zero_le _, rfl, Ext.refl _⟩
  case round =>
    obtain ⟨i, hi, rfl, er⟩ := hrel
    by_cases hlt : i < m
    · have hil : i < l.length := by rw [← HN.out]; exact hlt
      obtain ⟨ad, rfl, p0, p1, p2, p3⟩ := (H1.out.ext er).at hil
      obtain ⟨bd, rfl, q0, q1, q2, q3⟩ := (H2.out.ext er).at hil
      obtain ⟨d, hd⟩ : ∃ d, l.getD i Dat.zero = d := ⟨_, rfl⟩
      rw [hd] at p0 p1 p2 p3 q0 q1 q2 q3
      have XE : Ext wr wr.drew := (Ext.refl wr).drew
      have P0 : ∀ z : Xt wr.drew, z.W.cell? (ad.add (i * 4)) = some (.int .u8 d.k) := fun z => (XE.trans z.x).cell p0
      have P1 : ∀ z : Xt wr.drew, z.W.cell? ⟨(ad.add (i * 4)).block, (ad.add (i * 4)).off + 1, none⟩ = some (.bool d.b) := fun z => (XE.trans z.x).cell p1
      have P2 : ∀ z : Xt wr.drew, z.W.cell? ⟨(ad.add (i * 4)).block, (ad.add (i * 4)).off + 2, none⟩ = some (.int .i64 d.n) := fun z => (XE.trans z.x).cell p2
      have P3 : ∀ z : Xt wr.drew, z.W.cell? ⟨(ad.add (i * 4)).block, (ad.add (i * 4)).off + 3, none⟩ = some (.string d.s) := fun z => (XE.trans z.x).cell p3
      have Q0 : ∀ z : Xt wr.drew, z.W.cell? (bd.add (i * 4)) = some (.int .u8 d.k) := fun z => (XE.trans z.x).cell q0
      have Q1 : ∀ z : Xt wr.drew, z.W.cell? ⟨(bd.add (i * 4)).block, (bd.add (i * 4)).off + 1, none⟩ = some (.bool d.b) := fun z => (XE.trans z.x).cell q1
      have Q2 : ∀ z : Xt wr.drew, z.W.cell? ⟨(bd.add (i * 4)).block, (bd.add (i * 4)).off + 2, none⟩ = some (.int .i64 d.n) := fun z => (XE.trans z.x).cell q2
      have Q3 : ∀ z : Xt wr.drew, z.W.cell? ⟨(bd.add (i * 4)).block, (bd.add (i * 4)).off + 3, none⟩ = some (.string d.s) := fun z => (XE.trans z.x).cell q3
      clear hil hd
      go_upto_region 6 with fail
      refine wp_region_ord [0,0,3,7,0,0,48,112,255] (.flo [0,1,2,3,4,5,6,7,8] (.fin)) (by kernel_rfl) (by kernel_rfl) (by intro _ _ d _ _ h; cases d <;> exact h) ?_
      (refine ord_flo (pick_cons rfl (pick_cons rfl (pick_cons rfl (pick_cons rfl (pick_cons rfl (pick_cons rfl (pick_cons rfl (pick_cons rfl (pick_cons rfl pick_nil))))))))) ?_; (repeat (go_big_quiet_step (fail))); refine wpQuiet_nil ?_; show ordWalk _ _ _ _ _ _ _)
      refine ord_fin ?_
      go_wp2
      go_roundw
      case rel => exact ⟨i + 1, by omega, by go_num, er.trans XE⟩
      case measure => simp [intOf]; omega
    · go_wp2
      go_ret
      exact ⟨rfl, er⟩
theorem sameRow_lit (A1 A2 : Option Addr) (c1 c2 n m : Nat) (l : List Dat) (w : World) (hn : Hid (n = l.length)) (hm : Hid (m = n)) (h1 : Hid (Rw w A1 c1 l)) (h2 : Hid (Rw w A2 c2 l)) :
    Calls Tryz.prog 117 #[.slice A1 n c1, .slice A2 m c2] w fun e w' => e = .returned (.bool true) ∧ Ext w w' := sameRow_any A1 A2 c1 c2 n m l w hn.out hm.out h1.out h2.out
end Go.Proofs.YtdgbkpoickbidaaGreatDoor
namespace Go.Proofs.YtdgbkpoickbidaaGreatDoor
open Go.RowKit

theorem val_at {L M : List Ct} (h : L.map valC = M.map valC) {i : Nat} (hi : i < L.length) : (M.getD i Ct.zero).l = (L.getD i Ct.zero).l ∧ (M.getD i Ct.zero).k = (L.getD i Ct.zero).k := by
  have hl := congrArg List.length h
  rw [List.length_map, List.length_map] at hl
  have e := congrArg (fun l : List V => l[i]?) h
  simp only [List.getElem?_map] at e
  rw [List.getElem?_eq_getElem hi, List.getElem?_eq_getElem (by omega)] at e
  simp only [Option.map_some, Option.some.injEq] at e
  rw [List.getD_eq_getElem?_getD, List.getD_eq_getElem?_getD, List.getElem?_eq_getElem hi, List.getElem?_eq_getElem (by omega)]
  exact ⟨(congrArg Prod.fst e).symm, (congrArg Prod.snd e).symm⟩
set_option maxRecDepth 100000 in
set_option maxHeartbeats 2000000 in
theorem sameCts_any (A1 A2 : Option Addr) (c1 c2 n m : Nat) (L M : List Ct) (w : World) (hn : n = L.length) (hm : m = M.length) (h1 : Ctin w A1 c1 L) (h2 : Ctin w A2 c2 M) (he : L.map valC = M.map valC) :
    Calls Tryz.prog 25 #[.slice A1 n c1, .slice A2 m c2] w fun e w' => e = .returned (.bool true) ∧ Ext w w' := by
  have hl := congrArg List.length he
  rw [List.length_map, List.length_map] at hl
  obtain rfl : m = n := by omega
  have hnm := h1.sl.le
  rw [← hn] at hnm
  have HN := Lib.hid hn
  have H1 := Lib.hid h1
  have H2 := Lib.hid h2
  have HE := Lib.hid he
  have HM := Lib.hid hm
  clear hn h1 h2 he hm hl
  go_enter Tryz.func25, Tryz.ntmps25
  go_wp2
  go_loopw [5] (fun v wr => ∃ i : Nat, i ≤ m ∧ v = .int .i64 i ∧ Ext w wr) (fun v _ => m - (intOf v).toNat)
  case atStart => exact ⟨0, Nat.zero_le _, rfl, Ext.refl _⟩
  case round =>
    obtain ⟨i, hi, rfl, er⟩ := hrel
    by_cases hlt : i < m
    · have hil : i < L.length := by rw [← HN.out]; exact hlt
      have him : i < M.length := by rw [← HM.out]; exact hlt
      obtain ⟨ad, rfl, p0, p1⟩ := (H1.out.ext er).at hil
      obtain ⟨bd, rfl, q0, q1⟩ := (H2.out.ext er).at him
      have hr1 := H1.out.rows _ (getD_mem hil)
      have hr2 := H2.out.rows _ (getD_mem him)
      obtain ⟨e1, e2⟩ := val_at HE.out hil
      rw [e1] at q0 hr2
      rw [e2] at q1
      obtain ⟨x, hx⟩ : ∃ x, L.getD i Ct.zero = x := ⟨_, rfl⟩
      obtain ⟨y, hy⟩ : ∃ y, M.getD i Ct.zero = y := ⟨_, rfl⟩
      rw [hx] at p0 p1 hr1 q0 q1 hr2
      rw [hy] at q0 hr2
      obtain ⟨nx, hnx⟩ : ∃ nx, nx = x.l.length := ⟨_, rfl⟩
      rw [← hnx] at p0 q0
      have HNX := Lib.hid hnx
      have HEQ : Hid (nx = nx) := Lib.hid rfl
      have XE : Ext wr wr.drew := (Ext.refl wr).drew
      have HR1 := Lib.hid ((hr1.ext er).ext XE)
      have HR2 := Lib.hid ((hr2.ext er).ext XE)
      have P0 : ∀ z : Xt wr.drew, z.W.cell? (ad.add (i * 2)) = some (.slice x.A nx x.c) := fun z => (XE.trans z.x).cell p0
      have P1 : ∀ z : Xt wr.drew, z.W.cell? ⟨(ad.add (i * 2)).block, (ad.add (i * 2)).off + 1, none⟩ = some (.int .i64 x.k) := fun z => (XE.trans z.x).cell p1
      have Q0 : ∀ z : Xt wr.drew, z.W.cell? (bd.add (i * 2)) = some (.slice y.A nx y.c) := fun z => (XE.trans z.x).cell q0
      have Q1 : ∀ z : Xt wr.drew, z.W.cell? ⟨(bd.add (i * 2)).block, (bd.add (i * 2)).off + 1, none⟩ = some (.int .i64 x.k) := fun z => (XE.trans z.x).cell q1
      clear hil him hr1 hr2 e1 e2 hx hy hnx
      go_upto_region 6 with fail
      refine wp_region_ord [0,0,3,7,15,0,0,96,224,480,1023,2047,4095,4095,16383,32767,65535,4095,4095,397311,921599,1970175,4194303,8388607,16777215] (.flo [0,1,2,3,4,5,6,7,8,9,10,11,12,13,14,15,16,17,18,19,20,21] (.one 22 (.flo [23,24] (.fin)))) (by kernel_rfl) (by kernel_rfl) (by intro _ _ d _ _ h; cases d <;> exact h) ?_
      (refine ord_flo (pick_cons rfl (pick_cons rfl (pick_cons rfl (pick_cons rfl (pick_cons rfl (pick_cons rfl (pick_cons rfl (pick_cons rfl (pick_cons rfl (pick_cons rfl (pick_cons rfl (pick_cons rfl (pick_cons rfl (pick_cons rfl (pick_cons rfl (pick_cons rfl (pick_cons rfl (pick_cons rfl (pick_cons rfl (pick_cons rfl (pick_cons rfl (pick_cons rfl pick_nil)))))))))))))))))))))) ?_; (repeat (go_big_quiet_step (fail))); refine wpQuiet_nil ?_; show ordWalk _ _ _ _ _ _ _)
      refine ord_one (pick_cons rfl pick_nil) ?_; intro K_ hK_
      go_wp2_with (go_at_call 117; refine (sameRow_lit x.A y.A x.c y.c nx nx x.l _ HNX HEQ HR1 HR2).mono ?_; rintro e w1 ⟨rfl, x1⟩)
      (refine ord_flo (pick_cons rfl (pick_cons rfl pick_nil)) ?_; (repeat (go_big_quiet_step (fail))); refine wpQuiet_nil ?_; show ordWalk _ _ _ _ _ _ _)
      refine ord_fin ?_
      go_wp2
      go_roundw
      case rel => exact ⟨i + 1, by omega, by go_num, er.trans (XE.trans x1)⟩
      case measure => simp [intOf]; omega
    · go_wp2
      go_ret
      exact ⟨rfl, er⟩
end Go.Proofs.YtdgbkpoickbidaaGreatDoor
namespace Go.Proofs.YtdgbkpoickbidaaGreatDoor
open Go.RowKit

theorem sameTime_any (e1 e2 : Int) (A1 A2 : Option Addr) (n1 n2 c1 c2 : Nat) (l1 l2 : List Int) (w : World) (h1 : Sl w 1 A1 n1 c1 (wds l1)) (h2 : Sl w 1 A2 n2 c2 (wds l2)) :
    Calls Tryz.prog 54 #[.agg #[.int .u64 e1, .slice A1 n1 c1], .agg #[.int .u64 e2, .slice A2 n2 c2]] w fun e w' => e = .returned (.bool (decide (e1 = e2 ∧ l1 = l2))) ∧ Ext w w' := by
  by_cases k1 : e1 = e2
  · have q1 : (e1 == e2) = true := by simpa using k1
    go_enter Tryz.func54, Tryz.ntmps54
    go_wp2_with (go_at_call 166; refine (sameWords_any A1 A2 n1 n2 c1 c2 l1 l2 _ (h1.ext (((Ext.refl w).alloc _).alloc _)) (h2.ext (((Ext.refl w).alloc _).alloc _))).mono ?_; rintro r w1 ⟨rfl, x1⟩)
    refine bodyPost_ret (v := .bool (decide (l1 = l2))) (by simp only [results, Tryz.results54]; go_simp) rfl ?_
    exact ⟨by simp [k1], (((Ext.refl w).alloc _).alloc _).trans x1⟩
  · have q1 : (e1 == e2) = false := by simpa using k1
    go_enter Tryz.func54, Tryz.ntmps54
    go_wp2
    refine bodyPost_ret (v := .bool false) (by simp only [results, Tryz.results54]; go_simp) rfl ?_
    exact ⟨by simp [k1], (((Ext.refl w).alloc _).alloc _)⟩
end Go.Proofs.YtdgbkpoickbidaaGreatDoor
namespace Go.Proofs.YtdgbkpoickbidaaGreatDoor
open Go.RowKit

theorem uval_at {L M : List Ud} (h : L.map Ud.uv = M.map Ud.uv) {i : Nat} (hi : i < L.length) : (M.getD i Ud.zero).l = (L.getD i Ud.zero).l ∧ (M.getD i Ud.zero).t.e = (L.getD i Ud.zero).t.e ∧ (M.getD i Ud.zero).t.l = (L.getD i Ud.zero).t.l ∧ (M.getD i Ud.zero).d = (L.getD i Ud.zero).d := by
  have hl := congrArg List.length h
  rw [List.length_map, List.length_map] at hl
  have e := congrArg (fun l : List UV => l[i]?) h
  simp only [List.getElem?_map] at e
  rw [List.getElem?_eq_getElem hi, List.getElem?_eq_getElem (by omega)] at e
  simp only [Option.map_some, Option.some.injEq] at e
  rw [List.getD_eq_getElem?_getD, List.getD_eq_getElem?_getD, List.getElem?_eq_getElem hi, List.getElem?_eq_getElem (by omega)]
  exact ⟨(congrArg (fun q : UV => q.1.1) e).symm, (congrArg (fun q : UV => q.1.2.1) e).symm, (congrArg (fun q : UV => q.1.2.2) e).symm, (congrArg Prod.snd e).symm⟩
theorem usameTime_at {b : Bool} (e1 e2 : Int) (A1 A2 : Option Addr) (n1 n2 c1 c2 : Nat) (l1 l2 : List Int) (w : World) (hb : Hid (decide (e1 = e2 ∧ l1 = l2) = b)) (h1 : Hid (Sl w 1 A1 n1 c1 (wds l1))) (h2 : Hid (Sl w 1 A2 n2 c2 (wds l2))) :
    Calls Tryz.prog 54 #[.agg #[.int .u64 e1, .slice A1 n1 c1], .agg #[.int .u64 e2, .slice A2 n2 c2]] w fun e w' => e = .returned (.bool b) ∧ Ext w w' := hb.out ▸ sameTime_any e1 e2 A1 A2 n1 n2 c1 c2 l1 l2 w h1.out h2.out
set_option maxRecDepth 100000 in
set_option maxHeartbeats 4000000 in
theorem sameUps_any (A1 A2 : Option Addr) (c1 c2 n m : Nat) (L M : List Ud) (w : World) (hn : Hid (n = L.length)) (hm : Hid (m = M.length)) (h1 : Hid (Uin w A1 c1 L)) (h2 : Hid (Uin w A2 c2 M)) (he : Hid (L.map Ud.uv = M.map Ud.uv)) :
    Calls Tryz.prog 23 #[.slice A1 n c1, .slice A2 m c2] w fun e w' => e = .returned (.bool true) ∧ Ext w w' := by
  have hl := congrArg List.length he.out
  rw [List.length_map, List.length_map] at hl
  obtain rfl : m = n := by rw [hn.out, hm.out, hl]
  have hnm : m ≤ 9223372036854775807 := by rw [hn.out]; exact h1.out.sl.le
  clear hl
  go_enter Tryz.func23, Tryz.ntmps23
  go_wp2
  go_loopw [5] (fun v wr => ∃ i : Nat, i ≤ m ∧ v = .int .i64 i ∧ Ext w wr) (fun v _ => m - (intOf v).toNat)
  case atStart => exact ⟨0, Nat.zero_le _, rfl, Ext.refl _⟩
  case round =>
    obtain ⟨i, hi, rfl, er⟩ := hrel
    by_cases hlt : i < m
    · have hil : i < L.length := by rw [← hn.out]; exact hlt
      have him : i < M.length := by rw [← hm.out]; exact hlt
      obtain ⟨ad, rfl, p0, p1, p2, p3⟩ := (h1.out.ext er).at hil
      obtain ⟨bd, rfl, q0, q1, q2, q3⟩ := (h2.out.ext er).at him
      have hr1 := h1.out.ls _ (getU_mem hil)
      have hr2 := h2.out.ls _ (getU_mem him)
      obtain ⟨e1, e2, e3, e4⟩ := uval_at he.out hil
      obtain ⟨x, hx⟩ : ∃ x, L.getD i Ud.zero = x := ⟨_, rfl⟩
      obtain ⟨y, hy⟩ : ∃ y, M.getD i Ud.zero = y := ⟨_, rfl⟩
      rw [hx] at p0 p1 p2 p3 hr1 e1 e2 e3 e4
      rw [hy] at q0 q1 q2 q3 hr2 e1 e2 e3 e4
      obtain ⟨xA, xc, xl, ⟨xe, xtA, xtc, xtl⟩, xd⟩ := x
      obtain ⟨yA, yc, yl, ⟨ye, ytA, ytc, ytl⟩, yd⟩ := y
      dsimp only at p0 p1 p2 p3 q0 q1 q2 q3 hr1 hr2 e1 e2 e3 e4
      subst e1 e2 e3 e4
      obtain ⟨nx, hnx⟩ : ∃ nx, nx = yl.length := ⟨_, rfl⟩
      obtain ⟨tx, htx⟩ : ∃ tx, tx = ytl.length := ⟨_, rfl⟩
      rw [← hnx] at p0 q0
      rw [← htx] at p2 q2
      have HNX := Lib.hid hnx
      have HEQ : Hid (nx = nx) := Lib.hid rfl
      have HR1 : Hid (∀ W, Ext wr W → Rw W xA xc yl) := Lib.hid (fun W q => (hr1.r.ext er).ext q)
      have HR2 : Hid (∀ W, Ext wr W → Rw W yA yc yl) := Lib.hid (fun W q => (hr2.r.ext er).ext q)
      have HT1 : Hid (∀ W, Ext wr W → Sl W 1 xtA tx xtc (wds ytl)) := Lib.hid (fun W q => by rw [htx]; exact (hr1.t.ext er).ext q)
      have HT2 : Hid (∀ W, Ext wr W → Sl W 1 ytA tx ytc (wds ytl)) := Lib.hid (fun W q => by rw [htx]; exact (hr2.t.ext er).ext q)
      have X : Ext wr wr.drew := (Ext.refl wr).drew
      have P0 : ∀ z : Xt wr.drew, z.W.cell? (ad.add (i * 4)) = some (.slice xA nx xc) := fun z => (X.trans z.x).cell p0
      have P1 : ∀ z : Xt wr.drew, z.W.cell? ⟨(ad.add (i * 4)).block, (ad.add (i * 4)).off + 1, none⟩ = some (.int .u64 ye) := fun z => (X.trans z.x).cell p1
      have P2 : ∀ z : Xt wr.drew, z.W.cell? ⟨(ad.add (i * 4)).block, (ad.add (i * 4)).off + 2, none⟩ = some (.slice xtA tx xtc) := fun z => (X.trans z.x).cell p2
      have P3 : ∀ z : Xt wr.drew, z.W.cell? ⟨(ad.add (i * 4)).block, (ad.add (i * 4)).off + 3, none⟩ = some (.int .i64 yd) := fun z => (X.trans z.x).cell p3
      have Q0 : ∀ z : Xt wr.drew, z.W.cell? (bd.add (i * 4)) = some (.slice yA nx yc) := fun z => (X.trans z.x).cell q0
      have Q1 : ∀ z : Xt wr.drew, z.W.cell? ⟨(bd.add (i * 4)).block, (bd.add (i * 4)).off + 1, none⟩ = some (.int .u64 ye) := fun z => (X.trans z.x).cell q1
      have Q2 : ∀ z : Xt wr.drew, z.W.cell? ⟨(bd.add (i * 4)).block, (bd.add (i * 4)).off + 2, none⟩ = some (.slice ytA tx ytc) := fun z => (X.trans z.x).cell q2
      have Q3 : ∀ z : Xt wr.drew, z.W.cell? ⟨(bd.add (i * 4)).block, (bd.add (i * 4)).off + 3, none⟩ = some (.int .i64 yd) := fun z => (X.trans z.x).cell q3
      clear hil him hr1 hr2 hx hy hnx htx
      go_upto_region 6 with fail
      clear p0 p1 p2 p3 q0 q1 q2 q3
      refine wp_region_ord [0,0,3,7,15,0,0,96,224,480,1023,2047,4095,4095,16383,32767,65535,4095,4095,397311,921599,1970175,4194303,8388607,16777215,33554431,67108863,67108863,268435455,536870911,1073741823,67108863,67108863,6509559807,15099494399,32279363583,68719476735,137438953471,274877906943] (.flo [0,1,2,3,4,5,6,7,8,9,10,11,12,13,14,15,16,17,18,19,20,21] (.one 22 (.flo [23,24,25,26,27,28,29,30,31,32,33,34,35] (.one 36 (.flo [37,38] (.fin)))))) (by kernel_rfl) (by kernel_rfl) (by intro _ _ d _ _ h; cases d <;> exact h) ?_
      (refine ord_flo (pick_cons rfl (pick_cons rfl (pick_cons rfl (pick_cons rfl (pick_cons rfl (pick_cons rfl (pick_cons rfl (pick_cons rfl (pick_cons rfl (pick_cons rfl (pick_cons rfl (pick_cons rfl (pick_cons rfl (pick_cons rfl (pick_cons rfl (pick_cons rfl (pick_cons rfl (pick_cons rfl (pick_cons rfl (pick_cons rfl (pick_cons rfl (pick_cons rfl pick_nil)))))))))))))))))))))) ?_; (repeat (go_big_quiet_step (fail))); refine wpQuiet_nil ?_; show ordWalk _ _ _ _ _ _ _)
      refine ord_one (pick_cons rfl pick_nil) ?_; intro K_ hK_
      go_wp2_with (go_at_call 117; go_loud (refine (sameRow_lit xA yA xc yc nx nx yl _ HNX HEQ (Lib.hid (HR1.out _ X)) (Lib.hid (HR2.out _ X))).mono ?_); rintro e w1 ⟨rfl, x1⟩)
      have P1 : ∀ z : Xt w1, z.W.cell? ⟨(ad.add (i * 4)).block, (ad.add (i * 4)).off + 1, none⟩ = some (.int .u64 ye) := fun z => P1 ⟨z.W, x1.trans z.x⟩
      have P2 : ∀ z : Xt w1, z.W.cell? ⟨(ad.add (i * 4)).block, (ad.add (i * 4)).off + 2, none⟩ = some (.slice xtA tx xtc) := fun z => P2 ⟨z.W, x1.trans z.x⟩
      have Q1 : ∀ z : Xt w1, z.W.cell? ⟨(bd.add (i * 4)).block, (bd.add (i * 4)).off + 1, none⟩ = some (.int .u64 ye) := fun z => Q1 ⟨z.W, x1.trans z.x⟩
      have Q2 : ∀ z : Xt w1, z.W.cell? ⟨(bd.add (i * 4)).block, (bd.add (i * 4)).off + 2, none⟩ = some (.slice ytA tx ytc) := fun z => Q2 ⟨z.W, x1.trans z.x⟩
      clear P0 P3 Q0 Q3
      (refine ord_flo (pick_cons rfl (pick_cons rfl (pick_cons rfl (pick_cons rfl (pick_cons rfl (pick_cons rfl (pick_cons rfl (pick_cons rfl (pick_cons rfl (pick_cons rfl (pick_cons rfl (pick_cons rfl (pick_cons rfl pick_nil))))))))))))) ?_; (repeat (go_big_quiet_step (fail))); refine wpQuiet_nil ?_; show ordWalk _ _ _ _ _ _ _)
      refine ord_one (pick_cons rfl pick_nil) ?_; intro K_ hK_
      go_wp2_with (go_at_call 54; go_loud (refine (usameTime_at (b := true) ye ye xtA ytA tx tx xtc ytc ytl ytl _ (Lib.hid (by simp)) (Lib.hid (HT1.out _ (X.trans x1))) (Lib.hid (HT2.out _ (X.trans x1)))).mono ?_); rintro e w2 ⟨rfl, x2⟩)
      (refine ord_flo (pick_cons rfl (pick_cons rfl pick_nil)) ?_; (repeat (go_big_quiet_step (fail))); refine wpQuiet_nil ?_; show ordWalk _ _ _ _ _ _ _)
      refine ord_fin ?_
      go_wp2
      go_roundw
      case rel => exact ⟨i + 1, by omega, by go_num, er.trans ((X.trans x1).trans x2)⟩
      case measure => simp [intOf]; omega
    · go_wp2
      go_ret
      exact ⟨rfl, er⟩
end Go.Proofs.YtdgbkpoickbidaaGreatDoor
namespace Go.Proofs.YtdgbkpoickbidaaGreatDoor
open Go.RowKit

def kone (n : Int) : Dat := ⟨3, false, n, ⟨#[]⟩⟩
def UpdR (n e d : Int) (w : World) (r : Ending) (w' : World) : Prop := ∃ g, r = .returned (.agg #[.slice (some ⟨g, 0, none⟩) 1 1, .int .u64 e, .slice none 0 0, .int .i64 d]) ∧ w.heap.size ≤ g ∧ Own w' w.heap.size 204 4 (some ⟨g, 0, none⟩) 1 1 (rowC [kone n]) ∧ Ext w w'
set_option maxRecDepth 100000 in
set_option maxHeartbeats 1000000 in
theorem upd10_any (n e d : Int) (w : World) :
    Calls Tryz.prog 122 #[.int .i64 n, .int .u64 e, .int .i64 d] w (UpdR n e d w) := by
  go_enter Tryz.func122, Tryz.ntmps122
  go_wp2
  obtain ⟨w1, hw1⟩ : ∃ w1, w1 = (w.alloc (.cells #[.slice (some ⟨w.heap.size + 1, 0, none⟩) 1 1, .int .u64 e, .slice none 0 0, .int .i64 d] 95)).alloc (.cells #[.int .u8 3, .bool false, .int .i64 n, .string ⟨#[]⟩] 204) := ⟨_, rfl⟩
  have b1 : Bk w1 w.heap.size 95 #[.slice (some ⟨w.heap.size + 1, 0, none⟩) 1 1, .int .u64 e, .slice none 0 0, .int .i64 d] := by rw [hw1]; exact (Bk.new _ _ _).alloc _
  have c1 : Bk w1 (w.heap.size + 1) 204 #[.int .u8 3, .bool false, .int .i64 n, .string ⟨#[]⟩] := by rw [hw1]; exact Bk.at (by simp)
  have x1 : Ext w w1 := by rw [hw1]; exact ((Ext.refl w).alloc _).alloc _
  have o1 : Own w1 w.heap.size 204 4 (some ⟨w.heap.size + 1, 0, none⟩) 1 1 (rowC [kone n]) := ⟨rfl, .inr ⟨w.heap.size + 1, #[.int .u8 3, .bool false, .int .i64 n, .string ⟨#[]⟩], rfl, by omega, c1, Nat.le_refl _, by unfold maxLen; omega, Nat.le_refl _, rfl⟩⟩
  have q0 := b1.cell 0
  have q1 := b1.cell 1
  have q2 := b1.cell 2
  have q3 := b1.cell 3
  simp at q0 q1 q2 q3
  rw [← hw1]
  clear hw1
  refine bodyPost_ret (v := .agg #[.slice (some ⟨w.heap.size + 1, 0, none⟩) 1 1, .int .u64 e, .slice none 0 0, .int .i64 d]) (by simp [results, Tryz.results122, go_sem, q0, q1, q2, q3]) rfl ⟨w.heap.size + 1, rfl, by omega, o1, x1⟩
def kup (g : Nat) (n e d : Int) : Ud := ⟨some ⟨g, 0, none⟩, 1, [kone n], ⟨e, none, 0, []⟩, d⟩
theorem kup_r {w w' : World} {B g : Nat} {n : Int} (e d : Int) (o : Own w B 204 4 (some ⟨g, 0, none⟩) 1 1 (rowC [kone n])) (x : Ext w w') : UdR w' (kup g n e d) := ⟨o.sl.ext x, Sl.nil _ _⟩
theorem kup_in (g : Nat) {n e d : Int} (hn : 0 ≤ n ∧ n ≤ 100) (he : 0 ≤ e ∧ e ≤ 100) (hd : -100 ≤ d ∧ d ≤ 100) : InU (kup g n e d) := by
  refine ⟨⟨fun x hx => ?_, fun x hx => ?_, ⟨by show _ ≤ d; omega, by show d ≤ _; omega⟩, by show 1 ≤ _; omega⟩, fun x hx => (nomatch hx), by show 0 ≤ _; omega, ⟨he.1, by show e ≤ _; omega⟩⟩
  · rw [List.mem_singleton.1 (show x ∈ [kone n] from hx)]; show (0 : Nat) ≤ _; omega
  · rw [List.mem_singleton.1 (show x ∈ [kone n] from hx)]; show _ ≤ n ∧ n ≤ _; omega
def k10L (a b c d e : Nat) : List Ud := [kup a 1 2 1, kup b 0 5 (-1), kup c 1 2 1, kup d 2 3 1, kup e 2 3 (-1)]
theorem k10_in (a b c d e : Nat) : ∀ x ∈ k10L a b c d e, InU x := by
  intro x hx
  simp only [k10L, List.mem_cons, List.not_mem_nil, or_false] at hx
  rcases hx with rfl | rfl | rfl | rfl | rfl <;> exact kup_in _ (by omega) (by omega) (by omega)
def k10S : List UV := [(([kone 0], (5, [])), -1), (([kone 1], (2, [])), 2)]
def k10A : List UV := [(([kone 0], (5, [])), -1), (([kone 1], (4, [])), 2)]
theorem k10_sum (a b c d e : Nat) : UdS.sumV ((k10L a b c d e).map Ud.uv) = k10S := by kernel_rfl
theorem k10_at (a b c d e : Nat) : sumV (atV ((k10L a b c d e).map Ud.uv) (4, [])) = [([kone 1], 2)] := by kernel_rfl
theorem k10_adv (a b c d e : Nat) : UdS.sumV (((k10L a b c d e).map Ud.uv).map (advK [(4, [])])) = k10A := by kernel_rfl
theorem dat_at {U : List V} (A : Option Addr) (c n : Nat) (L : List Ud) (e : Int) (At : Option Addr) (nt ct : Nat) (lt : List Int) (w : World) (hU : Hid (sumV (atV (L.map Ud.uv) (e, lt)) = U)) (hn : Hid (n = L.length)) (h : Hid (Uin w A c L)) (h9 : n ≤ 1000000) (hin : Hid (∀ x ∈ L, InU x)) (ht : Hid (Sl w 1 At nt ct (wds lt))) (G : Good w) :
    Calls Tryz.prog 17 #[.slice A n c, .agg #[.int .u64 e, .slice At nt ct]] w (DAtRes w U) := hU.out ▸ dat_any A c n L e At nt ct lt w hn h h9 hin ht G
theorem in_lens {L : List Ud} (h : ∀ x ∈ L, InU x) : Hid (∀ x ∈ L, UdS.InN x.uv) ∧ Hid (∀ x ∈ L, x.l.length ≤ 1000000000 ∧ x.t.l.length ≤ 1000000000) := ⟨Lib.hid (fun x hx => (h x hx).num), Lib.hid (fun x hx => (h x hx).lens)⟩
set_option maxRecDepth 100000 in
set_option maxHeartbeats 16000000 in
theorem known10_any (w : World) (G : Good w) :
    Calls Tryz.prog 28 #[] w fun e w' => e = .returned (.bool true) ∧ Ext w w' := by
  have p1 : True := trivial
  go_enter Tryz.func28, Tryz.ntmps28
  go_wp2_with (first
    | (go_at_call 122; have mk := p1; clear p1 mk; go_loud (refine (upd10_any (1) (2) (1) _).mono ?_); rintro r v1 ⟨g1, rfl, b1, o1, x1⟩; have O1 := Lib.hid o1; have Y1 : Hid (Ext w v1) := Lib.hid ((Ext.refl w).trans x1); have J1 := Lib.hid x1; clear o1 x1 b1; have p2 : True := trivial)
    | (go_at_call 122; have mk := p2; clear p2 mk; go_loud (refine (upd10_any (0) (5) (-1) _).mono ?_); rintro r v2 ⟨g2, rfl, b2, o2, x2⟩; have O2 := Lib.hid o2; have Y2 : Hid (Ext w v2) := Lib.hid (Y1.out.trans x2); have J2 := Lib.hid x2; clear o2 x2 b2; have p3 : True := trivial)
    | (go_at_call 122; have mk := p3; clear p3 mk; go_loud (refine (upd10_any (1) (2) (1) _).mono ?_); rintro r v3 ⟨g3, rfl, b3, o3, x3⟩; have O3 := Lib.hid o3; have Y3 : Hid (Ext w v3) := Lib.hid (Y2.out.trans x3); have J3 := Lib.hid x3; clear o3 x3 b3; have p4 : True := trivial)
    | (go_at_call 122; have mk := p4; clear p4 mk; go_loud (refine (upd10_any (2) (3) (1) _).mono ?_); rintro r v4 ⟨g4, rfl, b4, o4, x4⟩; have O4 := Lib.hid o4; have Y4 : Hid (Ext w v4) := Lib.hid (Y3.out.trans x4); have J4 := Lib.hid x4; clear o4 x4 b4; have p5 : True := trivial)
    | (go_at_call 122; have mk := p5; clear p5 mk; go_loud (refine (upd10_any (2) (3) (-1) _).mono ?_); rintro r v5 ⟨g5, rfl, b5, o5, x5⟩; have O5 := Lib.hid o5; have Y5 : Hid (Ext w v5) := Lib.hid (Y4.out.trans x5); have J5 := Lib.hid x5; clear o5 x5 b5; have p6 : True := trivial)
    | (go_at_call 16; have mk := p6; clear p6 mk; have XA : Ext v5 (v5.alloc (.cells #[.slice (some ⟨g1, 0, none⟩) 1 1, .int .u64 2, .slice none 0 0, .int .i64 1, .slice (some ⟨g2, 0, none⟩) 1 1, .int .u64 5, .slice none 0 0, .int .i64 (-1), .slice (some ⟨g3, 0, none⟩) 1 1, .int .u64 2, .slice none 0 0, .int .i64 1, .slice (some ⟨g4, 0, none⟩) 1 1, .int .u64 3, .slice none 0 0, .int .i64 1, .slice (some ⟨g5, 0, none⟩) 1 1, .int .u64 3, .slice none 0 0, .int .i64 (-1)] 95)) := (Ext.refl v5).alloc _; have HU : Hid (∀ W, Ext (v5.alloc (.cells #[.slice (some ⟨g1, 0, none⟩) 1 1, .int .u64 2, .slice none 0 0, .int .i64 1, .slice (some ⟨g2, 0, none⟩) 1 1, .int .u64 5, .slice none 0 0, .int .i64 (-1), .slice (some ⟨g3, 0, none⟩) 1 1, .int .u64 2, .slice none 0 0, .int .i64 1, .slice (some ⟨g4, 0, none⟩) 1 1, .int .u64 3, .slice none 0 0, .int .i64 1, .slice (some ⟨g5, 0, none⟩) 1 1, .int .u64 3, .slice none 0 0, .int .i64 (-1)] 95)) W → Uin W (some ⟨v5.heap.size, 0, none⟩) 5 (k10L g1 g2 g3 g4 g5)) := Lib.hid (fun W q => ⟨(sl_alloc v5 95 #[.slice (some ⟨g1, 0, none⟩) 1 1, .int .u64 2, .slice none 0 0, .int .i64 1, .slice (some ⟨g2, 0, none⟩) 1 1, .int .u64 5, .slice none 0 0, .int .i64 (-1), .slice (some ⟨g3, 0, none⟩) 1 1, .int .u64 2, .slice none 0 0, .int .i64 1, .slice (some ⟨g4, 0, none⟩) 1 1, .int .u64 3, .slice none 0 0, .int .i64 1, .slice (some ⟨g5, 0, none⟩) 1 1, .int .u64 3, .slice none 0 0, .int .i64 (-1)] (udsC (k10L g1 g2 g3 g4 g5)) 4 5 rfl rfl (by decide)).ext q, fun x hx => by simp only [k10L, List.mem_cons, List.not_mem_nil, or_false] at hx; have z5 := XA.trans q; have z4 := J5.out.trans z5; have z3 := J4.out.trans z4; have z2 := J3.out.trans z3; have z1 := J2.out.trans z2; rcases hx with rfl | rfl | rfl | rfl | rfl; (exact kup_r _ _ O1.out z1); (exact kup_r _ _ O2.out z2); (exact kup_r _ _ O3.out z3); (exact kup_r _ _ O4.out z4); (exact kup_r _ _ O5.out z5)⟩); have HN : Hid (5 = ((k10L g1 g2 g3 g4 g5)).length) := Lib.hid rfl; have HI : Hid (∀ x ∈ (k10L g1 g2 g3 g4 g5), InU x) := Lib.hid (k10_in _ _ _ _ _); go_loud (refine (dsum_at (some ⟨v5.heap.size, 0, none⟩) 5 5 (k10L g1 g2 g3 g4 g5) _ (Lib.hid (k10_sum _ _ _ _ _)) HN (Lib.hid (HU.out _ (Ext.refl _))) (by decide) (in_lens HI.out).1 (in_lens HI.out).2).mono ?_); rintro r v6 ⟨A6, m6, R6, rfl, hm6, u6, e6, x6⟩; have HM6 := Lib.hid hm6; have HU6 := Lib.hid u6.uin; have HE6 := Lib.hid e6; have J6 := Lib.hid x6; have Y6 : Hid (Ext w v6) := Lib.hid ((Y5.out.trans XA).trans x6); clear hm6 u6 e6 x6 XA; have p7 : True := trivial)
    | (go_at_call 17; have mk := p7; clear p7 mk; go_loud (refine (dat_at (some ⟨v5.heap.size, 0, none⟩) 5 5 (k10L g1 g2 g3 g4 g5) 4 none 0 0 [] _ (Lib.hid (k10_at _ _ _ _ _)) HN (Lib.hid (HU.out _ J6.out)) (by decide) HI (Lib.hid (Sl.nil _ _)) (G.ext Y6.out)).mono ?_); rintro r v7 ⟨A7, m7, c7, R7, rfl, hm7, o7, q7, a7, e7, x7⟩; have hm71 : m7 = 1 := (by rw [hm7]; have := congrArg List.length e7; simpa using this); subst hm71; have O7 := Lib.hid o7; have HE7 := Lib.hid e7; have J7 := Lib.hid x7; have Y7 : Hid (Ext w v7) := Lib.hid (Y6.out.trans x7); clear hm7 o7 q7 a7 e7 x7; have p8 : True := trivial)
    | (go_at_call 18; have mk := p8; clear p8 mk; have XT : Ext v7 (v7.alloc (.cells #[.int .u64 4, .slice none 0 0] 26)) := (Ext.refl v7).alloc _; have HS : Hid (Tin (v7.alloc (.cells #[.int .u64 4, .slice none 0 0] 26)) (some ⟨v7.heap.size, 0, none⟩) 1 [⟨4, none, 0, []⟩]) := Lib.hid ⟨sl_alloc v7 26 #[.int .u64 4, .slice none 0 0] (tmsC [⟨4, none, 0, []⟩]) 2 1 rfl rfl (by decide), fun x hx => by rw [List.mem_singleton.1 hx]; exact Sl.nil _ _⟩; go_loud (refine (dadv_any (some ⟨v5.heap.size, 0, none⟩) 5 5 (k10L g1 g2 g3 g4 g5) (some ⟨v7.heap.size, 0, none⟩) 1 1 [⟨4, none, 0, []⟩] _ (Lib.hid (k10_adv _ _ _ _ _)) HN (Lib.hid (HU.out _ ((J6.out.trans J7.out).trans XT))) (by decide) HI (Lib.hid rfl) HS (Lib.hid (fun x hx => by rw [List.mem_singleton.1 hx]; exact ⟨fun y hy => (nomatch hy), Nat.zero_le _⟩)) (by decide)).mono ?_); rintro r v8 ⟨A8, m8, R8, rfl, hm8, u8, e8, x8⟩; have HM8 := Lib.hid hm8; have HU8 := Lib.hid u8.uin; have HE8 := Lib.hid e8; have J8 := Lib.hid (XT.trans x8); have Y8 : Hid (Ext w v8) := Lib.hid ((Y7.out.trans XT).trans x8); clear hm8 u8 e8 x8 XT; have p9 : True := trivial)
    | (go_at_call 122; have mk := p9; clear p9 mk; go_loud (refine (upd10_any (0) (5) (-1) _).mono ?_); rintro r v9 ⟨g9, rfl, b9, o9, x9⟩; have O9 := Lib.hid o9; have Y9 : Hid (Ext w v9) := Lib.hid (Y8.out.trans x9); have J9 := Lib.hid x9; clear o9 x9 b9; have p10 : True := trivial)
    | (go_at_call 122; have mk := p10; clear p10 mk; go_loud (refine (upd10_any (1) (2) (2) _).mono ?_); rintro r v10 ⟨g10, rfl, b10, o10, x10⟩; have O10 := Lib.hid o10; have Y10 : Hid (Ext w v10) := Lib.hid (Y9.out.trans x10); have J10 := Lib.hid x10; clear o10 x10 b10; have p11 : True := trivial)
    | (go_at_call 23; have mk := p11; clear p11 mk; have XA : Ext v10 (v10.alloc (.cells #[.slice (some ⟨g9, 0, none⟩) 1 1, .int .u64 5, .slice none 0 0, .int .i64 (-1), .slice (some ⟨g10, 0, none⟩) 1 1, .int .u64 2, .slice none 0 0, .int .i64 2] 95)) := (Ext.refl v10).alloc _; have HUB : Hid (Uin (v10.alloc (.cells #[.slice (some ⟨g9, 0, none⟩) 1 1, .int .u64 5, .slice none 0 0, .int .i64 (-1), .slice (some ⟨g10, 0, none⟩) 1 1, .int .u64 2, .slice none 0 0, .int .i64 2] 95)) (some ⟨v10.heap.size, 0, none⟩) 2 [kup g9 0 5 (-1), kup g10 1 2 2]) := Lib.hid ⟨sl_alloc v10 95 #[.slice (some ⟨g9, 0, none⟩) 1 1, .int .u64 5, .slice none 0 0, .int .i64 (-1), .slice (some ⟨g10, 0, none⟩) 1 1, .int .u64 2, .slice none 0 0, .int .i64 2] (udsC [kup g9 0 5 (-1), kup g10 1 2 2]) 4 2 rfl rfl (by decide), fun x hx => by simp only [List.mem_cons, List.not_mem_nil, or_false] at hx; rcases hx with rfl | rfl; (exact kup_r _ _ O9.out (J10.out.trans XA)); (exact kup_r _ _ O10.out XA)⟩; go_loud (refine (sameUps_any A6 (some ⟨v10.heap.size, 0, none⟩) m6 2 m6 2 R6 [kup g9 0 5 (-1), kup g10 1 2 2] _ HM6 (Lib.hid rfl) (Lib.hid (HU6.out.ext (((((J7.out.trans J8.out).trans J9.out).trans J10.out)).trans XA))) HUB (Lib.hid (HE6.out.trans rfl))).mono ?_); rintro r v11 ⟨rfl, x11⟩; have J11 := Lib.hid (XA.trans x11); have Y11 : Hid (Ext w v11) := Lib.hid ((Y10.out.trans XA).trans x11); clear x11 XA HUB; have p12 : True := trivial)
    | (go_at_call 122; have mk := p12; clear p12 mk; go_loud (refine (upd10_any (0) (5) (-1) _).mono ?_); rintro r v12 ⟨g12, rfl, b12, o12, x12⟩; have O12 := Lib.hid o12; have Y12 : Hid (Ext w v12) := Lib.hid (Y11.out.trans x12); have J12 := Lib.hid x12; clear o12 x12 b12; have p13 : True := trivial)
    | (go_at_call 122; have mk := p13; clear p13 mk; go_loud (refine (upd10_any (1) (4) (2) _).mono ?_); rintro r v13 ⟨g13, rfl, b13, o13, x13⟩; have O13 := Lib.hid o13; have Y13 : Hid (Ext w v13) := Lib.hid (Y12.out.trans x13); have J13 := Lib.hid x13; clear o13 x13 b13; have p14 : True := trivial)
    | (go_at_call 23; have mk := p14; clear p14 mk; have XA : Ext v13 (v13.alloc (.cells #[.slice (some ⟨g12, 0, none⟩) 1 1, .int .u64 5, .slice none 0 0, .int .i64 (-1), .slice (some ⟨g13, 0, none⟩) 1 1, .int .u64 4, .slice none 0 0, .int .i64 2] 95)) := (Ext.refl v13).alloc _; have HUB : Hid (Uin (v13.alloc (.cells #[.slice (some ⟨g12, 0, none⟩) 1 1, .int .u64 5, .slice none 0 0, .int .i64 (-1), .slice (some ⟨g13, 0, none⟩) 1 1, .int .u64 4, .slice none 0 0, .int .i64 2] 95)) (some ⟨v13.heap.size, 0, none⟩) 2 [kup g12 0 5 (-1), kup g13 1 4 2]) := Lib.hid ⟨sl_alloc v13 95 #[.slice (some ⟨g12, 0, none⟩) 1 1, .int .u64 5, .slice none 0 0, .int .i64 (-1), .slice (some ⟨g13, 0, none⟩) 1 1, .int .u64 4, .slice none 0 0, .int .i64 2] (udsC [kup g12 0 5 (-1), kup g13 1 4 2]) 4 2 rfl rfl (by decide), fun x hx => by simp only [List.mem_cons, List.not_mem_nil, or_false] at hx; rcases hx with rfl | rfl; (exact kup_r _ _ O12.out (J13.out.trans XA)); (exact kup_r _ _ O13.out XA)⟩; go_loud (refine (sameUps_any A8 (some ⟨v13.heap.size, 0, none⟩) m8 2 m8 2 R8 [kup g12 0 5 (-1), kup g13 1 4 2] _ HM8 (Lib.hid rfl) (Lib.hid (HU8.out.ext ((((((J9.out.trans J10.out).trans J11.out).trans J12.out).trans J13.out)).trans XA))) HUB (Lib.hid (HE8.out.trans rfl))).mono ?_); rintro r v14 ⟨rfl, x14⟩; have J14 := Lib.hid (XA.trans x14); have Y14 : Hid (Ext w v14) := Lib.hid ((Y13.out.trans XA).trans x14); clear x14 XA HUB; have p15 : True := trivial; have hR : R7.length = 1 := (by have := congrArg List.length HE7.out; simpa using this); have o14 := O7.out.ext (((((((J8.out.trans J9.out).trans J10.out).trans J11.out).trans J12.out).trans J13.out).trans J14.out)); obtain ⟨g7, eA7, _, _, _, hc7, _⟩ := o14.form (by omega); subst eA7; have b7 : v14.cell? ⟨g7, 1, none⟩ = some (.int .i64 2) := (hc7 1 (.int .i64 2) (by have := ctsC_at R7 0 1 (by omega) (by decide); rw [Nat.zero_mul, Nat.zero_add] at this; rw [this]; have h2 : (R7.getD 0 Ct.zero).k = 2 := (by match R7, HE7.out, hR with | [y], e, _ => (injection e with e _; exact congrArg Prod.snd e)); show some (Value.int .i64 (R7.getD 0 Ct.zero).k) = _; rw [h2])); clear o14 hc7 hR)
    | fail)
  go_ret
  exact ⟨rfl, Y14.out⟩
end Go.Proofs.YtdgbkpoickbidaaGreatDoor
namespace Go.Proofs.YtdgbkpoickbidaaGreatDoor
open Go.RowKit

theorem marks_at (l : List Dat) {n : Nat} (hn : n = l.length) : (l ++ marks).getD n Dat.zero = mark_ 91 ∧ (l ++ marks).getD (n + 1) Dat.zero = mark_ 92 := by
  subst hn
  rw [List.getD_eq_getElem?_getD, List.getD_eq_getElem?_getD, List.getElem?_append_right (Nat.le_refl _), List.getElem?_append_right (by omega), Nat.sub_self, show l.length + 1 - l.length = 1 by omega]
  exact ⟨rfl, rfl⟩
theorem rw_left {w : World} {A : Option Addr} {c : Nat} {l m : List Dat} (h : Rw w A c (l ++ m)) : Rw w A c l := by
  have := Sl.take (k := l.length) (show Sl w 4 A (l ++ m).length c (rowC (l ++ m)) from h) (by rw [List.length_append]; omega)
  rw [rowC_take, List.take_left] at this
  exact this
set_option maxRecDepth 100000 in
set_option maxHeartbeats 2000000 in
theorem wholeRow_any (A1 A2 : Option Addr) (c1 c2 n m : Nat) (l : List Dat) (w : World) (hn : n = l.length) (hm : m = n) (hs : n ≤ 1000000000) (h1 : Rw w A1 c1 (l ++ marks)) (h2 : Rw w A2 c2 l) :
    Calls Tryz.prog 111 #[.slice A1 n c1, .slice A2 m c2] w fun e w' => e = .returned (.bool true) ∧ Ext w w' := by
  subst hm
  have hc : m + 2 ≤ c1 := by have := (Sl.cap (show Sl w 4 A1 (l ++ marks).length c1 (rowC (l ++ marks)) from h1)).1; rw [List.length_append, ← hn] at this; exact this
  have hc9 := (Sl.cap (show Sl w 4 A1 (l ++ marks).length c1 (rowC (l ++ marks)) from h1)).2
  obtain ⟨e1, e2⟩ := marks_at l hn
  obtain ⟨ad, rfl, p0, p1, p2, p3⟩ := h1.at (i := m) (by rw [List.length_append, ← hn]; show m < m + 2; omega)
  obtain ⟨ad', e3, q0, q1, q2, q3⟩ := h1.at (i := m + 1) (by rw [List.length_append, ← hn]; show m + 1 < m + 2; omega)
  obtain rfl : ad = ad' := by injection e3
  rw [e1] at p0 p1 p2 p3
  rw [e2] at q0 q1 q2 q3
  simp only [mark_] at p0 p1 p2 p3 q0 q1 q2 q3
  have HN := Lib.hid hn
  have HM : Hid (m = m) := Lib.hid rfl
  have H1 := Lib.hid (rw_left h1)
  have H2 := Lib.hid h2
  have hcd : ¬ c1 < m + 2 := by omega
  clear hn h1 h2 e1 e2 e3
  go_enter Tryz.func111, Tryz.ntmps111
  go_wp2_with (go_at_call 117; refine (sameRow_lit (some ad) A2 c1 c2 m m l _ HN HM H1 H2).mono ?_; rintro e w1 ⟨rfl, x1⟩)
  go_ret
  exact ⟨rfl, x1⟩
theorem wholeRow_lit (A1 A2 : Option Addr) (c1 c2 n m : Nat) (l : List Dat) (w : World) (hn : Hid (n = l.length)) (hm : Hid (m = n)) (hs : n ≤ 1000000000) (h1 : Hid (Rw w A1 c1 (l ++ marks))) (h2 : Hid (Rw w A2 c2 l)) :
    Calls Tryz.prog 111 #[.slice A1 n c1, .slice A2 m c2] w fun e w' => e = .returned (.bool true) ∧ Ext w w' := wholeRow_any A1 A2 c1 c2 n m l w hn.out hm.out hs h1.out h2.out
end Go.Proofs.YtdgbkpoickbidaaGreatDoor
namespace Go.Proofs.YtdgbkpoickbidaaGreatDoor
open Go.RowKit

def madeWords (n : Nat) : Obj := .cells (madeCells #[.int .u32 0] (n * 1)) 180
theorem make_words (n : Nat) (hn : n ≤ 1000000000) (W : World) : (Instr.makeSlice 24 (.int .i64 0) (.int .i64 (n : Int))).run Tryz.prog W = .ok (.slice (some ⟨W.heap.size, 0, none⟩) 0 n) (W.alloc (madeWords n)) := by
  obtain ⟨i, hi, hz, hs, hb⟩ := info_parts elemWords.info
  have := run_make (P := Tryz.prog) (w := W) 24 180 i _ elemWords.under hi hz .i64 .i64 0 (n : Int) (Int.le_refl _) (by omega) (by rw [hb]; omega) (by omega)
  rw [hs] at this
  exact this
theorem own_words (W : World) (n : Nat) (hn : n ≤ 1000000000) : Own (W.alloc (madeWords n)) W.heap.size 180 1 (some ⟨W.heap.size, 0, none⟩) 0 n [] :=
  ⟨rfl, .inr ⟨W.heap.size, _, rfl, Nat.le_refl _, heap_alloc_new W _, Nat.zero_le _, by unfold maxLen; omega, Nat.le_of_eq (size_madeCells _ _).symm, rfl⟩⟩
def marksW : List Int := [771, 772]
def LentWR (w : World) (n : Nat) (l : List Int) (e : Ending) (w' : World) : Prop := ∃ g, e = .returned (.slice (some ⟨g, 0, none⟩) n (n + 2)) ∧ Own w' w.heap.size 180 1 (some ⟨g, 0, none⟩) (n + 2) (n + 2) (wds (l ++ marksW)) ∧ Ext w w'
set_option maxRecDepth 100000 in
set_option maxHeartbeats 2000000 in
theorem lentWords_any (A : Option Addr) (c n : Nat) (l : List Int) (w : World) (_hn : Hid (n = l.length)) (h : Hid (Sl w 1 A n c (wds l))) (hs : n ≤ 1000000) :
    Calls Tryz.prog 180 #[.slice A n c] w (LentWR w n l) := by
  have hmk2 : ∀ W : World, (Instr.makeSlice 24 (.int .i64 0) (.int .i64 ((n : Int) + 2))).run Tryz.prog W = .ok (.slice (some ⟨W.heap.size, 0, none⟩) 0 (n + 2)) (W.alloc (madeWords (n + 2))) := make_words (n + 2) (by omega)
  have m1 : True := trivial
  go_enter Tryz.func180, Tryz.ntmps180
  go_wp2_with (first
    | (at_builtin; have mk := m1; clear m1; go_loud (refine wpList_append_fit _ elemWords w.heap.size _ _ rfl rfl w.heap.size 0 (n + 2) [] rfl (own_words w (n + 2) (by omega)) (by omega) A n c (wds l) rfl (h.out.ext ((Ext.refl w).alloc _)) (wds_one l) (by omega) ?_); intro w1 o1 g1; have O1 := Lib.hid o1; have X1 : Ext w w1 := ((Ext.refl w).alloc _).grown g1 (fun k e => by cases e; exact Nat.le_refl _); have m2 : True := trivial; clear o1 g1)
    | (at_builtin; have mk := m2; go_loud (refine wpList_append_fit _ elemWords w.heap.size _ _ rfl rfl w.heap.size n (n + 2) (wds l) rfl (by have := O1.out.alloc (.cells (#[.int .u32 771, .int .u32 772] : Array Value) 180); rwa [List.nil_append, Nat.zero_add] at this) (by omega) (some ⟨w1.heap.size, 0, none⟩) 2 2 (wds marksW) rfl (sl_alloc w1 _ _ _ 1 2 rfl rfl (by decide)) (wds_one marksW) (by omega) ?_); intro w2 o2 g2; have O2 := Lib.hid o2; have X2 : Ext w w2 := (X1.alloc _).grown g2 (fun k e => by cases e; exact Nat.le_refl _); clear o2 g2))
  go_ret
  exact ⟨w.heap.size, by simp, by have := O2.out; rwa [wds_append] at this, X2⟩
theorem words_left {w : World} {A : Option Addr} {n m c : Nat} {l k : List Int} (h : Sl w 1 A m c (wds (l ++ k))) (hn : n = l.length) (hm : n ≤ m) : Sl w 1 A n c (wds l) := by
  have := Sl.take (k := n) h hm
  rw [Nat.mul_one, wds_take, hn, List.take_left] at this
  rw [hn]
  exact this
set_option maxRecDepth 100000 in
set_option maxHeartbeats 2000000 in
theorem wholeWords_any (A1 A2 : Option Addr) (c1 c2 n m : Nat) (l : List Int) (w : World) (hn : Hid (n = l.length)) (hm : Hid (m = n)) (hs : n ≤ 1000000000) (h1 : Hid (Sl w 1 A1 (n + 2) c1 (wds (l ++ marksW)))) (h2 : Hid (Sl w 1 A2 m c2 (wds l))) :
    Calls Tryz.prog 193 #[.slice A1 n c1, .slice A2 m c2] w fun e w' => e = .returned (.bool true) ∧ Ext w w' := by
  have hmn := hm.out
  subst hmn
  have hc := h1.out.cap
  have hlen : ∀ q : Nat, (wds (l ++ marksW))[m + q]? = (wds marksW)[q]? := fun q => by rw [← wds_append, List.getElem?_append_right (by rw [wds_len, ← hn.out]; omega), wds_len, ← hn.out, Nat.add_sub_cancel_left]
  obtain ⟨ad, e1, hcl⟩ := h1.out.2.2.2.2 (by omega)
  subst e1
  have p0 : w.cell? (ad.add m) = some (.int .u32 771) := hcl m _ (hlen 0)
  have q0 : w.cell? (ad.add (m + 1)) = some (.int .u32 772) := hcl (m + 1) _ (hlen 1)
  have q0' : w.cell? ⟨ad.block, ad.off + (m + 1), none⟩ = some (.int .u32 772) := by
    have := q0
    unfold Addr.add at this
    rwa [if_neg (by omega)] at this
  have H1 := Lib.hid (words_left h1.out hn.out (by omega))
  have hcd : ¬ c1 < m + 2 := by omega
  clear hlen hcl
  go_enter Tryz.func193, Tryz.ntmps193
  go_wp2_with (go_at_call 166; refine (sameWords_any (some ad) A2 m m c1 c2 l l _ H1.out h2.out).mono ?_; rintro e w1 ⟨rfl, x1⟩)
  go_ret
  exact ⟨by simp, x1⟩
theorem Own.fullW {w : World} {B s n c : Nat} {e : TypeId} {A : Option Addr} {xs : List Value} (h : Own w B e s A n c xs) : ∃ ys, Own w B e s A c c ys := by
  rcases h.2 with ⟨rfl, rfl⟩ | ⟨g, cur, rfl, hb, hg, hnc, hcm, hcs, _⟩
  · exact ⟨[], Own.empty _ _ _ _ _⟩
  · refine ⟨cur.toList.take (c * s), ?_, .inr ⟨g, cur, rfl, hb, hg, Nat.le_refl _, hcm, hcs, rfl⟩⟩
    rw [List.length_take]
    have : c * s ≤ cur.toList.length := by simpa using hcs
    omega
set_option maxRecDepth 100000 in
set_option maxHeartbeats 2000000 in
theorem spoilWords_any (A : Option Addr) (n nn c B : Nat) (xs : List Value) (w : World) (h : Hid (Own w B 180 1 A nn c xs)) (_hn : n ≤ c) :
    Calls Tryz.prog 114 #[.slice A n c] w fun e w' => e = .returned (.tuple #[]) ∧ Upd (fun k => blk A c = some k) w w' := by
  have hc9 := h.out.le.2
  obtain ⟨ys, hy⟩ := h.out.fullW
  have HY := Lib.hid hy
  clear hy
  go_enter Tryz.func114, Tryz.ntmps114
  go_wp2
  go_loopg [3] c (fun z v wr => ∃ (i : Nat) (ys : List Value), z = c - i ∧ i ≤ c ∧ v = .int .i64 i ∧ Hid (Own wr B 180 1 A c c ys) ∧ Hid (Upd (fun k => blk A c = some k) w wr))
  case atStart => exact ⟨0, ys, rfl, Nat.zero_le _, rfl, HY, Lib.hid (Upd.refl _ _)⟩
  case round =>
    clear HY
    obtain ⟨i, ys, rfl, hi, rfl, HY, HU⟩ := hrel
    by_cases hlt : i < c
    · obtain ⟨g, eA, hb, _, _, hcl, hfz⟩ := HY.out.form (by omega)
      have hl : ys.length = c * 1 := HY.out.1
      subst eA
      have q0 : wr.cell? ⟨g, i, none⟩ = some (ys[i]'(by omega)) := hcl _ _ (List.getElem?_eq_getElem (by omega))
      have z0 := hfz i
      have HB := Lib.hid hb
      clear hcl hfz hb
      go_wp2
      go_roundg (c - (i + 1))
      case measure => omega
      case rel => exact ⟨i + 1, _, rfl, by omega, by go_num, Lib.hid (HY.out.put i (.int .u32 77)), Lib.hid (HU.out.setCell (p := ⟨g, i, none⟩) (.inl HB.out) _)⟩
    · go_wp2
      go_returns
      exact ⟨rfl, HU.out⟩
end Go.Proofs.YtdgbkpoickbidaaGreatDoor
namespace Go.Proofs.YtdgbkpoickbidaaGreatDoor
open Go.RowKit

def LentTR (w : World) (v : Int) (n : Nat) (l : List Int) (e : Ending) (w' : World) : Prop := ∃ g, e = .returned (.agg #[.int .u64 v, .slice (some ⟨g, 0, none⟩) n (n + 2)]) ∧ Own w' w.heap.size 180 1 (some ⟨g, 0, none⟩) (n + 2) (n + 2) (wds (l ++ marksW)) ∧ Ext w w'
set_option maxRecDepth 100000 in
set_option maxHeartbeats 1000000 in
theorem lentTime_any (v : Int) (A : Option Addr) (c n : Nat) (l : List Int) (w : World) (hn : Hid (n = l.length)) (h : Hid (Sl w 1 A n c (wds l))) (hs : n ≤ 1000000) :
    Calls Tryz.prog 100 #[.agg #[.int .u64 v, .slice A n c]] w (LentTR w v n l) := by
  go_enter Tryz.func100, Tryz.ntmps100
  go_upto_region 1 with fail
  obtain ⟨w0, hw0⟩ : ∃ w0, w0 = (w.alloc (Obj.cells #[Value.int IntKind.u64 v, Value.slice A n c] 26)).alloc (Obj.cells #[Value.int IntKind.u64 0, Value.slice none 0 0] 26) := ⟨_, rfl⟩
  have x0 : Ext w w0 := hw0 ▸ ((Ext.refl w).alloc _).alloc _
  have s0 : w0.heap.size = w.heap.size + 2 := by subst hw0; simp
  have a0 : Bk w0 w.heap.size 26 #[Value.int IntKind.u64 v, Value.slice A n c] := by subst hw0; exact (Bk.new _ _ _).alloc _
  have r0 : Bk w0 (w.heap.size + 1) 26 #[Value.int IntKind.u64 0, Value.slice none 0 0] := by subst hw0; exact Bk.at (by simp)
  rw [← hw0]
  clear hw0
  have X : Ext w0 w0.drew := (Ext.refl w0).drew
  have q1 : ∀ y : Xt w0.drew, y.W.cell? ⟨w.heap.size, 0, none⟩ = some (.int .u64 v) := fun y => (a0.ext (X.trans y.x)).cell 0
  have q2 : ∀ y : Xt w0.drew, y.W.cell? ⟨w.heap.size, 1, none⟩ = some (.slice A n c) := fun y => (a0.ext (X.trans y.x)).cell 1
  refine wp_region_ord [0,1,0,4,12,31,63] (.flo [0,1,2,3] (.ext 4 (.flo [5] (.one 6 (.fin))))) (by kernel_rfl) (by kernel_rfl) (by intro _ _ d _ _ h; cases d <;> exact h) ?_
  (refine ord_flo (pick_cons rfl (pick_cons rfl (pick_cons rfl (pick_cons rfl pick_nil)))) ?_; (repeat (go_big_quiet_step (fail))); refine wpQuiet_nil ?_; show ordWalk _ _ _ _ _ _ _)
  refine ord_ext (pick_cons rfl pick_nil) ?_; intro K_ hK_
  go_wp2_with (go_at_call 180; go_loud (refine (lentWords_any A c n l _ hn (Lib.hid (h.out.ext (x0.trans X))) hs).mono ?_); rintro r w1 ⟨g, rfl, o1, x1⟩)
  refine ordNext.mk x1 ?_
  have R := r0.ext (X.trans x1)
  have z0 := R.cell 0
  have z1 := R.cell 1
  have f0 := R.free 0
  have f1 := R.free 1
  (refine ord_flo (pick_cons rfl pick_nil) ?_; (repeat (go_big_quiet_step (fail))); refine wpQuiet_nil ?_; show ordWalk _ _ _ _ _ _ _)
  refine ord_one (pick_cons rfl pick_nil) ?_; intro K_ hK_
  go_wp2
  refine ord_fin ?_
  go_wp2
  have q := R.set2 (.int .u64 v) (.slice (some ⟨g, 0, none⟩) n (n + 2))
  refine bodyPost_ret (v := .agg #[.int .u64 v, .slice (some ⟨g, 0, none⟩) n (n + 2)]) (by simp [results, Tryz.results100, go_sem, q.1, q.2]) rfl ?_
  have e1 := (x0.trans X).trans x1
  have hsx := X.size
  have O1 : Own w1 w.heap.size 180 1 (some ⟨g, 0, none⟩) (n + 2) (n + 2) (wds (l ++ marksW)) := o1.mono (by omega)
  have hg : ∀ k, k < w.heap.size + 2 → blk (some ⟨g, 0, none⟩ : Option Addr) (n + 2) ≠ some k := fun k hk => o1.ne (by omega)
  refine ⟨g, rfl, ?_, ?_⟩
  · exact ((O1.far (hg _ (by simp)) _).far (hg _ (by simp)) _)
  · (repeat' (first | with_reducible exact e1 | with_reducible refine Ext.drew ?_ | with_reducible refine Ext.drewN ?_ _ | with_reducible refine Ext.alloc ?_ _ | with_reducible refine Ext.set ?_ ?_ _ | omega | (simp; done) | (simp; omega)))
theorem wholeTime_any (v : Int) (A1 A2 : Option Addr) (c1 c2 n : Nat) (l : List Int) (w : World) (hn : Hid (n = l.length)) (hs : n ≤ 1000000000) (h1 : Hid (Sl w 1 A1 (n + 2) c1 (wds (l ++ marksW)))) (h2 : Hid (Sl w 1 A2 n c2 (wds l))) :
    Calls Tryz.prog 112 #[.agg #[.int .u64 v, .slice A1 n c1], .agg #[.int .u64 v, .slice A2 n c2]] w fun e w' => e = .returned (.bool true) ∧ Ext w w' := by
  go_enter Tryz.func112, Tryz.ntmps112
  go_wp2_with (go_at_call 193; go_loud (refine (wholeWords_any A1 A2 c1 c2 n n l _ hn (Lib.hid rfl) hs (Lib.hid (h1.out.ext (((Ext.refl w).alloc _).alloc _))) (Lib.hid (h2.out.ext (((Ext.refl w).alloc _).alloc _)))).mono ?_); rintro r w1 ⟨rfl, x1⟩)
  go_ret
  exact ⟨rfl, (((Ext.refl w).alloc _).alloc _).trans x1⟩
end Go.Proofs.YtdgbkpoickbidaaGreatDoor
namespace Go.Proofs.YtdgbkpoickbidaaGreatDoor
open Go.RowKit

/-- counters that were lent, in a block of their own -/
def LentTm (w : World) (B : Nat) (x : Tm) : Prop := Own w B 180 1 x.A (x.l.length + 2) x.c (wds (x.l ++ marksW))
theorem extT_grown {w w' : World} (x : Ext w w') (g : Nat) : w.grownBy w' (some g) := ⟨x.os, x.tape, x.output, x.size, fun k hk _ => x.block k hk⟩
theorem LentTm.full {w : World} {B : Nat} {x : Tm} (h : LentTm w B x) : Sl w 1 x.A (x.l.length + 2) x.c (wds (x.l ++ marksW)) := Own.sl h
theorem LentTm.sl {w : World} {B : Nat} {x : Tm} (h : LentTm w B x) : Sl w 1 x.A x.l.length x.c (wds x.l) := words_left h.full rfl (by omega)
end Go.Proofs.YtdgbkpoickbidaaGreatDoor
namespace Go.Proofs.YtdgbkpoickbidaaGreatDoor
open Go.RowKit

def madeUps (n : Nat) : Obj := .cells (madeCells #[.slice none 0 0, .int .u64 0, .slice none 0 0, .int .i64 0] (n * 4)) 95
theorem make_ups (n : Nat) (hn : n ≤ 1000000000) (W : World) : (Instr.makeSlice 22 (.int .i64 0) (.int .i64 (n : Int))).run Tryz.prog W = .ok (.slice (some ⟨W.heap.size, 0, none⟩) 0 n) (W.alloc (madeUps n)) := by
  obtain ⟨i, hi, hz, hs, hb⟩ := info_parts elem_ud.info
  have := run_make (P := Tryz.prog) (w := W) 22 95 i _ elem_ud.under hi hz .i64 .i64 0 (n : Int) (Int.le_refl _) (by omega) (by rw [hb]; omega) (by omega)
  rw [hs] at this
  exact this
theorem own_ups (W : World) (n : Nat) (hn : n ≤ 1000000000) : Own (W.alloc (madeUps n)) W.heap.size 95 4 (some ⟨W.heap.size, 0, none⟩) 0 n [] :=
  ⟨rfl, .inr ⟨W.heap.size, _, rfl, Nat.le_refl _, heap_alloc_new W _, Nat.zero_le _, by unfold maxLen; omega, Nat.le_of_eq (size_madeCells _ _).symm, rfl⟩⟩
def udMark : Ud := ⟨none, 0, [], Tm.zero, 91⟩
/-- a row that was lent, in a block of its own -/
def LentUR (w : World) (B : Nat) (x : Ud) : Prop := Own w B 204 4 x.A (x.l.length + 2) x.c (rowC (x.l ++ marks))
/-- rows and counters lie in blocks of their own -/
def ApU (L : List Ud) : Prop := (L.Pairwise fun x y => ∀ k, blk x.A x.c = some k → blk y.A y.c ≠ some k) ∧ L.Pairwise fun x y => ∀ k, blk x.t.A x.t.c = some k → blk y.t.A y.t.c ≠ some k
/-- lent updates, as they are made -/
structure LentUAt (w : World) (g n : Nat) (L : List Ud) (wr : World) (i : Nat) (O : List Ud) : Prop where
  own : Own wr w.heap.size 95 4 (some ⟨g, 0, none⟩) i (n + 1) (udsC O)
  vals : O.map Ud.uv = (L.take i).map Ud.uv
  len : O.length = i
  rw : ∀ x ∈ O, LentUR wr w.heap.size x
  ts : ∀ x ∈ O, LentTm wr w.heap.size x.t
  ap : ApU O
  ext : Ext w wr
  gg : w.heap.size ≤ g ∧ g < wr.heap.size
theorem LentUAt.mono {w wr wz : World} {g n i : Nat} {L O : List Ud} (h : LentUAt w g n L wr i O) (x : Ext wr wz) : LentUAt w g n L wz i O :=
  ⟨h.own.ext x, h.vals, h.len, fun y hy => Own.ext (h.rw y hy) x, fun y hy => Own.ext (h.ts y hy) x, h.ap, h.ext.trans x, by have := h.gg; have := x.size; omega⟩
theorem LentUAt.new {w w1 w3 w4 : World} {g n i hr ht : Nat} {L O : List Ud} {x : Ud} {nx tx : Nat} (hL : LentUAt w g n L w1 i O) (hi : i < L.length) (hx : L.getD i Ud.zero = x) (hnx : nx = x.l.length) (htx : tx = x.t.l.length) (x3 : Ext w1 w3)
    (o3 : Own w3 w1.heap.size 204 4 (some ⟨hr, 0, none⟩) (nx + 2) (nx + 2) (rowC (x.l ++ marks)))
    (t3 : Own w3 w1.heap.size 180 1 (some ⟨ht, 0, none⟩) (tx + 2) (tx + 2) (wds (x.t.l ++ marksW)))
    (o4 : Own w4 w.heap.size 95 4 (some ⟨g, 0, none⟩) (i + 1) (n + 1) (udsC O ++ [.slice (some ⟨hr, 0, none⟩) nx (nx + 2), .int .u64 x.t.e, .slice (some ⟨ht, 0, none⟩) tx (tx + 2), .int .i64 x.d])) (g4 : w3.grownBy w4 (some g)) : LentUAt w g n L w4 (i + 1) (O ++ [⟨some ⟨hr, 0, none⟩, nx + 2, x.l, ⟨x.t.e, some ⟨ht, 0, none⟩, tx + 2, x.t.l⟩, x.d⟩]) := by
  subst hnx htx
  have s3 := hL.mono x3
  have hg := hL.gg
  have hs4 := g4.size
  have hw := hL.ext.size
  have kept : ∀ {k0 s : Nat} {e : TypeId} {A' : Option Addr} {n' c' : Nat} {xs : List Value}, e ≠ 95 → Own w3 k0 e s A' n' c' xs → Own w4 k0 e s A' n' c' xs := fun {k0 s e A' n' c' xs} he o => o.kept g4 (by
    cases hb : blk A' c' with
    | none => exact .inl rfl
    | some k => exact .inr (fun q => own_types o s3.own he hb (by rw [q]; rfl)))
  refine ⟨by rw [udsC_append]; exact o4, ?_, by rw [List.length_append, hL.len]; rfl, fun y hy => ?_, fun y hy => ?_, ⟨?_, ?_⟩, s3.ext.grown g4 (fun k e => by cases e; exact hg.1), by have := x3.size; omega⟩
  · rw [takeU hi, hx, List.map_append, List.map_append, hL.vals]
    rfl
  · rcases List.mem_append.1 hy with hy | hy
    · exact kept udtype_dat (s3.rw y hy)
    · rw [List.mem_singleton.1 hy]
      exact Own.mono (kept udtype_dat o3) hw
  · rcases List.mem_append.1 hy with hy | hy
    · exact kept udtype_word (s3.ts y hy)
    · rw [List.mem_singleton.1 hy]
      exact Own.mono (kept udtype_word t3) hw
  · refine List.pairwise_append.2 ⟨hL.ap.1, List.pairwise_singleton _ _, fun y hy z hz k h1 h2 => ?_⟩
    rw [List.mem_singleton] at hz
    subst hz
    have := (Own.lt (hL.rw y hy) k h1).2
    have := (o3.lt k h2).1
    omega
  · refine List.pairwise_append.2 ⟨hL.ap.2, List.pairwise_singleton _ _, fun y hy z hz k h1 h2 => ?_⟩
    rw [List.mem_singleton] at hz
    subst hz
    have := (Own.lt (hL.ts y hy) k h1).2
    have := (t3.lt k h2).1
    omega
/-- lent updates: the list, a mark behind it, and the rows and counters, marks behind them -/
structure LentUs (w : World) (B g n : Nat) (L : List Ud) : Prop where
  own : Own w B 95 4 (some ⟨g, 0, none⟩) (n + 1) (n + 1) (udsC (L ++ [udMark]))
  rw : ∀ x ∈ L, LentUR w B x
  ts : ∀ x ∈ L, LentTm w B x.t
  ap : ApU L
  len : L.length = n
theorem LentUs.ext {w w' : World} {B g n : Nat} {L : List Ud} (h : LentUs w B g n L) (x : Ext w w') : LentUs w' B g n L :=
  ⟨h.own.ext x, fun y hy => Own.ext (h.rw y hy) x, fun y hy => Own.ext (h.ts y hy) x, h.ap, h.len⟩
theorem LentUR.full {w : World} {B : Nat} {x : Ud} (h : LentUR w B x) : Rw w x.A x.c (x.l ++ marks) := by
  unfold Rw
  rw [List.length_append]
  exact Own.sl h
theorem LentUs.uin {w : World} {B g n : Nat} {L : List Ud} (h : LentUs w B g n L) : Uin w (some ⟨g, 0, none⟩) (n + 1) L := by
  refine ⟨?_, fun x hx => ⟨rw_left (h.rw x hx).full, (h.ts x hx).sl⟩⟩
  have := Sl.take (k := n) h.own.sl (by omega)
  rw [udsC_append, List.take_left' (by rw [udsC_len, h.len])] at this
  rw [h.len]
  exact this
def LentUsR (w : World) (n : Nat) (L : List Ud) (e : Ending) (w' : World) : Prop := ∃ g M, e = .returned (.slice (some ⟨g, 0, none⟩) n (n + 1)) ∧ w.heap.size ≤ g ∧ LentUs w' w.heap.size g n M ∧ M.map Ud.uv = L.map Ud.uv ∧ Ext w w'
set_option maxRecDepth 100000 in
set_option maxHeartbeats 4000000 in
theorem lentUs_any (A : Option Addr) (c n : Nat) (L : List Ud) (w : World) (hn : Hid (n = L.length)) (h : Hid (Uin w A c L)) (hs : n ≤ 1000000) (hr : Hid (∀ x ∈ L, x.l.length ≤ 1000000 ∧ x.t.l.length ≤ 1000000)) :
    Calls Tryz.prog 15 #[.slice A n c] w (LentUsR w n L) := by
  have hmk : ∀ W : World, (Instr.makeSlice 22 (.int .i64 0) (.int .i64 ((n : Int) + 1))).run Tryz.prog W = .ok (.slice (some ⟨W.heap.size, 0, none⟩) 0 (n + 1)) (W.alloc (madeUps (n + 1))) := make_ups (n + 1) (by omega)
  have HL0 : Hid (LentUAt w w.heap.size n L (w.alloc (madeUps (n + 1))) 0 []) := Lib.hid ⟨own_ups w (n + 1) (by omega), rfl, rfl, fun x hx => (nomatch hx), fun x hx => (nomatch hx), ⟨List.Pairwise.nil, List.Pairwise.nil⟩, (Ext.refl w).alloc _, by simp⟩
  go_enter Tryz.func15, Tryz.ntmps15
  go_wp2
  go_loopg [3, 4] n (fun z u v wr => ∃ (i : Nat) (O : List Ud), z = n - i ∧ i ≤ n ∧ u = .slice (some ⟨w.heap.size, 0, none⟩) i (n + 1) ∧ v = .int .i64 i ∧ Hid (LentUAt w w.heap.size n L wr i O))
  case atStart => exact ⟨0, [], rfl, Nat.zero_le _, rfl, rfl, HL0⟩
  case round =>
    clear HL0 hmk
    obtain ⟨i, O, rfl, hi, rfl, rfl, HP⟩ := hrel
    have hwg : w.heap.size < wr.heap.size := HP.out.gg.2
    by_cases hlt : i < n
    · have hil : i < L.length := by rw [← hn.out]; exact hlt
      obtain ⟨ad, rfl, p0, p1, p2, p3⟩ := (h.out.ext HP.out.ext).at hil
      have hm := getU_mem hil
      obtain ⟨x, hx⟩ : ∃ x, L.getD i Ud.zero = x := ⟨_, rfl⟩
      rw [hx] at p0 p1 p2 p3 hm
      obtain ⟨nx, hnx⟩ : ∃ nx, nx = x.l.length := ⟨_, rfl⟩
      obtain ⟨tx, htx⟩ : ∃ tx, tx = x.t.l.length := ⟨_, rfl⟩
      rw [← hnx] at p0
      rw [← htx] at p2
      have hnx9 : nx ≤ 1000000 := by rw [hnx]; exact (hr.out x hm).1
      have htx9 : tx ≤ 1000000 := by rw [htx]; exact (hr.out x hm).2
      have HNX := Lib.hid hnx
      have HTX := Lib.hid htx
      have HX := Lib.hid hx
      have HIL := Lib.hid hil
      have HR2 : Hid (∀ W, Ext wr W → Rw W x.A x.c x.l) := Lib.hid (fun W q => ((h.out.ls x hm).r.ext HP.out.ext).ext q)
      have HT2 : Hid (∀ W, Ext wr W → Sl W 1 x.t.A tx x.t.c (wds x.t.l)) := Lib.hid (fun W q => by rw [htx]; exact ((h.out.ls x hm).t.ext HP.out.ext).ext q)
      have X : Ext wr wr.drew := (Ext.refl wr).drew
      have P0 : ∀ z : Xt wr.drew, z.W.cell? (ad.add (i * 4)) = some (.slice x.A nx x.c) := fun z => (X.trans z.x).cell p0
      have P1 : ∀ z : Xt wr.drew, z.W.cell? ⟨(ad.add (i * 4)).block, (ad.add (i * 4)).off + 1, none⟩ = some (.int .u64 x.t.e) := fun z => (X.trans z.x).cell p1
      have P2 : ∀ z : Xt wr.drew, z.W.cell? ⟨(ad.add (i * 4)).block, (ad.add (i * 4)).off + 2, none⟩ = some (.slice x.t.A tx x.t.c) := fun z => (X.trans z.x).cell p2
      have P3 : ∀ z : Xt wr.drew, z.W.cell? ⟨(ad.add (i * 4)).block, (ad.add (i * 4)).off + 3, none⟩ = some (.int .i64 x.d) := fun z => (X.trans z.x).cell p3
      clear hil hm hx hnx htx
      go_upto_region 5 with fail
      clear p0 p1 p2 p3
      refine wp_region_ord [0,0,0,6,14,30,62,0,0,384,896,1920,4094,0,0,24576,57344,122880,262142,524286,1048575,2097151] (.pur [0] (.flo [1,2,3,4,5,7,8,9,10,11,13,14,15,16,17] (.ext 6 (.ext 12 (.flo [18] (.one 19 (.one 20 (.flo [21] (.fin))))))))) (by kernel_rfl) (by kernel_rfl) (by intro _ _ d _ _ h; cases d <;> exact h) ?_
      (refine ord_pur (pick_cons rfl pick_nil) ?_; (repeat (go_big_quiet_step (fail))); refine wpQuiet_nil ?_; show ordWalk _ _ _ _ _ _ _)
      (refine ord_flo (pick_cons rfl (pick_cons rfl (pick_cons rfl (pick_cons rfl (pick_cons rfl (pick_cons rfl (pick_cons rfl (pick_cons rfl (pick_cons rfl (pick_cons rfl (pick_cons rfl (pick_cons rfl (pick_cons rfl (pick_cons rfl (pick_cons rfl pick_nil))))))))))))))) ?_; (repeat (go_big_quiet_step (fail))); refine wpQuiet_nil ?_; show ordWalk _ _ _ _ _ _ _)
      refine ord_ext (pick_cons rfl pick_nil) ?_; intro K_ hK_
      go_wp2_with (go_at_call 99; go_loud (refine (lentRow_lit x.A x.c nx x.l _ HNX (Lib.hid (HR2.out _ X)) hnx9).mono ?_); rintro e w2 ⟨h2, rfl, b2, o2, x2⟩)
      refine ordNext.mk x2 ?_
      have O2 := Lib.hid o2
      have hs1 : wr.heap.size ≤ w2.heap.size := (X.trans x2).size
      clear o2 b2
      refine ord_ext (pick_cons rfl pick_nil) ?_; intro K_ hK_
      go_wp2_with (go_at_call 100; go_loud (refine (lentTime_any x.t.e x.t.A x.t.c tx x.t.l _ HTX (Lib.hid (HT2.out _ (X.trans x2))) htx9).mono ?_); rintro e w3 ⟨h3, rfl, o3, x3⟩)
      refine ordNext.mk x3 ?_
      have O3 : Hid (Own w3 wr.heap.size 180 1 (some ⟨h3, 0, none⟩) (tx + 2) (tx + 2) (wds (x.t.l ++ marksW))) := Lib.hid (Own.mono o3 hs1)
      have O2 := Lib.hid (O2.out.ext x3)
      have X3 := Lib.hid ((X.trans x2).trans x3)
      clear o3
      (refine ord_flo (pick_cons rfl pick_nil) ?_; (repeat (go_big_quiet_step (fail))); refine wpQuiet_nil ?_; show ordWalk _ _ _ _ _ _ _)
      refine ord_one (pick_cons rfl pick_nil) ?_; intro K_ hK_
      go_wp2
      refine ord_one (pick_cons rfl pick_nil) ?_; intro K_ hK_
      have HS3 := Lib.hid (HP.out.mono X3.out)
      go_wp2_with (at_builtin; go_loud (refine wpList_append_fit _ elem_ud w.heap.size _ _ rfl rfl w.heap.size i (n + 1) (udsC O) rfl (HS3.out.own.alloc _) (by omega) (some ⟨w3.heap.size, 0, none⟩) 1 1 [.slice (some ⟨h2, 0, none⟩) nx (nx + 2), .int .u64 x.t.e, .slice (some ⟨h3, 0, none⟩) tx (tx + 2), .int .i64 x.d] rfl (Sl.one w3 #[.slice (some ⟨h2, 0, none⟩) nx (nx + 2), .int .u64 x.t.e, .slice (some ⟨h3, 0, none⟩) tx (tx + 2), .int .i64 x.d] 95 4 rfl) (by intro u hu; simp at hu; rcases hu with rfl | rfl | rfl | rfl <;> rfl) (by omega) ?_); intro w4 o4 g4)
      have O4 := Lib.hid o4
      have G4 := Lib.hid ((extT_grown ((Ext.refl w3).alloc (.cells #[.slice (some ⟨h2, 0, none⟩) nx (nx + 2), .int .u64 x.t.e, .slice (some ⟨h3, 0, none⟩) tx (tx + 2), .int .i64 x.d] 95)) w.heap.size).trans g4)
      clear o4 g4
      go_simp
      (refine ord_flo (pick_cons rfl pick_nil) ?_; (repeat (go_big_quiet_step (fail))); refine wpQuiet_nil ?_; show ordWalk _ _ _ _ _ _ _)
      refine ord_fin ?_
      go_wp2
      go_roundg (n - (i + 1))
      case measure => omega
      case rel => exact ⟨i + 1, _, rfl, by omega, rfl, by go_num, Lib.hid (HP.out.new HIL.out HX.out HNX.out HTX.out X3.out O2.out O3.out O4.out G4.out)⟩
    · obtain rfl : i = n := by omega
      have HE := Lib.hid HP.out.own
      go_wp2_with (at_builtin; go_loud (refine wpList_append_fit _ elem_ud w.heap.size _ _ rfl rfl w.heap.size i (i + 1) (udsC O) rfl (HE.out.alloc _) (by omega) (some ⟨wr.heap.size, 0, none⟩) 1 1 [.slice none 0 0, .int .u64 0, .slice none 0 0, .int .i64 91] rfl (Sl.one wr #[.slice none 0 0, .int .u64 0, .slice none 0 0, .int .i64 91] 95 4 rfl) (by intro u hu; simp at hu; rcases hu with rfl | rfl | rfl | rfl <;> rfl) (by omega) ?_); intro w4 o4 g4; have O4 := Lib.hid o4; have G4 := Lib.hid ((extT_grown ((Ext.refl wr).alloc (.cells #[.slice none 0 0, .int .u64 0, .slice none 0 0, .int .i64 91] 95)) w.heap.size).trans g4); clear o4 g4)
      go_ret
      have kept : ∀ {k0 s : Nat} {e : TypeId} {A' : Option Addr} {n' c' : Nat} {xs : List Value}, e ≠ 95 → Own wr k0 e s A' n' c' xs → Own w4 k0 e s A' n' c' xs := fun {k0 s e A' n' c' xs} he o => o.kept G4.out (by
        cases hb : blk A' c' with
        | none => exact .inl rfl
        | some k => exact .inr (fun q => own_types o HE.out he hb (by rw [q]; rfl)))
      exact ⟨w.heap.size, O, by simp, Nat.le_refl _, ⟨by rw [udsC_append]; exact O4.out, fun y hy => kept udtype_dat (HP.out.rw y hy), fun y hy => kept udtype_word (HP.out.ts y hy), HP.out.ap, HP.out.len⟩, by rw [HP.out.vals, List.take_of_length_le (by rw [← hn.out]; exact Nat.le_refl _)], HP.out.ext.grown G4.out (fun k e => by cases e; exact Nat.le_refl _)⟩
end Go.Proofs.YtdgbkpoickbidaaGreatDoor
namespace Go.Proofs.YtdgbkpoickbidaaGreatDoor
open Go.RowKit

theorem LentUs.iv {w : World} {B g n : Nat} {L : List Ud} (h : LentUs w B g n L) {k : Nat} (hk : k = g ∨ ∃ x ∈ L, blk x.A x.c = some k ∨ blk x.t.A x.t.c = some k) : B ≤ k ∧ k < w.heap.size := by
  rcases hk with rfl | ⟨x, hx, hb | hb⟩
  · exact h.own.lt _ rfl
  · exact Own.lt (h.rw x hx) k hb
  · exact Own.lt (h.ts x hx) k hb
set_option maxRecDepth 100000 in
set_option maxHeartbeats 8000000 in
theorem wholeUs_any (A2 : Option Addr) (c2 n B g : Nat) (L M : List Ud) (w : World) (hm : Hid (n = L.length)) (hs : n ≤ 1000000) (h1 : Hid (LentUs w B g n M)) (h2 : Hid (Uin w A2 c2 L)) (he : Hid (M.map Ud.uv = L.map Ud.uv)) (hr : Hid (∀ x ∈ L, x.l.length ≤ 1000000 ∧ x.t.l.length ≤ 1000000)) :
    Calls Tryz.prog 19 #[.slice (some ⟨g, 0, none⟩) n (n + 1), .slice A2 n c2] w fun e w' => e = .returned (.bool true) ∧ Ext w w' := by
  obtain ⟨g', eg, _, _, _, hc, _⟩ := h1.out.own.form (by omega)
  cases eg
  have pm : w.cell? ⟨g, n * 4 + 3, none⟩ = some (.int .i64 91) := hc _ _ (by
    have := udsC_at (M ++ [udMark]) n 3 (by rw [List.length_append, h1.out.len]; exact Nat.lt_succ_self n) (by decide)
    rw [show (M ++ [udMark]).getD n Ud.zero = udMark from by rw [List.getD_eq_getElem?_getD, List.getElem?_append_right (by rw [h1.out.len]; exact Nat.le_refl _), h1.out.len, Nat.sub_self]; rfl] at this
    exact this)
  clear hc
  go_enter Tryz.func19, Tryz.ntmps19
  go_wp2
  go_loopw [5] (fun v wr => ∃ i : Nat, i ≤ n ∧ v = .int .i64 i ∧ Ext w wr) (fun v _ => n - (intOf v).toNat)
  case atStart => exact ⟨0, Nat.zero_le _, rfl, Ext.refl _⟩
  case round =>
    obtain ⟨i, hi, rfl, er⟩ := hrel
    clear pm
    by_cases hlt : i < n
    · have hil : i < M.length := by rw [h1.out.len]; exact hlt
      have him : i < L.length := by rw [← hm.out]; exact hlt
      obtain ⟨ad, eA, p0, p1, p2, p3⟩ := (h1.out.uin.ext er).at hil
      cases eA
      obtain ⟨bd, rfl, q0, q1, q2, q3⟩ := (h2.out.ext er).at him
      have hr1 := (h1.out.rw _ (getU_mem hil)).full
      have ht1 := (h1.out.ts _ (getU_mem hil)).full
      have hr2 := h2.out.ls _ (getU_mem him)
      have hrl := hr.out _ (getU_mem him)
      obtain ⟨e1, e2, e3, e4⟩ := uval_at he.out hil
      obtain ⟨x, hx⟩ : ∃ x, M.getD i Ud.zero = x := ⟨_, rfl⟩
      obtain ⟨y, hy⟩ : ∃ y, L.getD i Ud.zero = y := ⟨_, rfl⟩
      rw [hx] at p0 p1 p2 p3 hr1 ht1 e1 e2 e3 e4
      rw [hy] at q0 q1 q2 q3 hr2 hrl e1 e2 e3 e4
      obtain ⟨xA, xc, xl, ⟨xe, xtA, xtc, xtl⟩, xd⟩ := x
      obtain ⟨yA, yc, yl, ⟨ye, ytA, ytc, ytl⟩, yd⟩ := y
      dsimp only at p0 p1 p2 p3 q0 q1 q2 q3 hr1 ht1 hr2 hrl e1 e2 e3 e4
      subst e1 e2 e3 e4
      obtain ⟨nx, hnx⟩ : ∃ nx, nx = yl.length := ⟨_, rfl⟩
      obtain ⟨tx, htx⟩ : ∃ tx, tx = ytl.length := ⟨_, rfl⟩
      rw [← hnx] at p0 q0 hrl
      rw [← htx] at p2 q2 ht1 hrl
      have hnx9 : nx ≤ 1000000000 := by omega
      have htx9 : tx ≤ 1000000000 := by omega
      have HNX := Lib.hid hnx
      have HTX := Lib.hid htx
      have HEQ : Hid (nx = nx) := Lib.hid rfl
      have HR1 : Hid (∀ W, Ext wr W → Rw W xA xc (yl ++ marks)) := Lib.hid (fun W q => (hr1.ext er).ext q)
      have HR2 : Hid (∀ W, Ext wr W → Rw W yA yc yl) := Lib.hid (fun W q => (hr2.r.ext er).ext q)
      have HT1 : Hid (∀ W, Ext wr W → Sl W 1 xtA (tx + 2) xtc (wds (ytl ++ marksW))) := Lib.hid (fun W q => (ht1.ext er).ext q)
      have HT2 : Hid (∀ W, Ext wr W → Sl W 1 ytA tx ytc (wds ytl)) := Lib.hid (fun W q => by rw [htx]; exact (hr2.t.ext er).ext q)
      rw [show (⟨g, 0, none⟩ : Addr).add (i * 4) = ⟨g, i * 4, none⟩ from by unfold Addr.add; split <;> simp_all] at p0 p1 p2 p3
      have X : Ext wr wr.drew := (Ext.refl wr).drew
      have P0 : ∀ z : Xt wr.drew, z.W.cell? ⟨g, i * 4, none⟩ = some (.slice xA nx xc) := fun z => (X.trans z.x).cell p0
      have P1 : ∀ z : Xt wr.drew, z.W.cell? ⟨g, i * 4 + 1, none⟩ = some (.int .u64 ye) := fun z => (X.trans z.x).cell p1
      have P2 : ∀ z : Xt wr.drew, z.W.cell? ⟨g, i * 4 + 2, none⟩ = some (.slice xtA tx xtc) := fun z => (X.trans z.x).cell p2
      have P3 : ∀ z : Xt wr.drew, z.W.cell? ⟨g, i * 4 + 3, none⟩ = some (.int .i64 yd) := fun z => (X.trans z.x).cell p3
      have Q0 : ∀ z : Xt wr.drew, z.W.cell? (bd.add (i * 4)) = some (.slice yA nx yc) := fun z => (X.trans z.x).cell q0
      have Q1 : ∀ z : Xt wr.drew, z.W.cell? ⟨(bd.add (i * 4)).block, (bd.add (i * 4)).off + 1, none⟩ = some (.int .u64 ye) := fun z => (X.trans z.x).cell q1
      have Q2 : ∀ z : Xt wr.drew, z.W.cell? ⟨(bd.add (i * 4)).block, (bd.add (i * 4)).off + 2, none⟩ = some (.slice ytA tx ytc) := fun z => (X.trans z.x).cell q2
      have Q3 : ∀ z : Xt wr.drew, z.W.cell? ⟨(bd.add (i * 4)).block, (bd.add (i * 4)).off + 3, none⟩ = some (.int .i64 yd) := fun z => (X.trans z.x).cell q3
      clear hil him hr1 ht1 hr2 hx hy hnx htx hrl
      go_upto_region 6 with fail
      clear p0 p1 p2 p3 q0 q1 q2 q3
      refine wp_region_ord [0,0,3,7,15,0,0,96,224,480,1023,2047,4095,4095,16383,32767,65535,4095,4095,397311,921599,1970175,4194303,8388607,16777215,33554431,67108863,67108863,268435455,536870911,1073741823,67108863,67108863,6509559807,15099494399,32279363583,68719476735,137438953471,274877906943] (.flo [0,1,2,3,4,5,6,7,8,9,10,11,12,13,14,15,16,17,18,19,20,21] (.one 22 (.flo [23,24,25,26,27,28,29,30,31,32,33,34,35] (.one 36 (.flo [37,38] (.fin)))))) (by kernel_rfl) (by kernel_rfl) (by intro _ _ d _ _ h; cases d <;> exact h) ?_
      (refine ord_flo (pick_cons rfl (pick_cons rfl (pick_cons rfl (pick_cons rfl (pick_cons rfl (pick_cons rfl (pick_cons rfl (pick_cons rfl (pick_cons rfl (pick_cons rfl (pick_cons rfl (pick_cons rfl (pick_cons rfl (pick_cons rfl (pick_cons rfl (pick_cons rfl (pick_cons rfl (pick_cons rfl (pick_cons rfl (pick_cons rfl (pick_cons rfl (pick_cons rfl pick_nil)))))))))))))))))))))) ?_; (repeat (go_big_quiet_step (fail))); refine wpQuiet_nil ?_; show ordWalk _ _ _ _ _ _ _)
      refine ord_one (pick_cons rfl pick_nil) ?_; intro K_ hK_
      go_wp2_with (go_at_call 111; go_loud (refine (wholeRow_lit xA yA xc yc nx nx yl _ HNX HEQ hnx9 (Lib.hid (HR1.out _ X)) (Lib.hid (HR2.out _ X))).mono ?_); rintro e w1 ⟨rfl, x1⟩)
      have P1 : ∀ z : Xt w1, z.W.cell? ⟨g, i * 4 + 1, none⟩ = some (.int .u64 ye) := fun z => P1 ⟨z.W, x1.trans z.x⟩
      have P2 : ∀ z : Xt w1, z.W.cell? ⟨g, i * 4 + 2, none⟩ = some (.slice xtA tx xtc) := fun z => P2 ⟨z.W, x1.trans z.x⟩
      have Q1 : ∀ z : Xt w1, z.W.cell? ⟨(bd.add (i * 4)).block, (bd.add (i * 4)).off + 1, none⟩ = some (.int .u64 ye) := fun z => Q1 ⟨z.W, x1.trans z.x⟩
      have Q2 : ∀ z : Xt w1, z.W.cell? ⟨(bd.add (i * 4)).block, (bd.add (i * 4)).off + 2, none⟩ = some (.slice ytA tx ytc) := fun z => Q2 ⟨z.W, x1.trans z.x⟩
      clear P0 P3 Q0 Q3
      (refine ord_flo (pick_cons rfl (pick_cons rfl (pick_cons rfl (pick_cons rfl (pick_cons rfl (pick_cons rfl (pick_cons rfl (pick_cons rfl (pick_cons rfl (pick_cons rfl (pick_cons rfl (pick_cons rfl (pick_cons rfl pick_nil))))))))))))) ?_; (repeat (go_big_quiet_step (fail))); refine wpQuiet_nil ?_; show ordWalk _ _ _ _ _ _ _)
      refine ord_one (pick_cons rfl pick_nil) ?_; intro K_ hK_
      go_wp2_with (go_at_call 112; go_loud (refine (wholeTime_any ye xtA ytA xtc ytc tx ytl _ HTX htx9 (Lib.hid (HT1.out _ (X.trans x1))) (Lib.hid (HT2.out _ (X.trans x1)))).mono ?_); rintro e w2 ⟨rfl, x2⟩)
      (refine ord_flo (pick_cons rfl (pick_cons rfl pick_nil)) ?_; (repeat (go_big_quiet_step (fail))); refine wpQuiet_nil ?_; show ordWalk _ _ _ _ _ _ _)
      refine ord_fin ?_
      go_wp2
      go_roundw
      case rel => exact ⟨i + 1, by omega, by go_num, er.trans ((X.trans x1).trans x2)⟩
      case measure => simp [intOf]; omega
    · go_wp2
      go_ret
      exact ⟨rfl, er⟩
end Go.Proofs.YtdgbkpoickbidaaGreatDoor
namespace Go.Proofs.YtdgbkpoickbidaaGreatDoor
open Go.RowKit

theorem Own.full {w : World} {B s n c : Nat} {e : TypeId} {A : Option Addr} {xs : List Value} (h : Own w B e s A n c xs) : ∃ ys, Own w B e s A c c ys := by
  rcases h.2 with ⟨rfl, rfl⟩ | ⟨g, cur, rfl, hb, hg, hnc, hcm, hcs, _⟩
  · exact ⟨[], Own.empty _ _ _ _ _⟩
  · refine ⟨cur.toList.take (c * s), ?_, .inr ⟨g, cur, rfl, hb, hg, Nat.le_refl _, hcm, hcs, rfl⟩⟩
    rw [List.length_take]
    have : c * s ≤ cur.toList.length := by simpa using hcs
    omega
theorem Own.len {w : World} {B s n c : Nat} {e : TypeId} {A : Option Addr} {xs : List Value} (h : Own w B e s A n c xs) : xs.length = n * s := h.1
set_option maxRecDepth 100000 in
set_option maxHeartbeats 2000000 in
theorem spoilRow_any (A : Option Addr) (n nn c B : Nat) (xs : List Value) (w : World) (h : Hid (Own w B 204 4 A nn c xs)) (_hn : n ≤ c) :
    Calls Tryz.prog 113 #[.slice A n c] w fun e w' => e = .returned (.tuple #[]) ∧ Upd (fun k => blk A c = some k) w w' := by
  have hc9 := h.out.le.2
  obtain ⟨ys, hy⟩ := h.out.full
  have HY := Lib.hid hy
  clear hy
  go_enter Tryz.func113, Tryz.ntmps113
  go_wp2
  go_loopg [3] c (fun z v wr => ∃ (i : Nat) (ys : List Value), z = c - i ∧ i ≤ c ∧ v = .int .i64 i ∧ Hid (Own wr B 204 4 A c c ys) ∧ Hid (Upd (fun k => blk A c = some k) w wr))
  case atStart => exact ⟨0, ys, rfl, Nat.zero_le _, rfl, HY, Lib.hid (Upd.refl _ _)⟩
  case round =>
    clear HY
    obtain ⟨i, ys, rfl, hi, rfl, HY, HU⟩ := hrel
    by_cases hlt : i < c
    · obtain ⟨g, eA, hb, _, _, hcl, hfz⟩ := HY.out.form (by omega)
      have hl := HY.out.len
      subst eA
      have q0 : wr.cell? ⟨g, i * 4, none⟩ = some (ys[i * 4]'(by omega)) := hcl _ _ (List.getElem?_eq_getElem (by omega))
      have z0 := hfz (i * 4)
      have q1 : wr.cell? ⟨g, i * 4 + 1, none⟩ = some (ys[i * 4 + 1]'(by omega)) := hcl _ _ (List.getElem?_eq_getElem (by omega))
      have z1 := hfz (i * 4 + 1)
      have q2 : wr.cell? ⟨g, i * 4 + 2, none⟩ = some (ys[i * 4 + 2]'(by omega)) := hcl _ _ (List.getElem?_eq_getElem (by omega))
      have z2 := hfz (i * 4 + 2)
      have q3 : wr.cell? ⟨g, i * 4 + 3, none⟩ = some (ys[i * 4 + 3]'(by omega)) := hcl _ _ (List.getElem?_eq_getElem (by omega))
      have z3 := hfz (i * 4 + 3)
      have HB := Lib.hid hb
      clear hcl hfz hb
      go_wp2
      go_roundg (c - (i + 1))
      case measure => omega
      case rel => exact ⟨i + 1, _, rfl, by omega, by go_num, Lib.hid ((((HY.out.put (i * 4) (.int .u8 93)).put (i * 4 + 1) (.bool false)).put (i * 4 + 2) (.int .i64 0)).put (i * 4 + 3) (.string ⟨#[]⟩)), Lib.hid ((((HU.out.setCell (p := ⟨g, i * 4, none⟩) (.inl HB.out) _).setCell (p := ⟨g, i * 4 + 1, none⟩) (.inl HB.out) _).setCell (p := ⟨g, i * 4 + 2, none⟩) (.inl HB.out) _).setCell (p := ⟨g, i * 4 + 3, none⟩) (.inl HB.out) _)⟩
    · go_wp2
      go_returns
      exact ⟨rfl, HU.out⟩
end Go.Proofs.YtdgbkpoickbidaaGreatDoor
namespace Go.Proofs.YtdgbkpoickbidaaGreatDoor
open Go.RowKit

/-- the blocks of lent updates -/
def LentUS (g : Nat) (L : List Ud) (k : Nat) : Prop := k = g ∨ ∃ x ∈ L, blk x.A x.c = some k ∨ blk x.t.A x.t.c = some k
theorem getU_get {L : List Ud} {i : Nat} (hi : i < L.length) : L.getD i Ud.zero = L[i] := by
  rw [List.getD_eq_getElem?_getD, List.getElem?_eq_getElem hi]; rfl
set_option maxRecDepth 100000 in
set_option maxHeartbeats 4000000 in
theorem spoilUs_any (g n B : Nat) (L : List Ud) (w : World) (h : Hid (LentUs w B g n L)) (hn : n ≤ 1000000) :
    Calls Tryz.prog 20 #[.slice (some ⟨g, 0, none⟩) n (n + 1)] w fun e w' => e = .returned (.tuple #[]) ∧ Upd (LentUS g L) w w' := by
  have HL := Lib.hid h.out.len
  have HP0 : Hid (∀ j, 0 ≤ j → j < n → LentUR w B (L.getD j Ud.zero) ∧ LentTm w B (L.getD j Ud.zero).t) := Lib.hid (fun j _ hj => ⟨h.out.rw _ (getU_mem (by rw [HL.out]; exact hj)), h.out.ts _ (getU_mem (by rw [HL.out]; exact hj))⟩)
  have HA := Lib.hid h.out.ap
  have HO0 := Lib.hid h.out.own
  go_enter Tryz.func20, Tryz.ntmps20
  go_wp2
  go_loopg [2] n (fun z v wr => ∃ i : Nat, z = n - i ∧ i ≤ n ∧ v = .int .i64 i ∧ Hid (Own wr B 95 4 (some ⟨g, 0, none⟩) (n + 1) (n + 1) (udsC (L ++ [udMark]))) ∧ Hid (∀ j, i ≤ j → j < n → LentUR wr B (L.getD j Ud.zero) ∧ LentTm wr B (L.getD j Ud.zero).t) ∧ Hid (Upd (LentUS g L) w wr))
  case atStart => exact ⟨0, rfl, Nat.zero_le _, rfl, HO0, HP0, Lib.hid (Upd.refl _ _)⟩
  case round =>
    clear HO0 HP0
    obtain ⟨i, rfl, hi, rfl, HO, HP, HU⟩ := hrel
    by_cases hlt : i < n
    · have hil : i < L.length := by rw [HL.out]; exact hlt
      obtain ⟨hrow, htm⟩ := HP.out i (Nat.le_refl _) hlt
      have hxq : ∀ q, q < 4 → (udsC (L ++ [udMark]))[i * 4 + q]? = (udC (L.getD i Ud.zero))[q]? := fun q hq => by
        have := udsC_at (L ++ [udMark]) i q (by rw [List.length_append]; omega) hq
        rwa [List.getD_eq_getElem?_getD, List.getElem?_append_left hil, ← List.getD_eq_getElem?_getD] at this
      have hx0 := hxq 0 (by omega)
      have hx2 := hxq 2 (by omega)
      have hcl : ∀ W : World, Own W B 95 4 (some ⟨g, 0, none⟩) (n + 1) (n + 1) (udsC (L ++ [udMark])) → W.cell? ⟨g, i * 4, none⟩ = some (.slice (L.getD i Ud.zero).A (L.getD i Ud.zero).l.length (L.getD i Ud.zero).c) ∧ W.cell? ⟨g, i * 4 + 2, none⟩ = some (.slice (L.getD i Ud.zero).t.A (L.getD i Ud.zero).t.l.length (L.getD i Ud.zero).t.c) := fun W o => by
        obtain ⟨_, eg, _, _, _, hc, _⟩ := o.form (by omega)
        cases eg
        exact ⟨hc _ _ (by rw [← Nat.add_zero (i * 4)]; exact hx0), hc _ _ hx2⟩
      have hmem := getU_mem hil
      have hap : ∀ j, i + 1 ≤ j → j < n → (∀ q, blk (L.getD i Ud.zero).A (L.getD i Ud.zero).c = some q → blk (L.getD j Ud.zero).A (L.getD j Ud.zero).c ≠ some q) ∧ ∀ q, blk (L.getD i Ud.zero).t.A (L.getD i Ud.zero).t.c = some q → blk (L.getD j Ud.zero).t.A (L.getD j Ud.zero).t.c ≠ some q := fun j h1 h2 => by
        have hjl : j < L.length := by rw [HL.out]; exact h2
        rw [getU_get hil, getU_get hjl]
        exact ⟨List.pairwise_iff_getElem.1 HA.out.1 i j hil hjl (by omega), List.pairwise_iff_getElem.1 HA.out.2 i j hil hjl (by omega)⟩
      obtain ⟨x, hxx⟩ : ∃ x, L.getD i Ud.zero = x := ⟨_, rfl⟩
      rw [hxx] at hrow htm hmem
      simp only [hxx] at hap hcl
      obtain ⟨A, c, l, ⟨te, tA, tc, tl⟩, d⟩ := x
      obtain ⟨nl, hnl⟩ : ∃ nl, l.length = nl := ⟨_, rfl⟩
      obtain ⟨nt, hnt⟩ : ∃ nt, tl.length = nt := ⟨_, rfl⟩
      dsimp only at hcl hap
      simp only [hnl, hnt] at hcl
      have HCL := Lib.hid hcl
      have HR : Hid (Own wr B 204 4 A (nl + 2) c (rowC (l ++ marks))) := Lib.hid (by rw [← hnl]; exact hrow)
      have HT : Hid (Own wr B 180 1 tA (nt + 2) tc (wds (tl ++ marksW))) := Lib.hid (by rw [← hnt]; exact htm)
      have hnc : nl ≤ c := by have := HR.out.le.1; omega
      have hntc : nt ≤ tc := by have := HT.out.le.1; omega
      have HM : Hid ((⟨A, c, l, ⟨te, tA, tc, tl⟩, d⟩ : Ud) ∈ L) := Lib.hid hmem
      have HAp := Lib.hid hap
      obtain ⟨p0, p2⟩ := HCL.out wr HO.out
      clear hrow htm hmem hap hcl hx0 hx2 hxq hxx hnl hnt hil
      have m1 : True := trivial
      go_wp2_with (first
        | (go_at_call 113; have mk := m1; clear m1 mk; go_loud (refine (spoilRow_any A nl (nl + 2) c B _ _ HR hnc).mono ?_); rintro e w1 ⟨rfl, x1⟩; have X1 := Lib.hid x1; have HO1 : Hid (Own w1 B 95 4 (some ⟨g, 0, none⟩) (n + 1) (n + 1) (udsC (L ++ [udMark]))) := Lib.hid (HO.out.upd x1 (fun q hq hq2 => own_types HR.out HO.out udtype_dat hq2 hq)); have HT1 : Hid (Own w1 B 180 1 tA (nt + 2) tc (wds (tl ++ marksW))) := Lib.hid (HT.out.upd x1 (fun q hq hq2 => own_types HR.out HT.out udtype_dw hq2 hq)); clear p0 p2 x1; obtain ⟨p0, p2⟩ := HCL.out w1 HO1.out; have m2 : True := trivial)
        | (go_at_call 114; have mk := m2; clear m2 mk; go_loud (refine (spoilWords_any tA nt (nt + 2) tc B _ _ HT1 hntc).mono ?_); rintro e w2 ⟨rfl, x2⟩; have X2 := Lib.hid x2; clear x2))
      go_roundg (n - (i + 1))
      case measure => omega
      case rel => exact ⟨i + 1, rfl, by omega, by go_num, Lib.hid (HO1.out.upd X2.out (fun q hq hq2 => own_types HT1.out HO1.out udtype_word hq2 hq)), Lib.hid (fun j h1 h2 => by
          obtain ⟨r1, r2⟩ := HP.out j (by omega) h2
          obtain ⟨a1, a2⟩ := HAp.out j h1 h2
          have q1 := Own.upd r1 X1.out (fun q hq hq2 => a1 q hq2 hq)
          have q2 := Own.upd r2 X1.out (fun q hq hq2 => own_types HR.out r2 udtype_dw hq2 hq)
          exact ⟨Own.upd q1 X2.out (fun q hq hq2 => own_types HT1.out q1 (Ne.symm udtype_dw) hq2 hq), Own.upd q2 X2.out (fun q hq hq2 => a2 q hq2 hq)⟩), Lib.hid ((HU.out.trans (X1.out.mono (fun q _ hq => .inr ⟨_, HM.out, .inl hq⟩))).trans (X2.out.mono (fun q _ hq => .inr ⟨_, HM.out, .inr hq⟩)))⟩
    · obtain rfl : i = n := by omega
      obtain ⟨ys, hy⟩ := HO.out.full
      have HY := Lib.hid hy
      clear hy
      go_wp2
      go_loopg [4] (i + 1) (fun z v wr => ∃ (j : Nat) (ys : List Value), z = i + 1 - j ∧ j ≤ i + 1 ∧ v = .int .i64 j ∧ Hid (Own wr B 95 4 (some ⟨g, 0, none⟩) (i + 1) (i + 1) ys) ∧ Hid (Upd (LentUS g L) w wr))
      case atStart => exact ⟨0, ys, rfl, Nat.zero_le _, rfl, HY, HU⟩
      case round =>
        clear HY HU
        obtain ⟨j, ys, rfl, hj, rfl, HY, HU⟩ := hrel
        by_cases hlt2 : j < i + 1
        · obtain ⟨_, eg, _, _, _, hcl, hfz⟩ := HY.out.form (by omega)
          cases eg
          have hl : ys.length = (i + 1) * 4 := HY.out.1
          have q0 : wr.cell? ⟨g, j * 4, none⟩ = some (ys[j * 4]'(by omega)) := hcl _ _ (List.getElem?_eq_getElem (by omega))
          have q1 : wr.cell? ⟨g, j * 4 + 1, none⟩ = some (ys[j * 4 + 1]'(by omega)) := hcl _ _ (List.getElem?_eq_getElem (by omega))
          have q2 : wr.cell? ⟨g, j * 4 + 2, none⟩ = some (ys[j * 4 + 2]'(by omega)) := hcl _ _ (List.getElem?_eq_getElem (by omega))
          have q3 : wr.cell? ⟨g, j * 4 + 3, none⟩ = some (ys[j * 4 + 3]'(by omega)) := hcl _ _ (List.getElem?_eq_getElem (by omega))
          have z0 := hfz (j * 4)
          have z1 := hfz (j * 4 + 1)
          have z2 := hfz (j * 4 + 2)
          have z3 := hfz (j * 4 + 3)
          clear hcl hfz
          go_wp2
          go_roundg (i + 1 - (j + 1))
          case measure => omega
          case rel => exact ⟨j + 1, _, rfl, by omega, by go_num, Lib.hid ((((HY.out.put (j * 4) (.slice none 0 0)).put (j * 4 + 1) (.int .u64 0)).put (j * 4 + 2) (.slice none 0 0)).put (j * 4 + 3) (.int .i64 93)), Lib.hid ((((HU.out.setCell (p := ⟨g, j * 4, none⟩) (.inl (.inl rfl)) _).setCell (p := ⟨g, j * 4 + 1, none⟩) (.inl (.inl rfl)) _).setCell (p := ⟨g, j * 4 + 2, none⟩) (.inl (.inl rfl)) _).setCell (p := ⟨g, j * 4 + 3, none⟩) (.inl (.inl rfl)) _)⟩
        · obtain rfl : j = i + 1 := by omega
          go_wp2
          go_returns
          exact ⟨rfl, HU.out⟩
end Go.Proofs.YtdgbkpoickbidaaGreatDoor
namespace Go.Proofs.YtdgbkpoickbidaaGreatDoor
open Go.RowKit

set_option maxRecDepth 100000 in
set_option maxHeartbeats 400000 in
theorem rjoin_diff (e1 e2 : Int) (A1 A2 : Option Addr) (n1 n2 c1 c2 : Nat) (w : World) (hne : ((n1 : Int) != (n2 : Int)) = true) :
    Calls Tryz.prog 196 #[.agg #[.int .u64 e1, .slice A1 n1 c1], .agg #[.int .u64 e2, .slice A2 n2 c2]] w fun e w' =>
      e = .returned (.tuple #[.agg #[.int .u64 0, .slice none 0 0], .int .i64 40]) ∧ Ext w w' := by
  go_enter Tryz.func196, Tryz.ntmps196
  go_wp2
  go_returns
  exact ⟨rfl, (((Ext.refl w).alloc _).alloc _).alloc _⟩
set_option maxRecDepth 100000 in
set_option maxHeartbeats 2000000 in
theorem rjoin_same (e1 e2 : Int) (A1 A2 : Option Addr) (n c1 c2 : Nat) (l1 l2 : List Int) (w : World) (h1 : Sl w 1 A1 n c1 (wds l1)) (h2 : Sl w 1 A2 n c2 (wds l2)) (hn : n * 4 ≤ 140737488355328) :
    Calls Tryz.prog 196 #[.agg #[.int .u64 e1, .slice A1 n c1], .agg #[.int .u64 e2, .slice A2 n c2]] w fun e w' =>
      ∃ A c, e = .returned (.tuple #[.agg #[.int .u64 (max e1 e2), .slice A n c], .int .i64 0]) ∧ Own w' w.heap.size 180 1 A n c (wds (List.zipWith max l1 l2)) ∧ Ext w w' := by
  have hm := h1.le
  have he : ((n : Int) != (n : Int)) = false := by simp
  obtain ⟨v, hv⟩ : ∃ v, max e1 e2 = v := ⟨_, rfl⟩
  have ve : (if e1 < e2 then e2 else e1) = v := by rw [← hv]; split <;> omega
  rw [hv]
  go_enter Tryz.func196, Tryz.ntmps196
  go_wp2
  obtain ⟨w0, hw0⟩ : ∃ w0, w0 = (((w.alloc (Obj.cells #[Value.int IntKind.u64 e1, Value.slice A1 n c1] 26)).alloc (Obj.cells #[Value.int IntKind.u64 e2, Value.slice A2 n c2] 26)).alloc
      (Obj.cells #[Value.int IntKind.u64 0, Value.slice none 0 0] 26)).alloc (Obj.cells #[Value.int IntKind.u64 v, Value.slice none 0 0] 26) := ⟨_, rfl⟩
  have x0 : Ext w w0 := hw0 ▸ ((((Ext.refl w).alloc _).alloc _).alloc _).alloc _
  have s0 : w0.heap.size = w.heap.size + 4 := by subst hw0; simp
  have b3 : w0.cell? ⟨w.heap.size, 1, none⟩ = some (Value.slice A1 n c1) := by subst hw0; go_simp
  have b4 : w0.cell? ⟨w.heap.size + 1, 1, none⟩ = some (Value.slice A2 n c2) := by subst hw0; go_simp
  have b6 : Bk w0 (w.heap.size + 1 + 1) 26 #[Value.int IntKind.u64 0, Value.slice none 0 0] := by subst hw0; exact (Bk.at (by simp)).alloc _
  have b7 : Bk w0 (w.heap.size + 1 + 1 + 1) 26 #[Value.int IntKind.u64 v, Value.slice none 0 0] := by subst hw0; exact Bk.at (by simp)
  rw [← hw0]
  clear hw0
  have S0 := Lib.hid s0
  go_loopw [7] (fun t wr => ∃ (k : Nat) (A : Option Addr) (c : Nat), k ≤ n ∧ t = .int .i64 k ∧ Below (w.heap.size + 3) w0 wr ∧ Bk wr (w.heap.size + 1 + 1 + 1) 26 #[.int .u64 v, .slice A k c] ∧ Own wr (w.heap.size + 4) 180 1 A k c (wds (List.zipWith max (l1.take k) (l2.take k))))
    (fun t _ => n - (intOf t).toNat)
  case atStart => exact ⟨0, _, _, Nat.zero_le _, rfl, Below.refl _ _, b7, by simpa [wds] using Own.nil _ _ _ _⟩
  case round =>
    obtain ⟨k, A, c, hk, rfl, hbl, hb8, hown⟩ := hrel
    have q3 := cell_below hbl b3 (by simp)
    have q4 := cell_below hbl b4 (by simp)
    by_cases hlt : k < n
    · obtain ⟨a1, ha1, hc1, k1⟩ := h1.word hlt
      obtain ⟨a2, ha2, hc2, k2⟩ := h2.word hlt
      have q8 := hb8.cell 1
      have f8 := hb8.free 1
      have d1 := cell_below hbl (x0.cell hc1) (by simp only [block_add]; omega)
      have d2 := cell_below hbl (x0.cell hc2) (by simp only [block_add]; omega)
      simp at q8
      obtain ⟨x, hx⟩ : ∃ x, l1.getD k 0 = x := ⟨_, rfl⟩
      obtain ⟨y, hy⟩ : ∃ y, l2.getD k 0 = y := ⟨_, rfl⟩
      obtain ⟨m, hm2⟩ : ∃ m, max x y = m := ⟨_, rfl⟩
      have vm : (if x < y then y else x) = m := by rw [← hm2]; split <;> omega
      rw [hx] at d1
      rw [hy] at d2
      have HM : Hid (max (l1.getD k 0) (l2.getD k 0) = m) := Lib.hid (by rw [hx, hy]; exact hm2)
      clear hc1 hc2 hx hy
      have i0 : (0 : Int) ≤ (k : Int) := Int.natCast_nonneg _
      have i1 : (k : Int) < (n : Int) := by omega
      have hsz := hbl.size
      go_wp2
      have X : Ext wr wr.drew := (Ext.refl wr).drew
      have q3' : ∀ y : Xt wr.drew, y.W.cell? ⟨w.heap.size, 1, none⟩ = some (.slice A1 n c1) := fun y => y.x.cell (X.cell q3)
      have q4' : ∀ y : Xt wr.drew, y.W.cell? ⟨w.heap.size + 1, 1, none⟩ = some (.slice A2 n c2) := fun y => y.x.cell (X.cell q4)
      have q8' : ∀ y : Xt wr.drew, y.W.cell? ⟨w.heap.size + 1 + 1 + 1, 1, none⟩ = some (.slice A k c) := fun y => y.x.cell (X.cell q8)
      have d1' : ∀ y : Xt wr.drew, y.W.cell? (a1.add k) = some (.int .u32 x) := fun y => y.x.cell (X.cell d1)
      have d2' : ∀ z : Xt wr.drew, z.W.cell? (a2.add k) = some (.int .u32 y) := fun z => z.x.cell (X.cell d2)
      refine wp_region_ord [0,1,0,4,0,28,60,0,128,0,896,1920,4092,8188,16383,32767,65535] (.flo [0,1,2,3,4,5,6,7,8,9,10,11,12] (.ext 13 (.one 14 (.flo [15] (.one 16 (.fin)))))) (by kernel_rfl) (by kernel_rfl) (by intro _ _ d _ _ h; cases d <;> exact h) ?_
      (refine ord_flo (pick_cons rfl (pick_cons rfl (pick_cons rfl (pick_cons rfl (pick_cons rfl (pick_cons rfl (pick_cons rfl (pick_cons rfl (pick_cons rfl (pick_cons rfl (pick_cons rfl (pick_cons rfl (pick_cons rfl pick_nil))))))))))))) ?_; (repeat (go_big_quiet_step (fail))); refine wpQuiet_nil ?_; show ordWalk _ _ _ _ _ _ _)
      refine ord_ext (pick_cons rfl pick_nil) ?_; intro K_ hK_
      go_wp2
      refine ordNext.mk ((Ext.refl _).alloc _) ?_
      refine ord_one (pick_cons rfl pick_nil) ?_; intro K_ hK_
      go_wp2_with (at_builtin; refine wpList_append_gen _ elemWords (w.heap.size + 4) _ _ (by rfl) (by rfl) A k c _ (by rfl) ((hown.alloc _).drew) (some ⟨wr.heap.size, 0, none⟩) 1 1 _ (by rfl) ((Sl.one wr _ _ 1 rfl).drew) (by simp [Value.oneCell']) (by omega) (by omega) (by simp; omega) ?_; intro A' c' w1 ho1 hg1 hk1)
      have b81 := Bk.grown (by exact (hb8.alloc _).drew) hg1 (hown.ne (by simp))
      have f81 := b81.free 1
      have q81 : w1.cell? ⟨w.heap.size + 1 + 1 + 1, 1, none⟩ = some (.slice A k c) := b81.cell 1
      (refine ord_flo (pick_cons rfl pick_nil) ?_; (repeat (go_big_quiet_step (fail))); refine wpQuiet_nil ?_; show ordWalk _ _ _ _ _ _ _)
      refine ord_one (pick_cons rfl pick_nil) ?_; intro K_ hK_
      go_wp2
      refine ord_fin ?_
      go_wp2
      rw [← ha1, ← ha2]
      go_roundw
      case rel =>
        refine ⟨k + 1, A', c', by omega, by go_num, ?_, ?_, ?_⟩
        · exact (((hbl.alloc (by omega) _).drew).grown hg1 (by simp; omega) (fun g hg => by have := hown.lt g hg; omega)).setCell (by simp) _
        · exact b81.set 1 _
        · refine (show Own _ _ _ _ _ _ _ _ from ?_)
          have hl1 := h1.wlen
          have hl2 := h2.wlen
          have hm9 := HM.out
          rw [take_succ_getD _ _ (by omega), take_succ_getD _ _ (by omega), List.zipWith_append (by simp; omega), ← wds_append, List.zipWith_cons_cons, List.zipWith_nil_left, hm9]
          exact (ho1.far (by rcases hk1 with e | e <;> rw [e]; exact hown.ne (by simp); simp; omega) _)
      case measure => simp [intOf]; omega
    · obtain rfl : k = n := by omega
      have r0 : wr.cell? ⟨w.heap.size + 1 + 1 + 1, 0, none⟩ = some (.int .u64 v) := hb8.cell 0
      have r1 : wr.cell? ⟨w.heap.size + 1 + 1 + 1, 1, none⟩ = some (.slice A k c) := hb8.cell 1
      have b6r := b6.below hbl (by omega)
      have r2 : wr.cell? ⟨w.heap.size + 1 + 1, 0, none⟩ = some (.int .u64 0) := b6r.cell 0
      have r3 : wr.cell? ⟨w.heap.size + 1 + 1, 1, none⟩ = some (.slice none 0 0) := b6r.cell 1
      have r4 := b6r.free 0
      have r5 := b6r.free 1
      have bb := (b6r.set 0 (.int .u64 v)).set 1 (.slice A k c)
      have q0 : ((wr.setCell ⟨w.heap.size + 1 + 1, 0, none⟩ (.int .u64 v)).setCell ⟨w.heap.size + 1 + 1, 1, none⟩ (.slice A k c)).cell? ⟨w.heap.size + 1 + 1, 0, none⟩ = some (.int .u64 v) := bb.cell 0
      have q1 : ((wr.setCell ⟨w.heap.size + 1 + 1, 0, none⟩ (.int .u64 v)).setCell ⟨w.heap.size + 1 + 1, 1, none⟩ (.slice A k c)).cell? ⟨w.heap.size + 1 + 1, 1, none⟩ = some (.slice A k c) := bb.cell 1
      go_wp2
      refine bodyPost_ret (v := .tuple #[.agg #[.int .u64 v, .slice A k c], .int .i64 0]) (by simp [results, Tryz.results196, go_sem, q0, q1]) rfl ?_
      refine ⟨A, c, rfl, ?_, ?_⟩
      · have hl1 := h1.wlen
        have hl2 := h2.wlen
        rw [List.take_of_length_le (by omega), List.take_of_length_le (by omega)] at hown
        exact ((hown.mono (by omega)).far (hown.ne (by simp)) _).far (hown.ne (by simp)) _
      · have e1 : Ext w wr := Below.trans x0 (hbl.mono (by omega))
        exact (e1.set (by simp; omega) _).set (by simp; omega) _
theorem rjoin_any (e1 e2 : Int) (A1 A2 : Option Addr) (n1 n2 c1 c2 : Nat) (l1 l2 : List Int) (w : World) (h1 : Sl w 1 A1 n1 c1 (wds l1)) (h2 : Sl w 1 A2 n2 c2 (wds l2)) (hn : n1 ≤ 1000000) :
    Calls Tryz.prog 196 #[.agg #[.int .u64 e1, .slice A1 n1 c1], .agg #[.int .u64 e2, .slice A2 n2 c2]] w (RTimeOut w (joinT e1 l1 e2 l2)) := by
  have e3 := h1.wlen
  have e4 := h2.wlen
  unfold joinT
  by_cases h : n1 = n2
  · subst h
    rw [if_pos (by omega)]
    refine (rjoin_same e1 e2 A1 A2 n1 c1 c2 l1 l2 w h1 h2 (by omega)).mono ?_
    rintro r w1 ⟨A, c, rfl, ho, x⟩
    have hz : (List.zipWith max l1 l2).length = n1 := by simp; omega
    exact ⟨A, c, by simp only [hz], by simp only [hz]; exact ho, x⟩
  · rw [if_neg (by omega)]
    refine (rjoin_diff e1 e2 A1 A2 n1 n2 c1 c2 w (by simp; omega)).mono ?_
    rintro r w1 ⟨rfl, x⟩
    exact ⟨none, 0, rfl, Own.nil _ _ _ _, x⟩
set_option maxRecDepth 100000 in
set_option maxHeartbeats 400000 in
theorem rmeet_diff (e1 e2 : Int) (A1 A2 : Option Addr) (n1 n2 c1 c2 : Nat) (w : World) (hne : ((n1 : Int) != (n2 : Int)) = true) :
    Calls Tryz.prog 197 #[.agg #[.int .u64 e1, .slice A1 n1 c1], .agg #[.int .u64 e2, .slice A2 n2 c2]] w fun e w' =>
      e = .returned (.tuple #[.agg #[.int .u64 0, .slice none 0 0], .int .i64 40]) ∧ Ext w w' := by
  go_enter Tryz.func197, Tryz.ntmps197
  go_wp2
  go_returns
  exact ⟨rfl, (((Ext.refl w).alloc _).alloc _).alloc _⟩
set_option maxRecDepth 100000 in
set_option maxHeartbeats 2000000 in
theorem rmeet_same (e1 e2 : Int) (A1 A2 : Option Addr) (n c1 c2 : Nat) (l1 l2 : List Int) (w : World) (h1 : Sl w 1 A1 n c1 (wds l1)) (h2 : Sl w 1 A2 n c2 (wds l2)) (hn : n * 4 ≤ 140737488355328) :
    Calls Tryz.prog 197 #[.agg #[.int .u64 e1, .slice A1 n c1], .agg #[.int .u64 e2, .slice A2 n c2]] w fun e w' =>
      ∃ A c, e = .returned (.tuple #[.agg #[.int .u64 (min e1 e2), .slice A n c], .int .i64 0]) ∧ Own w' w.heap.size 180 1 A n c (wds (List.zipWith min l1 l2)) ∧ Ext w w' := by
  have hm := h1.le
  have he : ((n : Int) != (n : Int)) = false := by simp
  obtain ⟨v, hv⟩ : ∃ v, min e1 e2 = v := ⟨_, rfl⟩
  have ve : (if e2 < e1 then e2 else e1) = v := by rw [← hv]; split <;> omega
  rw [hv]
  go_enter Tryz.func197, Tryz.ntmps197
  go_wp2
  obtain ⟨w0, hw0⟩ : ∃ w0, w0 = (((w.alloc (Obj.cells #[Value.int IntKind.u64 e1, Value.slice A1 n c1] 26)).alloc (Obj.cells #[Value.int IntKind.u64 e2, Value.slice A2 n c2] 26)).alloc
      (Obj.cells #[Value.int IntKind.u64 0, Value.slice none 0 0] 26)).alloc (Obj.cells #[Value.int IntKind.u64 v, Value.slice none 0 0] 26) := ⟨_, rfl⟩
  have x0 : Ext w w0 := hw0 ▸ ((((Ext.refl w).alloc _).alloc _).alloc _).alloc _
  have s0 : w0.heap.size = w.heap.size + 4 := by subst hw0; simp
  have b3 : w0.cell? ⟨w.heap.size, 1, none⟩ = some (Value.slice A1 n c1) := by subst hw0; go_simp
  have b4 : w0.cell? ⟨w.heap.size + 1, 1, none⟩ = some (Value.slice A2 n c2) := by subst hw0; go_simp
  have b6 : Bk w0 (w.heap.size + 1 + 1) 26 #[Value.int IntKind.u64 0, Value.slice none 0 0] := by subst hw0; exact (Bk.at (by simp)).alloc _
  have b7 : Bk w0 (w.heap.size + 1 + 1 + 1) 26 #[Value.int IntKind.u64 v, Value.slice none 0 0] := by subst hw0; exact Bk.at (by simp)
  rw [← hw0]
  clear hw0
  have S0 := Lib.hid s0
  go_loopw [7] (fun t wr => ∃ (k : Nat) (A : Option Addr) (c : Nat), k ≤ n ∧ t = .int .i64 k ∧ Below (w.heap.size + 3) w0 wr ∧ Bk wr (w.heap.size + 1 + 1 + 1) 26 #[.int .u64 v, .slice A k c] ∧ Own wr (w.heap.size + 4) 180 1 A k c (wds (List.zipWith min (l1.take k) (l2.take k))))
    (fun t _ => n - (intOf t).toNat)
  case atStart => exact ⟨0, _, _, Nat.zero_le _, rfl, Below.refl _ _, b7, by simpa [wds] using Own.nil _ _ _ _⟩
  case round =>
    obtain ⟨k, A, c, hk, rfl, hbl, hb8, hown⟩ := hrel
    have q3 := cell_below hbl b3 (by simp)
    have q4 := cell_below hbl b4 (by simp)
    by_cases hlt : k < n
    · obtain ⟨a1, ha1, hc1, k1⟩ := h1.word hlt
      obtain ⟨a2, ha2, hc2, k2⟩ := h2.word hlt
      have q8 := hb8.cell 1
      have f8 := hb8.free 1
      have d1 := cell_below hbl (x0.cell hc1) (by simp only [block_add]; omega)
      have d2 := cell_below hbl (x0.cell hc2) (by simp only [block_add]; omega)
      simp at q8
      obtain ⟨x, hx⟩ : ∃ x, l1.getD k 0 = x := ⟨_, rfl⟩
      obtain ⟨y, hy⟩ : ∃ y, l2.getD k 0 = y := ⟨_, rfl⟩
      obtain ⟨m, hm2⟩ : ∃ m, min x y = m := ⟨_, rfl⟩
      have vm : (if y < x then y else x) = m := by rw [← hm2]; split <;> omega
      rw [hx] at d1
      rw [hy] at d2
      have HM : Hid (min (l1.getD k 0) (l2.getD k 0) = m) := Lib.hid (by rw [hx, hy]; exact hm2)
      clear hc1 hc2 hx hy
      have i0 : (0 : Int) ≤ (k : Int) := Int.natCast_nonneg _
      have i1 : (k : Int) < (n : Int) := by omega
      have hsz := hbl.size
      go_wp2
      have X : Ext wr wr.drew := (Ext.refl wr).drew
      have q3' : ∀ y : Xt wr.drew, y.W.cell? ⟨w.heap.size, 1, none⟩ = some (.slice A1 n c1) := fun y => y.x.cell (X.cell q3)
      have q4' : ∀ y : Xt wr.drew, y.W.cell? ⟨w.heap.size + 1, 1, none⟩ = some (.slice A2 n c2) := fun y => y.x.cell (X.cell q4)
      have q8' : ∀ y : Xt wr.drew, y.W.cell? ⟨w.heap.size + 1 + 1 + 1, 1, none⟩ = some (.slice A k c) := fun y => y.x.cell (X.cell q8)
      have d1' : ∀ y : Xt wr.drew, y.W.cell? (a1.add k) = some (.int .u32 x) := fun y => y.x.cell (X.cell d1)
      have d2' : ∀ z : Xt wr.drew, z.W.cell? (a2.add k) = some (.int .u32 y) := fun z => z.x.cell (X.cell d2)
      refine wp_region_ord [0,1,0,4,0,28,60,0,128,0,896,1920,4092,8188,16383,32767,65535] (.flo [0,1,2,3,4,5,6,7,8,9,10,11,12] (.ext 13 (.one 14 (.flo [15] (.one 16 (.fin)))))) (by kernel_rfl) (by kernel_rfl) (by intro _ _ d _ _ h; cases d <;> exact h) ?_
      (refine ord_flo (pick_cons rfl (pick_cons rfl (pick_cons rfl (pick_cons rfl (pick_cons rfl (pick_cons rfl (pick_cons rfl (pick_cons rfl (pick_cons rfl (pick_cons rfl (pick_cons rfl (pick_cons rfl (pick_cons rfl pick_nil))))))))))))) ?_; (repeat (go_big_quiet_step (fail))); refine wpQuiet_nil ?_; show ordWalk _ _ _ _ _ _ _)
      refine ord_ext (pick_cons rfl pick_nil) ?_; intro K_ hK_
      go_wp2
      refine ordNext.mk ((Ext.refl _).alloc _) ?_
      refine ord_one (pick_cons rfl pick_nil) ?_; intro K_ hK_
      go_wp2_with (at_builtin; refine wpList_append_gen _ elemWords (w.heap.size + 4) _ _ (by rfl) (by rfl) A k c _ (by rfl) ((hown.alloc _).drew) (some ⟨wr.heap.size, 0, none⟩) 1 1 _ (by rfl) ((Sl.one wr _ _ 1 rfl).drew) (by simp [Value.oneCell']) (by omega) (by omega) (by simp; omega) ?_; intro A' c' w1 ho1 hg1 hk1)
      have b81 := Bk.grown (by exact (hb8.alloc _).drew) hg1 (hown.ne (by simp))
      have f81 := b81.free 1
      have q81 : w1.cell? ⟨w.heap.size + 1 + 1 + 1, 1, none⟩ = some (.slice A k c) := b81.cell 1
      (refine ord_flo (pick_cons rfl pick_nil) ?_; (repeat (go_big_quiet_step (fail))); refine wpQuiet_nil ?_; show ordWalk _ _ _ _ _ _ _)
      refine ord_one (pick_cons rfl pick_nil) ?_; intro K_ hK_
      go_wp2
      refine ord_fin ?_
      go_wp2
      rw [← ha1, ← ha2]
      go_roundw
      case rel =>
        refine ⟨k + 1, A', c', by omega, by go_num, ?_, ?_, ?_⟩
        · exact (((hbl.alloc (by omega) _).drew).grown hg1 (by simp; omega) (fun g hg => by have := hown.lt g hg; omega)).setCell (by simp) _
        · exact b81.set 1 _
        · refine (show Own _ _ _ _ _ _ _ _ from ?_)
          have hl1 := h1.wlen
          have hl2 := h2.wlen
          have hm9 := HM.out
          rw [take_succ_getD _ _ (by omega), take_succ_getD _ _ (by omega), List.zipWith_append (by simp; omega), ← wds_append, List.zipWith_cons_cons, List.zipWith_nil_left, hm9]
          exact (ho1.far (by rcases hk1 with e | e <;> rw [e]; exact hown.ne (by simp); simp; omega) _)
      case measure => simp [intOf]; omega
    · obtain rfl : k = n := by omega
      have r0 : wr.cell? ⟨w.heap.size + 1 + 1 + 1, 0, none⟩ = some (.int .u64 v) := hb8.cell 0
      have r1 : wr.cell? ⟨w.heap.size + 1 + 1 + 1, 1, none⟩ = some (.slice A k c) := hb8.cell 1
      have b6r := b6.below hbl (by omega)
      have r2 : wr.cell? ⟨w.heap.size + 1 + 1, 0, none⟩ = some (.int .u64 0) := b6r.cell 0
      have r3 : wr.cell? ⟨w.heap.size + 1 + 1, 1, none⟩ = some (.slice none 0 0) := b6r.cell 1
      have r4 := b6r.free 0
      have r5 := b6r.free 1
      have bb := (b6r.set 0 (.int .u64 v)).set 1 (.slice A k c)
      have q0 : ((wr.setCell ⟨w.heap.size + 1 + 1, 0, none⟩ (.int .u64 v)).setCell ⟨w.heap.size + 1 + 1, 1, none⟩ (.slice A k c)).cell? ⟨w.heap.size + 1 + 1, 0, none⟩ = some (.int .u64 v) := bb.cell 0
      have q1 : ((wr.setCell ⟨w.heap.size + 1 + 1, 0, none⟩ (.int .u64 v)).setCell ⟨w.heap.size + 1 + 1, 1, none⟩ (.slice A k c)).cell? ⟨w.heap.size + 1 + 1, 1, none⟩ = some (.slice A k c) := bb.cell 1
      go_wp2
      refine bodyPost_ret (v := .tuple #[.agg #[.int .u64 v, .slice A k c], .int .i64 0]) (by simp [results, Tryz.results197, go_sem, q0, q1]) rfl ?_
      refine ⟨A, c, rfl, ?_, ?_⟩
      · have hl1 := h1.wlen
        have hl2 := h2.wlen
        rw [List.take_of_length_le (by omega), List.take_of_length_le (by omega)] at hown
        exact ((hown.mono (by omega)).far (hown.ne (by simp)) _).far (hown.ne (by simp)) _
      · have e1 : Ext w wr := Below.trans x0 (hbl.mono (by omega))
        exact (e1.set (by simp; omega) _).set (by simp; omega) _
theorem rmeet_any (e1 e2 : Int) (A1 A2 : Option Addr) (n1 n2 c1 c2 : Nat) (l1 l2 : List Int) (w : World) (h1 : Sl w 1 A1 n1 c1 (wds l1)) (h2 : Sl w 1 A2 n2 c2 (wds l2)) (hn : n1 ≤ 1000000) :
    Calls Tryz.prog 197 #[.agg #[.int .u64 e1, .slice A1 n1 c1], .agg #[.int .u64 e2, .slice A2 n2 c2]] w (RTimeOut w (meetT e1 l1 e2 l2)) := by
  have e3 := h1.wlen
  have e4 := h2.wlen
  unfold meetT
  by_cases h : n1 = n2
  · subst h
    rw [if_pos (by omega)]
    refine (rmeet_same e1 e2 A1 A2 n1 c1 c2 l1 l2 w h1 h2 (by omega)).mono ?_
    rintro r w1 ⟨A, c, rfl, ho, x⟩
    have hz : (List.zipWith min l1 l2).length = n1 := by simp; omega
    exact ⟨A, c, by simp only [hz], by simp only [hz]; exact ho, x⟩
  · rw [if_neg (by omega)]
    refine (rmeet_diff e1 e2 A1 A2 n1 n2 c1 c2 w (by simp; omega)).mono ?_
    rintro r w1 ⟨rfl, x⟩
    exact ⟨none, 0, rfl, Own.nil _ _ _ _, x⟩
end Go.Proofs.YtdgbkpoickbidaaGreatDoor
namespace Go.Proofs.YtdgbkpoickbidaaGreatDoor
open Go.RowKit

theorem rjoin_ok {mx : Int} {zl : List Int} (e1 e2 : Int) (A1 A2 : Option Addr) (n c1 c2 : Nat) (l1 l2 : List Int) (w : World) (hm : Hid (max e1 e2 = mx)) (hz : Hid (List.zipWith max l1 l2 = zl)) (h1 : Hid (Sl w 1 A1 n c1 (wds l1))) (h2 : Hid (Sl w 1 A2 n c2 (wds l2))) (hn : n ≤ 100000) :
    Calls Tryz.prog 196 #[.agg #[.int .u64 e1, .slice A1 n c1], .agg #[.int .u64 e2, .slice A2 n c2]] w fun e w' =>
      ∃ A c, e = .returned (.tuple #[.agg #[.int .u64 mx, .slice A n c], .int .i64 0]) ∧ Own w' w.heap.size 180 1 A n c (wds zl) ∧ Ext w w' := by
  rw [← hm.out, ← hz.out]
  exact rjoin_same e1 e2 A1 A2 n c1 c2 l1 l2 w h1.out h2.out (by omega)
end Go.Proofs.YtdgbkpoickbidaaGreatDoor
namespace Go.Proofs.YtdgbkpoickbidaaGreatDoor
open Go.RowKit

theorem rmeet_ok {mx : Int} {zl : List Int} (e1 e2 : Int) (A1 A2 : Option Addr) (n c1 c2 : Nat) (l1 l2 : List Int) (w : World) (hm : Hid (min e1 e2 = mx)) (hz : Hid (List.zipWith min l1 l2 = zl)) (h1 : Hid (Sl w 1 A1 n c1 (wds l1))) (h2 : Hid (Sl w 1 A2 n c2 (wds l2))) (hn : n ≤ 100000) :
    Calls Tryz.prog 197 #[.agg #[.int .u64 e1, .slice A1 n c1], .agg #[.int .u64 e2, .slice A2 n c2]] w fun e w' =>
      ∃ A c, e = .returned (.tuple #[.agg #[.int .u64 mx, .slice A n c], .int .i64 0]) ∧ Own w' w.heap.size 180 1 A n c (wds zl) ∧ Ext w w' := by
  rw [← hm.out, ← hz.out]
  exact rmeet_same e1 e2 A1 A2 n c1 c2 l1 l2 w h1.out h2.out (by omega)
theorem Bk.set_ne {w : World} {g : Nat} {T : TypeId} {cs : Array Value} (h : Bk w g T cs) {p : Addr} (hp : g ≠ p.block) (u : Value) : Bk (w.setCell p u) g T cs := by
  have := (Upd.refl (fun k => k = p.block) w).setCell (p := p) (.inl rfl) u
  exact (this.block g h.lt hp).trans h
set_option maxRecDepth 100000 in
set_option maxHeartbeats 16000000 in
theorem radv5_own (AL : Option Addr) (cL m : Nat) (L : List Tm) (e : Int) (A : Option Addr) (n c : Nat) (l : List Int) (w : World) (hm : Hid (m = L.length)) (hL : Hid (Tin w AL cL L)) (fL : Hid (Fine L)) (ht : Hid (Sl w 1 A n c (wds l))) (u : U32 l) (h9 : m ≤ 1000000) (hn : n ≤ 100000) :
    Calls Tryz.prog 121 #[.slice AL m cL, .agg #[.int .u64 e, .slice A n c]] w fun r w' => ∃ A' c', r = .returned (.agg #[.int .u64 (advV (L.map Tm.v) (e, l)).1, .slice A' n c']) ∧ ((A' = A ∧ c' = c ∧ advV (L.map Tm.v) (e, l) = (e, l)) ∨ Own w' w.heap.size 180 1 A' n c' (wds (advV (L.map Tm.v) (e, l)).2)) ∧ Ext w w' := by
  have HN : Hid (n = l.length) := Lib.hid ht.out.wlen.symm
  have HU := Lib.hid u
  clear u
  go_enter Tryz.func121, Tryz.ntmps121
  go_wp2
  obtain ⟨w0, hw0⟩ : ∃ w0, w0 = ((w.alloc (Obj.cells #[Value.int IntKind.u64 e, Value.slice A n c] 26)).alloc (Obj.cells #[Value.int IntKind.u64 0, Value.slice none 0 0] 26)).alloc (Obj.cells #[Value.int IntKind.u64 e, Value.slice A n c] 26) := ⟨_, rfl⟩
  have X0 : Hid (Ext w w0) := Lib.hid (hw0 ▸ (((Ext.refl w).alloc _).alloc _).alloc _)
  have T0 : Hid (Bk w0 w.heap.size 26 #[Value.int IntKind.u64 e, Value.slice A n c]) := Lib.hid (by subst hw0; exact ((Bk.new _ _ _).alloc _).alloc _)
  have R0 : Hid (Bk w0 (w.heap.size + 1) 26 #[Value.int IntKind.u64 0, Value.slice none 0 0]) := Lib.hid (by subst hw0; exact (Bk.at (by simp)).alloc _)
  have O0 : Hid (Bk w0 (w.heap.size + 2) 26 #[Value.int IntKind.u64 e, Value.slice A n c]) := Lib.hid (by subst hw0; exact Bk.at (by simp))
  have S0 : Hid (w.heap.size + 3 ≤ w0.heap.size) := Lib.hid (by subst hw0; simp)
  rw [← hw0]
  clear hw0
  go_loopg [6, 7] m (fun z v6 v7 wr => ∃ (k : Nat) (acc : Option TV) (o : TV) (Ao : Option Addr) (co : Nat) (b : Bool), z = m - k ∧ k ≤ m ∧ v7 = .int .i64 k ∧ v6 = .bool b ∧ Hid (((L.map Tm.v).take k).foldl (advStep (e, l)) none = acc) ∧ Hid (Ext w wr) ∧ Hid (Bk wr w.heap.size 26 #[.int .u64 e, .slice A n c]) ∧ Hid (Bk wr (w.heap.size + 1) 26 #[.int .u64 0, .slice none 0 0]) ∧ Hid (Bk wr (w.heap.size + 2) 26 #[.int .u64 o.1, .slice Ao n co]) ∧ Hid (w.heap.size + 3 ≤ wr.heap.size) ∧
    ((acc = none ∧ b = true ∧ Hid (o = (e, l) ∧ Ao = A ∧ co = c)) ∨ (acc = some o ∧ b = false ∧ Hid (Own wr (w.heap.size + 3) 180 1 Ao n co (wds o.2)) ∧ Hid (U32 o.2))))
  case atStart => exact ⟨0, none, (e, l), A, c, true, rfl, Nat.zero_le _, rfl, rfl, Lib.hid rfl, X0, T0, R0, O0, S0, .inl ⟨rfl, rfl, Lib.hid ⟨rfl, rfl, rfl⟩⟩⟩
  case round =>
    clear X0 T0 R0 O0 S0
    obtain ⟨k, acc, o, Ao, co, b, rfl, hk, rfl, rfl, HF, HE, tb, rb, ob, HW2, hacc⟩ := hrel
    by_cases hlt : k < m
    · have hkL : k < L.length := by rw [← hm.out]; exact hlt
      obtain ⟨f, Ax, nx, cx, lx, ad, TX, hx, hnx⟩ := (hL.out.ext HE.out).tmAt hkL
      obtain ⟨rfl, qq0, qq1, SX⟩ := TX
      have hfx := fL.out _ (getT_mem hkL)
      rw [hx] at hfx
      have HG : Hid (U32 lx) := Lib.hid hfx.1
      have HKV := Lib.hid (map_at hkL)
      rw [hx] at HKV
      have HNX : Hid (lx.length = nx) := Lib.hid hnx.symm
      have HQ0 := Lib.hid qq0
      have HQ1 := Lib.hid qq1
      clear hx hnx hkL hfx qq0 qq1
      have XE : Ext wr wr.drew := (Ext.refl wr).drew
      have q0 : ∀ y : Xt wr.drew, y.W.cell? (ad.add (k * 2)) = some (.int .u64 f) := fun y => HQ0.out ⟨_, XE.trans y.x⟩
      have q1 : ∀ y : Xt wr.drew, y.W.cell? ⟨(ad.add (k * 2)).block, (ad.add (k * 2)).off + 1, none⟩ = some (.slice Ax nx cx) := fun y => HQ1.out ⟨_, XE.trans y.x⟩
      have p0 : ∀ y : Xt wr.drew, y.W.cell? ⟨w.heap.size, 0, none⟩ = some (.int .u64 e) := fun y => (tb.out.ext (XE.trans y.x)).cell 0
      have p1 : ∀ y : Xt wr.drew, y.W.cell? ⟨w.heap.size, 1, none⟩ = some (.slice A n c) := fun y => (tb.out.ext (XE.trans y.x)).cell 1
      by_cases hs : n = nx
      · subst hs
        obtain ⟨mx, hmx⟩ : ∃ mx, max e f = mx := ⟨_, rfl⟩
        obtain ⟨zl, hzl⟩ : ∃ zl, List.zipWith max l lx = zl := ⟨_, rfl⟩
        have HMX := Lib.hid hmx
        have HZL := Lib.hid hzl
        clear hmx hzl
        have HZU : Hid (U32 zl) := Lib.hid (HZL.out ▸ u32_max HU.out HG.out)
        have HM : Hid (maxT (e, l) (f, lx) = (mx, zl)) := Lib.hid (by show (max e f, List.zipWith max l lx) = _; rw [HMX.out, HZL.out])
        have HSM : Hid (same (e, l) (f, lx) = true) := Lib.hid (decide_eq_true (by have a := HNX.out; have b := HN.out; show l.length = lx.length; omega))
        go_upto_region 6 with fail
        refine wp_region_ord [0,0,0,6,14,31,63,127,127,0,767,2047] (.flo [0,1,2,3,4] (.both 5 9 (.flo [6,7] (.pur [8] (.ext 9 (.one 10 (.flo [11] (.fin)))))) (.ext 5 (.flo [6,7] (.pur [8] (.one 10 (.flo [11] (.fin)))))))) (by kernel_rfl) (by kernel_rfl) (by intro _ _ d _ _ h; cases d <;> exact h) ?_
        (refine ord_flo (pick_cons rfl (pick_cons rfl (pick_cons rfl (pick_cons rfl (pick_cons rfl pick_nil))))) ?_; (repeat (go_big_quiet_step (fail))); refine wpQuiet_nil ?_; show ordWalk _ _ _ _ _ _ _)
        refine ord_both (pick_cons rfl pick_nil) (pick_cons rfl pick_nil) ?_ ?_ <;> intro K_ hK_
        · go_wp2_with (go_at_call 196; go_loud (refine (rjoin_ok e f A Ax n c cx l lx _ HMX HZL (Lib.hid (ht.out.ext (HE.out.trans XE))) (SX ⟨_, XE⟩) hn).mono ?_); rintro r w3 ⟨A3, c3, rfl, o3, x3⟩)
          refine ordNext.mk x3 ?_
          (refine ord_flo (pick_cons rfl (pick_cons rfl pick_nil)) ?_; (repeat (go_big_quiet_step (fail))); refine wpQuiet_nil ?_; show ordWalk _ _ _ _ _ _ _)
          (refine ord_pur (pick_cons rfl pick_nil) ?_; (repeat (go_big_quiet_step (fail))); refine wpQuiet_nil ?_; show ordWalk _ _ _ _ _ _ _)
          refine ord_ext (pick_cons rfl pick_nil) ?_; intro K_ hK_
          go_wp2
          refine ordNext.mk ((Ext.refl _).alloc _) ?_
          have bz : Bk (w3.alloc (.cells #[.int .u64 0, .slice none 0 0] 26)) w3.heap.size 26 #[.int .u64 0, .slice none 0 0] := Bk.new _ _ _
          have d0 := bz.cell 0
          have d1 := bz.cell 1
          have d2 := bz.free 0
          have d3 := bz.free 1
          refine ord_one (pick_cons rfl pick_nil) ?_; intro K_ hK_
          go_wp2
          (refine ord_flo (pick_cons rfl pick_nil) ?_; (repeat (go_big_quiet_step (fail))); refine wpQuiet_nil ?_; show ordWalk _ _ _ _ _ _ _)
          refine ord_fin ?_
          obtain ⟨w8, hw8⟩ : ∃ w8, w8 = w3.alloc (.cells #[.int .u64 mx, .slice A3 n c3] 26) := ⟨_, rfl⟩
          have t8 : Bk w8 w3.heap.size 26 #[.int .u64 mx, .slice A3 n c3] := by subst hw8; exact Bk.new _ _ _
          have x8 : Ext wr w8 := by subst hw8; exact (XE.trans x3).alloc _
          have o8 : Own w8 wr.heap.size 180 1 A3 n c3 (wds zl) := by subst hw8; exact (o3.mono XE.size).alloc _
          rw [← hw8]
          clear hw8 bz d0 d1 d2 d3 o3 x3
          have tb8 := tb.out.ext x8
          have rb8 := rb.out.ext x8
          have ob8 := ob.out.ext x8
          have z0 := t8.cell 0
          have z1 := t8.cell 1
          have y0 := ob8.cell 0
          have y1 := ob8.cell 1
          have y2 := ob8.free 0
          have y3 := ob8.free 1
          have HT8 := Lib.hid t8
          have X8 := Lib.hid x8
          have HO8 := Lib.hid o8
          have TB := Lib.hid tb8
          have RB := Lib.hid rb8
          have OB := Lib.hid ob8
          clear t8 x8 o8 tb8 rb8 ob8
          rcases hacc with ⟨rfl, rfl, HOT⟩ | ⟨rfl, rfl, HOS, HOU⟩
          · have y4 := OB.out.set2 (.int .u64 mx) (.slice A3 n c3)
            have y5 := y4.1
            have y6 := y4.2
            clear y4
            go_wp2
            go_roundg (m - (k + 1))
            case measure => omega
            case rel =>
              have h8 := X8.out.size
              have hw2 := HW2.out
              refine ⟨k + 1, some (mx, zl), (mx, zl), A3, c3, false, by omega, by omega, by go_num, rfl, Lib.hid ?_, Lib.hid ?_, Lib.hid ?_, Lib.hid ?_, Lib.hid ?_, Lib.hid ?_, .inr ⟨rfl, rfl, Lib.hid ?_, Lib.hid HZU.out⟩⟩
              · obtain ⟨h1, h2⟩ := HKV.out
                rw [fold_take h1, HF.out, h2]
                show (if same (e, l) (f, lx) = true then some (maxT (e, l) (f, lx)) else none) = _
                rw [if_pos HSM.out, HM.out]
              · exact ((HE.out.trans X8.out).set (p := ⟨w.heap.size + 2, 0, none⟩) (by simp) _).set (p := ⟨w.heap.size + 2, 1, none⟩) (by simp) _
              · exact (TB.out.set_ne (p := ⟨w.heap.size + 2, 0, none⟩) (by simp) _).set_ne (p := ⟨w.heap.size + 2, 1, none⟩) (by simp) _
              · exact (RB.out.set_ne (p := ⟨w.heap.size + 2, 0, none⟩) (by simp) _).set_ne (p := ⟨w.heap.size + 2, 1, none⟩) (by simp) _
              · exact (OB.out.set 0 _).set 1 _
              · simp only [World.size_setCell]; omega
              · exact Own.mono ((HO8.out.far (HO8.out.ne (k := w.heap.size + 2) (by omega)) _).far (HO8.out.ne (k := w.heap.size + 2) (by omega)) _) (show w.heap.size + 3 ≤ wr.heap.size by omega)
          · obtain ⟨mn, hmn⟩ : ∃ mn, min o.1 mx = mn := ⟨_, rfl⟩
            obtain ⟨zn, hzn⟩ : ∃ zn, List.zipWith min o.2 zl = zn := ⟨_, rfl⟩
            have HMN := Lib.hid hmn
            have HZN := Lib.hid hzn
            clear hmn hzn
            have HM2 : Hid (minT o (mx, zl) = (mn, zn)) := Lib.hid (by show (min o.1 mx, List.zipWith min o.2 zl) = _; rw [HMN.out, HZN.out])
            go_wp2_with (first
              | (go_at_call 197; go_loud (refine (rmeet_ok o.1 mx Ao A3 n co c3 o.2 zl _ HMN HZN (Lib.hid (HOS.out.sl.ext X8.out)) (Lib.hid HO8.out.sl) hn).mono ?_); rintro r w5 ⟨A5, c5, rfl, o5, x5⟩; have TB := Lib.hid (TB.out.ext x5); have RB := Lib.hid (RB.out.ext x5); have OB := Lib.hid (OB.out.ext x5); have y0 := OB.out.cell 0; have y1 := OB.out.cell 1; have y2 := OB.out.free 0; have y3 := OB.out.free 1; have y4 := OB.out.set2 (.int .u64 mn) (.slice A5 n c5); have y5 := y4.1; have y6 := y4.2; clear y4; have HO5 := Lib.hid o5; have X5 := Lib.hid x5; clear o5 x5))
            go_roundg (m - (k + 1))
            case measure => omega
            case rel =>
              have h8 := X8.out.size
              have h5 := X5.out.size
              have hw2 := HW2.out
              refine ⟨k + 1, some (mn, zn), (mn, zn), A5, c5, false, by omega, by omega, by go_num, rfl, Lib.hid ?_, Lib.hid ?_, Lib.hid ?_, Lib.hid ?_, Lib.hid ?_, Lib.hid ?_, .inr ⟨rfl, rfl, Lib.hid ?_, Lib.hid (HZN.out ▸ u32_min HOU.out HZU.out)⟩⟩
              · obtain ⟨h1, h2⟩ := HKV.out
                rw [fold_take h1, HF.out, h2]
                show (if same (e, l) (f, lx) = true then some (minT o (maxT (e, l) (f, lx))) else _) = _
                rw [if_pos HSM.out, HM.out, HM2.out]
              · exact (((HE.out.trans X8.out).trans X5.out).set (p := ⟨w.heap.size + 2, 0, none⟩) (by simp) _).set (p := ⟨w.heap.size + 2, 1, none⟩) (by simp) _
              · exact (TB.out.set_ne (p := ⟨w.heap.size + 2, 0, none⟩) (by simp) _).set_ne (p := ⟨w.heap.size + 2, 1, none⟩) (by simp) _
              · exact (RB.out.set_ne (p := ⟨w.heap.size + 2, 0, none⟩) (by simp) _).set_ne (p := ⟨w.heap.size + 2, 1, none⟩) (by simp) _
              · exact (OB.out.set 0 _).set 1 _
              · simp only [World.size_setCell]; omega
              · exact Own.mono ((HO5.out.far (HO5.out.ne (k := w.heap.size + 2) (by omega)) _).far (HO5.out.ne (k := w.heap.size + 2) (by omega)) _) (show w.heap.size + 3 ≤ w8.heap.size by omega)
        · go_wp2
          refine ordNext.mk ((Ext.refl _).alloc _) ?_
          obtain ⟨w2, hw2⟩ : ∃ w2, w2 = (wr.alloc (.cells #[.int .u64 0, .slice none 0 0] 26)).drew := ⟨_, rfl⟩
          have b2 : Bk w2 wr.heap.size 26 #[.int .u64 0, .slice none 0 0] := by subst hw2; exact (Bk.new _ _ _).drew
          have x2 : Ext wr.drew w2 := by subst hw2; exact (Ext.refl wr.drew).alloc _
          rw [← hw2]
          clear hw2
          have hb2 := b2.lt
          refine ord_ext (pick_cons rfl pick_nil) ?_; intro K_ hK_
          go_wp2_with (go_at_call 196; go_loud (refine (rjoin_ok e f A Ax n c cx l lx _ HMX HZL (Lib.hid (ht.out.ext (HE.out.trans (XE.trans x2)))) (SX ⟨_, (XE.trans x2)⟩) hn).mono ?_); rintro r w3 ⟨A3, c3, rfl, o3, x3⟩)
          refine ordNext.mk x3 ?_
          have bz := b2.ext x3
          have d0 := bz.cell 0
          have d1 := bz.cell 1
          have d2 := bz.free 0
          have d3 := bz.free 1
          have d4 := bz.set2 (.int .u64 mx) (.slice A3 n c3)
          have d5 := d4.1
          have d6 := d4.2
          clear d4
          (refine ord_flo (pick_cons rfl (pick_cons rfl pick_nil)) ?_; (repeat (go_big_quiet_step (fail))); refine wpQuiet_nil ?_; show ordWalk _ _ _ _ _ _ _)
          (refine ord_pur (pick_cons rfl pick_nil) ?_; (repeat (go_big_quiet_step (fail))); refine wpQuiet_nil ?_; show ordWalk _ _ _ _ _ _ _)
          refine ord_one (pick_cons rfl pick_nil) ?_; intro K_ hK_
          go_wp2
          (refine ord_flo (pick_cons rfl pick_nil) ?_; (repeat (go_big_quiet_step (fail))); refine wpQuiet_nil ?_; show ordWalk _ _ _ _ _ _ _)
          refine ord_fin ?_
          have hgw : wr.heap.size ≤ wr.heap.size := Nat.le_refl _
          obtain ⟨w8, hw8⟩ : ∃ w8, w8 = (w3.setCell ⟨wr.heap.size, 0, none⟩ (.int .u64 mx)).setCell ⟨wr.heap.size, 1, none⟩ (.slice A3 n c3) := ⟨_, rfl⟩
          have t8 : Bk w8 wr.heap.size 26 #[.int .u64 mx, .slice A3 n c3] := by subst hw8; exact (bz.set 0 _).set 1 _
          have x8 : Ext wr w8 := by subst hw8; exact (((XE.trans x2).trans x3).set hgw _).set hgw _
          have o8 : Own w8 wr.heap.size 180 1 A3 n c3 (wds zl) := by subst hw8; exact ((o3.far (o3.ne hb2) _).far (o3.ne hb2) _).mono (Nat.le_trans XE.size x2.size)
          rw [← hw8]
          clear hw8 bz d0 d1 d2 d3 d5 d6 o3 x3 b2
          have tb8 := tb.out.ext x8
          have rb8 := rb.out.ext x8
          have ob8 := ob.out.ext x8
          have z0 := t8.cell 0
          have z1 := t8.cell 1
          have y0 := ob8.cell 0
          have y1 := ob8.cell 1
          have y2 := ob8.free 0
          have y3 := ob8.free 1
          have HT8 := Lib.hid t8
          have X8 := Lib.hid x8
          have HO8 := Lib.hid o8
          have TB := Lib.hid tb8
          have RB := Lib.hid rb8
          have OB := Lib.hid ob8
          clear t8 x8 o8 tb8 rb8 ob8
          rcases hacc with ⟨rfl, rfl, HOT⟩ | ⟨rfl, rfl, HOS, HOU⟩
          · have y4 := OB.out.set2 (.int .u64 mx) (.slice A3 n c3)
            have y5 := y4.1
            have y6 := y4.2
            clear y4
            go_wp2
            go_roundg (m - (k + 1))
            case measure => omega
            case rel =>
              have h8 := X8.out.size
              have hw2 := HW2.out
              refine ⟨k + 1, some (mx, zl), (mx, zl), A3, c3, false, by omega, by omega, by go_num, rfl, Lib.hid ?_, Lib.hid ?_, Lib.hid ?_, Lib.hid ?_, Lib.hid ?_, Lib.hid ?_, .inr ⟨rfl, rfl, Lib.hid ?_, Lib.hid HZU.out⟩⟩
              · obtain ⟨h1, h2⟩ := HKV.out
                rw [fold_take h1, HF.out, h2]
                show (if same (e, l) (f, lx) = true then some (maxT (e, l) (f, lx)) else none) = _
                rw [if_pos HSM.out, HM.out]
              · exact ((HE.out.trans X8.out).set (p := ⟨w.heap.size + 2, 0, none⟩) (by simp) _).set (p := ⟨w.heap.size + 2, 1, none⟩) (by simp) _
              · exact (TB.out.set_ne (p := ⟨w.heap.size + 2, 0, none⟩) (by simp) _).set_ne (p := ⟨w.heap.size + 2, 1, none⟩) (by simp) _
              · exact (RB.out.set_ne (p := ⟨w.heap.size + 2, 0, none⟩) (by simp) _).set_ne (p := ⟨w.heap.size + 2, 1, none⟩) (by simp) _
              · exact (OB.out.set 0 _).set 1 _
              · simp only [World.size_setCell]; omega
              · exact Own.mono ((HO8.out.far (HO8.out.ne (k := w.heap.size + 2) (by omega)) _).far (HO8.out.ne (k := w.heap.size + 2) (by omega)) _) (show w.heap.size + 3 ≤ wr.heap.size by omega)
          · obtain ⟨mn, hmn⟩ : ∃ mn, min o.1 mx = mn := ⟨_, rfl⟩
            obtain ⟨zn, hzn⟩ : ∃ zn, List.zipWith min o.2 zl = zn := ⟨_, rfl⟩
            have HMN := Lib.hid hmn
            have HZN := Lib.hid hzn
            clear hmn hzn
            have HM2 : Hid (minT o (mx, zl) = (mn, zn)) := Lib.hid (by show (min o.1 mx, List.zipWith min o.2 zl) = _; rw [HMN.out, HZN.out])
            go_wp2_with (first
              | (go_at_call 197; go_loud (refine (rmeet_ok o.1 mx Ao A3 n co c3 o.2 zl _ HMN HZN (Lib.hid (HOS.out.sl.ext X8.out)) (Lib.hid HO8.out.sl) hn).mono ?_); rintro r w5 ⟨A5, c5, rfl, o5, x5⟩; have TB := Lib.hid (TB.out.ext x5); have RB := Lib.hid (RB.out.ext x5); have OB := Lib.hid (OB.out.ext x5); have y0 := OB.out.cell 0; have y1 := OB.out.cell 1; have y2 := OB.out.free 0; have y3 := OB.out.free 1; have y4 := OB.out.set2 (.int .u64 mn) (.slice A5 n c5); have y5 := y4.1; have y6 := y4.2; clear y4; have HO5 := Lib.hid o5; have X5 := Lib.hid x5; clear o5 x5))
            go_roundg (m - (k + 1))
            case measure => omega
            case rel =>
              have h8 := X8.out.size
              have h5 := X5.out.size
              have hw2 := HW2.out
              refine ⟨k + 1, some (mn, zn), (mn, zn), A5, c5, false, by omega, by omega, by go_num, rfl, Lib.hid ?_, Lib.hid ?_, Lib.hid ?_, Lib.hid ?_, Lib.hid ?_, Lib.hid ?_, .inr ⟨rfl, rfl, Lib.hid ?_, Lib.hid (HZN.out ▸ u32_min HOU.out HZU.out)⟩⟩
              · obtain ⟨h1, h2⟩ := HKV.out
                rw [fold_take h1, HF.out, h2]
                show (if same (e, l) (f, lx) = true then some (minT o (maxT (e, l) (f, lx))) else _) = _
                rw [if_pos HSM.out, HM.out, HM2.out]
              · exact (((HE.out.trans X8.out).trans X5.out).set (p := ⟨w.heap.size + 2, 0, none⟩) (by simp) _).set (p := ⟨w.heap.size + 2, 1, none⟩) (by simp) _
              · exact (TB.out.set_ne (p := ⟨w.heap.size + 2, 0, none⟩) (by simp) _).set_ne (p := ⟨w.heap.size + 2, 1, none⟩) (by simp) _
              · exact (RB.out.set_ne (p := ⟨w.heap.size + 2, 0, none⟩) (by simp) _).set_ne (p := ⟨w.heap.size + 2, 1, none⟩) (by simp) _
              · exact (OB.out.set 0 _).set 1 _
              · simp only [World.size_setCell]; omega
              · exact Own.mono ((HO5.out.far (HO5.out.ne (k := w.heap.size + 2) (by omega)) _).far (HO5.out.ne (k := w.heap.size + 2) (by omega)) _) (show w.heap.size + 3 ≤ w8.heap.size by omega)
      · have hne : ((n : Int) != (nx : Int)) = true := by simp; omega
        have HS := Lib.hid hs
        clear hs
        go_upto_region 6 with fail
        refine wp_region_ord [0,0,0,6,14,31,63,127,127,0,767,2047] (.flo [0,1,2,3,4] (.both 5 9 (.flo [6,7] (.pur [8] (.ext 9 (.one 10 (.flo [11] (.fin)))))) (.ext 5 (.flo [6,7] (.pur [8] (.one 10 (.flo [11] (.fin)))))))) (by kernel_rfl) (by kernel_rfl) (by intro _ _ d _ _ h; cases d <;> exact h) ?_
        (refine ord_flo (pick_cons rfl (pick_cons rfl (pick_cons rfl (pick_cons rfl (pick_cons rfl pick_nil))))) ?_; (repeat (go_big_quiet_step (fail))); refine wpQuiet_nil ?_; show ordWalk _ _ _ _ _ _ _)
        refine ord_both (pick_cons rfl pick_nil) (pick_cons rfl pick_nil) ?_ ?_ <;> intro K_ hK_
        · go_wp2_with (go_at_call 196; go_loud (refine (rjoin_diff e f A Ax n nx c cx _ hne).mono ?_); rintro r w3 ⟨rfl, x3⟩)
          refine ordNext.mk x3 ?_
          (refine ord_flo (pick_cons rfl (pick_cons rfl pick_nil)) ?_; (repeat (go_big_quiet_step (fail))); refine wpQuiet_nil ?_; show ordWalk _ _ _ _ _ _ _)
          (refine ord_pur (pick_cons rfl pick_nil) ?_; (repeat (go_big_quiet_step (fail))); refine wpQuiet_nil ?_; show ordWalk _ _ _ _ _ _ _)
          refine ord_ext (pick_cons rfl pick_nil) ?_; intro K_ hK_
          go_wp2
          refine ordNext.mk ((Ext.refl _).alloc _) ?_
          have bz : Bk (w3.alloc (.cells #[.int .u64 0, .slice none 0 0] 26)) w3.heap.size 26 #[.int .u64 0, .slice none 0 0] := Bk.new _ _ _
          have d0 := bz.cell 0
          have d1 := bz.cell 1
          have d2 := bz.free 0
          have d3 := bz.free 1
          refine ord_one (pick_cons rfl pick_nil) ?_; intro K_ hK_
          go_wp2
          (refine ord_flo (pick_cons rfl pick_nil) ?_; (repeat (go_big_quiet_step (fail))); refine wpQuiet_nil ?_; show ordWalk _ _ _ _ _ _ _)
          refine ord_fin ?_
          have X8 := Lib.hid ((XE.trans x3).alloc (.cells #[.int .u64 0, .slice none 0 0] 26))
          clear bz d0 d1 d2 d3 x3
          go_wp2
          go_roundg (m - (k + 1))
          case measure => omega
          case rel =>
            refine ⟨k + 1, acc, o, Ao, co, b, by omega, by omega, by go_num, rfl, Lib.hid ?_, Lib.hid (HE.out.trans X8.out), Lib.hid (tb.out.ext X8.out), Lib.hid (rb.out.ext X8.out), Lib.hid (ob.out.ext X8.out), Lib.hid (by have := X8.out.size; have := HW2.out; omega), ?_⟩
            · obtain ⟨h1, h2⟩ := HKV.out
              rw [fold_take h1, HF.out, h2]
              unfold advStep
              rw [if_neg (by have a := HNX.out; have b := HN.out; have cc := HS.out; show ¬ same (e, l) (f, lx) = true; unfold same; rw [decide_eq_true_iff]; show ¬ l.length = lx.length; omega)]
            · rcases hacc with ⟨h1, h2, h3⟩ | ⟨h1, h2, h3, h4⟩
              · exact .inl ⟨h1, h2, Lib.hid h3.out⟩
              · exact .inr ⟨h1, h2, Lib.hid (h3.out.ext X8.out), h4⟩
        · go_wp2
          refine ordNext.mk ((Ext.refl _).alloc _) ?_
          obtain ⟨w2, hw2⟩ : ∃ w2, w2 = (wr.alloc (.cells #[.int .u64 0, .slice none 0 0] 26)).drew := ⟨_, rfl⟩
          have b2 : Bk w2 wr.heap.size 26 #[.int .u64 0, .slice none 0 0] := by subst hw2; exact (Bk.new _ _ _).drew
          have x2 : Ext wr.drew w2 := by subst hw2; exact (Ext.refl wr.drew).alloc _
          rw [← hw2]
          clear hw2
          have hb2 := b2.lt
          refine ord_ext (pick_cons rfl pick_nil) ?_; intro K_ hK_
          go_wp2_with (go_at_call 196; go_loud (refine (rjoin_diff e f A Ax n nx c cx _ hne).mono ?_); rintro r w3 ⟨rfl, x3⟩)
          refine ordNext.mk x3 ?_
          have bz := b2.ext x3
          have d0 := bz.cell 0
          have d1 := bz.cell 1
          have d2 := bz.free 0
          have d3 := bz.free 1
          have d4 := bz.set2 (.int .u64 0) (.slice none 0 0)
          have d5 := d4.1
          have d6 := d4.2
          clear d4
          (refine ord_flo (pick_cons rfl (pick_cons rfl pick_nil)) ?_; (repeat (go_big_quiet_step (fail))); refine wpQuiet_nil ?_; show ordWalk _ _ _ _ _ _ _)
          (refine ord_pur (pick_cons rfl pick_nil) ?_; (repeat (go_big_quiet_step (fail))); refine wpQuiet_nil ?_; show ordWalk _ _ _ _ _ _ _)
          refine ord_one (pick_cons rfl pick_nil) ?_; intro K_ hK_
          go_wp2
          (refine ord_flo (pick_cons rfl pick_nil) ?_; (repeat (go_big_quiet_step (fail))); refine wpQuiet_nil ?_; show ordWalk _ _ _ _ _ _ _)
          refine ord_fin ?_
          have hgw : wr.heap.size ≤ wr.heap.size := Nat.le_refl _
          have X8 := Lib.hid ((((XE.trans x2).trans x3).set (p := ⟨wr.heap.size, 0, none⟩) hgw (.int .u64 0)).set (p := ⟨wr.heap.size, 1, none⟩) hgw (.slice none 0 0))
          clear bz d0 d1 d2 d3 d5 d6 x3 b2
          go_wp2
          go_roundg (m - (k + 1))
          case measure => omega
          case rel =>
            refine ⟨k + 1, acc, o, Ao, co, b, by omega, by omega, by go_num, rfl, Lib.hid ?_, Lib.hid (HE.out.trans X8.out), Lib.hid (tb.out.ext X8.out), Lib.hid (rb.out.ext X8.out), Lib.hid (ob.out.ext X8.out), Lib.hid (by have := X8.out.size; have := HW2.out; omega), ?_⟩
            · obtain ⟨h1, h2⟩ := HKV.out
              rw [fold_take h1, HF.out, h2]
              unfold advStep
              rw [if_neg (by have a := HNX.out; have b := HN.out; have cc := HS.out; show ¬ same (e, l) (f, lx) = true; unfold same; rw [decide_eq_true_iff]; show ¬ l.length = lx.length; omega)]
            · rcases hacc with ⟨h1, h2, h3⟩ | ⟨h1, h2, h3, h4⟩
              · exact .inl ⟨h1, h2, Lib.hid h3.out⟩
              · exact .inr ⟨h1, h2, Lib.hid (h3.out.ext X8.out), h4⟩
    · obtain rfl : m = k := by omega
      have HF2 : Hid (advV (L.map Tm.v) (e, l) = o) := Lib.hid (by
        have h1 := HF.out
        rw [show m = (L.map Tm.v).length by rw [List.length_map]; exact hm.out, List.take_length] at h1
        unfold advV advO
        rw [h1]
        rcases hacc with ⟨h2, _, h3⟩ | ⟨h2, _⟩
        · rw [h2, h3.out.1]; rfl
        · rw [h2]; rfl)
      have HXE : Hid (∀ u v, Ext w ((wr.setCell ⟨w.heap.size + 1, 0, none⟩ u).setCell ⟨w.heap.size + 1, 1, none⟩ v)) := Lib.hid (fun u v => (HE.out.set (p := ⟨w.heap.size + 1, 0, none⟩) (by simp) _).set (p := ⟨w.heap.size + 1, 1, none⟩) (by simp) _)
      have HOS : Hid (∀ u v, (Ao = A ∧ co = c ∧ o = (e, l)) ∨ Own ((wr.setCell ⟨w.heap.size + 1, 0, none⟩ u).setCell ⟨w.heap.size + 1, 1, none⟩ v) w.heap.size 180 1 Ao n co (wds o.2)) := Lib.hid (fun u v => by
        rcases hacc with ⟨_, _, h3⟩ | ⟨_, _, h3, _⟩
        · obtain ⟨a1, a2, a3⟩ := h3.out
          exact .inl ⟨a2, a3, a1⟩
        · exact .inr (((h3.out.far (h3.out.ne (k := w.heap.size + 1) (by omega)) _).far (h3.out.ne (k := w.heap.size + 1) (by omega)) _).mono (by omega)))
      have z0 := ob.out.cell 0
      have z1 := ob.out.cell 1
      have z2 := rb.out.cell 0
      have z3 := rb.out.cell 1
      have z4 := rb.out.free 0
      have z5 := rb.out.free 1
      have bb := rb.out.set2 (.int .u64 o.1) (.slice Ao n co)
      have z6 := bb.1
      have z7 := bb.2
      clear hacc
      go_wp2
      refine bodyPost_ret (v := .agg #[.int .u64 o.1, .slice Ao n co]) (by simp [results, Tryz.results121, go_sem, bb.1, bb.2]) rfl ⟨Ao, co, by rw [HF2.out], ?_, ?_⟩
      · rw [HF2.out]; exact HOS.out _ _
      · exact HXE.out _ _
theorem radv5_any (AL : Option Addr) (cL m : Nat) (L : List Tm) (e : Int) (A : Option Addr) (n c : Nat) (l : List Int) (w : World) (hm : Hid (m = L.length)) (hL : Hid (Tin w AL cL L)) (fL : Hid (Fine L)) (ht : Hid (Sl w 1 A n c (wds l))) (u : U32 l) (h9 : m ≤ 1000000) (hn : n ≤ 100000) :
    Calls Tryz.prog 121 #[.slice AL m cL, .agg #[.int .u64 e, .slice A n c]] w fun r w' => ∃ A' c', r = .returned (.agg #[.int .u64 (advV (L.map Tm.v) (e, l)).1, .slice A' n c']) ∧ Sl w' 1 A' n c' (wds (advV (L.map Tm.v) (e, l)).2) ∧ Ext w w' :=
  (radv5_own AL cL m L e A n c l w hm hL fL ht u h9 hn).mono fun r w' ⟨A', c', h1, h2, h3⟩ => ⟨A', c', h1, by
    rcases h2 with ⟨rfl, rfl, h4⟩ | h2
    · rw [h4]; exact ht.out.ext h3
    · exact h2.sl, h3⟩
end Go.Proofs.YtdgbkpoickbidaaGreatDoor
