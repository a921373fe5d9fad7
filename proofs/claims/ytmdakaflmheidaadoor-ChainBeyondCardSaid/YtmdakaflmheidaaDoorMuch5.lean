/- penstocklaw05.much: are there more times than are looked at? Conditions: the list is as readings give it. -/
import Derived.Test.YtmdakaflmheidaaDoorChKit
import Derived.Test.YtmdakaflmheidaaDoorKnown5
namespace Go.Proofs.YtmdakaflmheidaaDoor
open Go.RowKit

def sumN (V : List TV) : Nat := (V.map fun v => v.2.length / 8).sum
def muchV (V : List TV) : Bool := decide (60 < V.length + sumN V)
theorem sumN_take {V : List TV} {k : Nat} (h : k < V.length) : sumN (V.take (k + 1)) = sumN (V.take k) + V[k].2.length / 8 := by
  unfold sumN
  rw [List.take_succ_eq_append_getElem h, List.map_append, List.sum_append]
  simp
theorem sumN_le (V : List TV) (k : Nat) : sumN (V.take k) ≤ sumN V := by
  have h : sumN V = sumN (V.take k) + sumN (V.drop k) := by
    unfold sumN
    rw [← List.sum_append, ← List.map_append, List.take_append_drop]
  omega
theorem sumN_mem {V : List TV} {v : TV} (h : v ∈ V) : v.2.length / 8 ≤ sumN V := by
  unfold sumN
  induction V with
  | nil => cases h
  | cons x V ih =>
    rw [List.map_cons, List.sum_cons]
    rcases List.mem_cons.1 h with rfl | h
    · omega
    · have := ih h
      omega
theorem much_small {L : List Tm} (h : muchV (L.map Tm.v) = false) : L.length ≤ 60 ∧ ∀ x ∈ L, x.l.length ≤ 487 := by
  unfold muchV at h
  rw [decide_eq_false_iff_not, List.length_map] at h
  refine ⟨by omega, fun x hx => ?_⟩
  have := sumN_mem (List.mem_map.2 ⟨x, hx, rfl⟩ : x.v ∈ L.map Tm.v)
  replace this : x.l.length / 8 ≤ _ := this
  omega
set_option maxRecDepth 100000 in
set_option maxHeartbeats 2000000 in
theorem much5_any (AL : Option Addr) (cL m : Nat) (L : List Tm) (w : World) (hm : Hid (m = L.length)) (hL : Hid (Tin w AL cL L)) :
    Calls Tryd.prog 5 #[.slice AL m cL] w fun e w' => e = .returned (.bool (muchV (L.map Tm.v))) ∧ Ext w w' := by
  have hmax : m ≤ 9223372036854775807 := by rw [hm.out]; exact hL.out.sl.le
  obtain ⟨b, hb⟩ : ∃ b, muchV (L.map Tm.v) = b := ⟨_, rfl⟩
  rw [hb]
  have HB := Lib.hid hb
  clear hb
  go_enter Tryd.func5, Tryd.ntmps5
  go_wp2
  go_loopg [3, 4] m (fun z v3 v4 wr => ∃ (k s : Nat), z = m - k ∧ k ≤ m ∧ v4 = .int .i64 k ∧ v3 = .int .i64 s ∧ Hid (s = m + sumN ((L.map Tm.v).take k)) ∧ Hid (Ext w wr) ∧ s ≤ 9223372036854775807)
  case atStart => exact ⟨0, m, rfl, Nat.zero_le _, rfl, rfl, Lib.hid (by simp [sumN]), Lib.hid (Ext.refl _), by omega⟩
  case round =>
    obtain ⟨k, s, rfl, hk, rfl, rfl, HS, HE, hs⟩ := hrel
    by_cases hlt : k < m
    · by_cases h60 : s ≤ 60
      · have hkL : k < L.length := by rw [← hm.out]; exact hlt
        obtain ⟨ad, rfl, q0, q1⟩ := (hL.out.ext HE.out).at (i := k) hkL
        have hlen := (hL.out.ls _ (getT_mem hkL)).cap
        have hkv := map_at hkL
        obtain ⟨x, hx⟩ : ∃ x, L.getD k Tm.zero = x := ⟨_, rfl⟩
        rw [hx] at q0 q1 hkv hlen
        have HKV := Lib.hid hkv
        clear hx hkv hkL
        obtain ⟨e, Ax, cx, l⟩ := x
        obtain ⟨nx, hnx⟩ : ∃ nx, l.length = nx := ⟨_, rfl⟩
        have HNX := Lib.hid hnx
        replace q1 : wr.cell? ⟨(ad.add (k * 2)).block, (ad.add (k * 2)).off + 1, none⟩ = some (.slice Ax l.length cx) := q1
        replace hlen : l.length ≤ cx ∧ cx ≤ 9223372036854775807 := hlen
        rw [hnx] at q1 hlen
        clear hnx q0
        go_wp2
        go_roundg (m - (k + 1))
        case measure => omega
        case rel =>
          obtain ⟨h1, h2⟩ := HKV.out
          have h3 := sumN_take h1
          rw [h2] at h3
          replace h3 : _ = _ + l.length / 8 := h3
          have h4 := HNX.out
          have h5 := HS.out
          exact ⟨k + 1, s + nx / 8, by omega, by omega, by go_num, by go_num, Lib.hid (by rw [h3, h4]; omega), HE, by omega⟩
      · have hgt : ((s : Int) ≤ 60) = False := by simp; omega
        have HG := Lib.hid h60
        clear h60
        go_wp2
        go_ret
        have hle := sumN_le (L.map Tm.v) k
        refine ⟨ret_bool ?_, HE.out⟩
        rw [← HB.out]
        unfold muchV
        have a := HG.out
        have c := HS.out
        have d := hm.out
        rw [eq_comm, decide_eq_decide, List.length_map]
        constructor <;> intro <;> omega
    · obtain rfl : k = m := by omega
      have HF : Hid (s = k + sumN (L.map Tm.v)) := Lib.hid (by have := HS.out; rwa [show (L.map Tm.v).take k = L.map Tm.v from List.take_of_length_le (by rw [List.length_map, hm.out]; exact Nat.le_refl _)] at this)
      go_wp2
      go_ret
      refine ⟨ret_bool ?_, HE.out⟩
      rw [← HB.out]
      unfold muchV
      have c := HF.out
      have d := hm.out
      rw [eq_comm, decide_eq_decide, List.length_map]
      constructor <;> intro <;> omega
theorem much5_at {v : Bool} (AL : Option Addr) (cL m : Nat) (L : List Tm) (w : World) (hv : Hid (muchV (L.map Tm.v) = v)) (hm : Hid (m = L.length)) (hL : Hid (Tin w AL cL L)) :
    Calls Tryd.prog 5 #[.slice AL m cL] w fun e w' => e = .returned (.bool v) ∧ Ext w w' := hv.out ▸ much5_any AL cL m L w hm hL
end Go.Proofs.YtmdakaflmheidaaDoor
