/- slices.IndexFunc, ContainsFunc at times, by any predicate that makes new memory at most. Conditions: the list is as readings give it. -/
import Derived.Test.YtmdakaflmheidaaGreatDoorTms
import Derived.Test.YtmdakaflmheidaaGreatDoorEach
import Derived.Deep.LoopGhost
import Derived.Shelf.Abstract
namespace Go.Proofs.YtmdakaflmheidaaGreatDoor
open Go.RowKit

/-- what is asked of the predicate -/
def Pred (g : Nat) (lb : Array Value) (p : Tm → Bool) (L : List Tm) (w : World) : Prop := ∀ (W : World) (x : Tm), x ∈ L → Ext w W → Calls Tryz.prog g #[tmV x, lb[0]!] W fun e w' => e = .returned (.bool (p x)) ∧ Ext W w'
/-- an index, or -1 -/
def IdxOut (p : Tm → Bool) (L : List Tm) (w : World) (e : Ending) (w' : World) : Prop := ∃ r : Int, e = .returned (.int .i64 r) ∧ decide (0 ≤ r) = L.any p ∧ Ext w w'
theorem any_at {L : List Tm} {p : Tm → Bool} {k : Nat} (h : k < L.length) (hp : p (L.getD k Tm.zero) = true) : L.any p = true := List.any_eq_true.2 ⟨_, getT_mem h, hp⟩
theorem any_none {L : List Tm} {p : Tm → Bool} (h : ∀ j, j < L.length → p (L.getD j Tm.zero) = false) : L.any p = false := by
  rw [List.any_eq_false]
  intro x hx
  obtain ⟨j, hj, rfl⟩ := List.getElem_of_mem hx
  have := h j hj
  rw [List.getD_eq_getElem?_getD, List.getElem?_eq_getElem hj] at this
  simpa using this
set_option maxRecDepth 100000 in
set_option maxHeartbeats 2000000 in
theorem index_times (p : Tm → Bool) (g : Nat) (v : Value) (eg : ∀ args w, (callFunc g args).run Tryz.prog w = .ok (.enter g args) w) (AL : Option Addr) (cL m : Nat) (L : List Tm) (w : World) (hm : Hid (m = L.length)) (hL : Hid (Tin w AL cL L)) (hp : Hid (Pred g #[v] p L w)) :
    Calls Tryz.prog 76 #[.slice AL m cL, .func (.func g) #[] #[v]] w (IdxOut p L w) := by
  have hbig : m ≤ 9223372036854775807 := by rw [hm.out]; exact hL.out.sl.le
  go_enter Tryz.func76, Tryz.ntmps76
  go_wp2
  go_loopg [5, 8] m (fun gg _ s8 wr => ∃ kk : Nat, kk ≤ m ∧ m - kk ≤ gg ∧ s8 = .int .i64 kk ∧ Hid (Ext w wr) ∧ Hid (∀ j, j < kk → p (L.getD j Tm.zero) = false))
  case atStart => exact ⟨0, Nat.zero_le _, by omega, rfl, Lib.hid (Ext.refl w), Lib.hid (fun j hj => absurd hj (Nat.not_lt_zero _))⟩
  case round =>
    obtain ⟨kk, hkk, hg, rfl, BW, AF⟩ := hrel
    by_cases hlt : kk < m
    · have hltz : (kk : Int) < (m : Int) := by omega
      obtain ⟨ad, rfl, q0, q1⟩ := (hL.out.ext BW.out).at (i := kk) (by rw [← hm.out]; exact hlt)
      have hcall := hp.out wr (L.getD kk Tm.zero) (getT_mem (by rw [← hm.out]; exact hlt)) BW.out
      obtain ⟨x, hx⟩ : ∃ x, L.getD kk Tm.zero = x := ⟨_, rfl⟩
      rw [hx] at q0 q1 hcall
      have HX := Lib.hid hx
      clear hx
      unfold tmV at hcall
      cases hq : p x with
      | true =>
        rw [hq] at hcall
        have HQ := Lib.hid hq
        clear hq
        go_wp2_with (go_at_fn g; refine hcall.mono ?_; rintro e w' ⟨rfl, hb'⟩)
        go_ret
        exact ⟨_, rfl, by rw [any_at (by rw [← hm.out]; exact hlt) (by rw [HX.out]; exact HQ.out)]; simp, BW.out.trans hb'⟩
      | false =>
        rw [hq] at hcall
        have HQ := Lib.hid hq
        clear hq
        go_wp2_with (go_at_fn g; refine hcall.mono ?_; rintro e w' ⟨rfl, hb'⟩)
        go_roundg (m - (kk + 1))
        case measure => omega
        case rel =>
          refine ⟨kk + 1, by omega, by omega, by go_num, Lib.hid (BW.out.trans hb'), Lib.hid (fun j hj => ?_)⟩
          by_cases hjk : j < kk
          · exact AF.out j hjk
          · obtain rfl : j = kk := by omega
            rw [HX.out]; exact HQ.out
    · obtain rfl : kk = m := by omega
      go_wp2
      go_ret
      exact ⟨_, rfl, by rw [any_none (fun j hj => AF.out j (by rw [hm.out]; exact hj))]; rfl, BW.out⟩
set_option maxRecDepth 100000 in
set_option maxHeartbeats 600000 in
theorem contains_times (p : Tm → Bool) (g : Nat) (v : Value) (eg : ∀ args w, (callFunc g args).run Tryz.prog w = .ok (.enter g args) w) (AL : Option Addr) (cL m : Nat) (L : List Tm) (w : World) (hm : Hid (m = L.length)) (hL : Hid (Tin w AL cL L)) (hp : Hid (Pred g #[v] p L w)) :
    Calls Tryz.prog 38 #[.slice AL m cL, .func (.func g) #[] #[v]] w fun e w' => e = .returned (.bool (L.any p)) ∧ Ext w w' := by
  go_enter Tryz.func38, Tryz.ntmps38
  go_wp2_with (go_at_call 76; refine (index_times p g v eg AL cL m L _ hm hL hp).mono ?_; rintro e w1 ⟨r, rfl, hr, x1⟩; have HR := Lib.hid hr; clear hr)
  go_ret
  exact ⟨by rw [← HR.out]; rfl, x1⟩
end Go.Proofs.YtmdakaflmheidaaGreatDoor
