/- penstockref00.SameRow: what it answers. Conditions: each theorem states its own. -/
import Derived.Test.YtngeioghihbkeaaGreatDoorSumAll
import Derived.Test.YtngeioghihbkeaaGreatDoorRowKnown
import Derived.Deep.LoopGhost
namespace Go.Proofs.YtngeioghihbkeaaGreatDoor
open Go.RowKit

set_option maxRecDepth 100000 in
set_option maxHeartbeats 1000000 in
theorem sameRow_any (A1 A2 : Option Addr) (c1 c2 n m : Nat) (l : List Dat) (w : World) (hn : n = l.length) (hm : m = n) (h1 : Rw w A1 c1 l) (h2 : Rw w A2 c2 l) :
    Calls Tryz.prog 8 #[.slice A1 n c1, .slice A2 m c2] w fun e w' => e = .returned (.bool true) ∧ Ext w w' := by
  subst hm
  have hnm := h1.le
  rw [← hn] at hnm
  have HN := Lib.hid hn
  have H1 := Lib.hid h1
  have H2 := Lib.hid h2
  clear hn h1 h2
  go_enter Tryz.func8, Tryz.ntmps8
  go_wp2
  go_loopw [5] (fun v wr => ∃ i : Nat, i ≤ m ∧ v = .int .i64 i ∧ Ext w wr) (fun v _ => m - (intOf v).toNat)
  case atStart => exact ⟨0, Nat.zero_le _, rfl, Ext.refl _⟩
  case round =>
    obtain ⟨i, hi, rfl, er⟩ := hrel
    by_cases hlt : i < m
    · have hil : i < l.length := by rw [← HN.out]; exact hlt
      obtain ⟨ad, rfl, p0, p1, p2, p3⟩ := (H1.out.ext er).at hil
      obtain ⟨bd, rfl, q0, q1, q2, q3⟩ := (H2.out.ext er).at hil
      obtain ⟨d, hd⟩ : ∃ d, l.getD i Dat.zero = d := ⟨_, rfl⟩
      rw [hd] at p0 p1 p2 p3 q0 q1 q2 q3
      have XE : Ext wr wr.drew := (Ext.refl wr).drew
      have P0 : ∀ z : Xt wr.drew, z.W.cell? (ad.add (i * 4)) = some (.int .u8 d.k) := fun z => (XE.trans z.x).cell p0
      have P1 : ∀ z : Xt wr.drew, z.W.cell? ⟨(ad.add (i * 4)).block, (ad.add (i * 4)).off + 1, none⟩ = some (.bool d.b) := fun z => (XE.trans z.x).cell p1
      have P2 : ∀ z : Xt wr.drew, z.W.cell? ⟨(ad.add (i * 4)).block, (ad.add (i * 4)).off + 2, none⟩ = some (.int .i64 d.n) := fun z => (XE.trans z.x).cell p2
      have P3 : ∀ z : Xt wr.drew, z.W.cell? ⟨(ad.add (i * 4)).block, (ad.add (i * 4)).off + 3, none⟩ = some (.string d.s) := fun z => (XE.trans z.x).cell p3
      have Q0 : ∀ z : Xt wr.drew, z.W.cell? (bd.add (i * 4)) = some (.int .u8 d.k) := fun z => (XE.trans z.x).cell q0
      have Q1 : ∀ z : Xt wr.drew, z.W.cell? ⟨(bd.add (i * 4)).block, (bd.add (i * 4)).off + 1, none⟩ = some (.bool d.b) := fun z => (XE.trans z.x).cell q1
      have Q2 : ∀ z : Xt wr.drew, z.W.cell? ⟨(bd.add (i * 4)).block, (bd.add (i * 4)).off + 2, none⟩ = some (.int .i64 d.n) := fun z => (XE.trans z.x).cell q2
      have Q3 : ∀ z : Xt wr.drew, z.W.cell? ⟨(bd.add (i * 4)).block, (bd.add (i * 4)).off + 3, none⟩ = some (.string d.s) := fun z => (XE.trans z.x).cell q3
      clear hil hd
      go_upto_region 6 with fail
      refine wp_region_ord [0,0,3,7,0,0,48,112,255] (.flo [0,1,2,3,4,5,6,7,8] (.fin)) (by kernel_rfl) (by kernel_rfl) (by intro _ _ d _ _ h; cases d <;> exact h) ?_
      (refine ord_flo (pick_cons rfl (pick_cons rfl (pick_cons rfl (pick_cons rfl (pick_cons rfl (pick_cons rfl (pick_cons rfl (pick_cons rfl (pick_cons rfl pick_nil))))))))) ?_; (repeat (go_big_quiet_step (fail))); refine wpQuiet_nil ?_; show ordWalk _ _ _ _ _ _ _)
      refine ord_fin ?_
      go_wp2
      go_roundw
      case rel => exact ⟨i + 1, by omega, by go_num, er.trans XE⟩
      case measure => simp [intOf]; omega
    · go_wp2
      go_ret
      exact ⟨rfl, er⟩
theorem sameRow_lit (A1 A2 : Option Addr) (c1 c2 n m : Nat) (l : List Dat) (w : World) (hn : Hid (n = l.length)) (hm : Hid (m = n)) (h1 : Hid (Rw w A1 c1 l)) (h2 : Hid (Rw w A2 c2 l)) :
    Calls Tryz.prog 8 #[.slice A1 n c1, .slice A2 m c2] w fun e w' => e = .returned (.bool true) ∧ Ext w w' := sameRow_any A1 A2 c1 c2 n m l w hn.out hm.out h1.out h2.out
end Go.Proofs.YtngeioghihbkeaaGreatDoor
