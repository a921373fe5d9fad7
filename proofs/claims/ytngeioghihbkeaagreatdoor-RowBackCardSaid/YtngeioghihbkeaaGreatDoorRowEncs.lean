/- row.Encode: what it answers; bytes in memory. penstockref00.SameBytes: what it answers. Conditions: each theorem states its own. -/
import Derived.Test.YtngeioghihbkeaaGreatDoorSumAll
import Derived.Test.YtngeioghihbkeaaGreatDoorOrd
import Derived.Deep.LoopGhost
namespace Go.Proofs.YtngeioghihbkeaaGreatDoor
open Go.RowKit

/-- what Encode hands back -/
def EncOut (w : World) (l : List Dat) (e : Ending) (w' : World) : Prop := Ext w w' ∧ ∃ A n c, e = .returned (.tuple #[.slice A n c, .int .u16 (checkR l)]) ∧ OwnB w' w.heap.size A n c (if checkR l = 0 then keyT l else [])
set_option maxRecDepth 100000 in
set_option maxHeartbeats 1000000 in
theorem encode_any (A : Option Addr) (c n : Nat) (l : List Dat) (w : World) (e1 : Hid (n = l.length)) (h1 : Hid (Rw w A c l)) (ht : Hid (RwTxt l)) (hi : Hid (RwInt l)) (G : Good w) :
    Calls Tryz.prog 9 #[.slice A n c] w (EncOut w l) := by
  obtain ⟨v, hv⟩ : ∃ v, checkR l = v := ⟨_, rfl⟩
  have HV := Lib.hid hv
  by_cases h0 : v = 0
  · subst h0
    have HK := Lib.hid hv
    clear hv
    go_enter Tryz.func9, Tryz.ntmps9
    go_wp2_with (first
      | (go_at_call 11; refine (rowCheck_lit A c n l _ HV e1 h1 ht G).mono ?_; rintro e w1 ⟨rfl, x1⟩)
      | (go_at_call 22; refine (key_lit A c n l _ e1 (Lib.hid (h1.out.ext x1)) hi HK).mono ?_; rintro e w2 ⟨A2, n2, c2, rfl, o2, b2⟩; have O2 := Lib.hid o2; clear o2))
    go_ret2
    refine ⟨x1.trans b2, A2, n2, c2, (by rw [HV.out]; rfl), ?_⟩
    rw [if_pos HV.out]
    exact O2.out.mono x1.size
  · have z : (v != 0) = true := by simpa using h0
    have HZ := Lib.hid h0
    clear hv h0
    go_enter Tryz.func9, Tryz.ntmps9
    go_wp2_with (go_at_call 11; refine (rowCheck_lit A c n l _ HV e1 h1 ht G).mono ?_; rintro e w1 ⟨rfl, x1⟩)
    go_ret2
    refine ⟨x1, none, 0, 0, (by rw [HV.out]; rfl), ?_⟩
    rw [if_neg (by rw [HV.out]; exact HZ.out)]
    exact OwnB.nil w1 x1.size
/-- a slice of bytes, read -/
def Bs (w : World) (A : Option Addr) (c : Nat) (xs : List UInt8) : Prop := Sl w 1 A xs.length c (Lib.byteCells xs)
theorem Bs.ext {w w' : World} {A : Option Addr} {c : Nat} {xs : List UInt8} (h : Bs w A c xs) (x : Ext w w') : Bs w' A c xs := Sl.ext h x
theorem OwnB.bs {w : World} {B : Nat} {A : Option Addr} {n c : Nat} {xs : List UInt8} (h : OwnB w B A n c xs) : Bs w A c xs := by
  have := h.1.sl
  rwa [h.len] at this
theorem Bs.at {w : World} {A : Option Addr} {c : Nat} {xs : List UInt8} (h : Bs w A c xs) {i : Nat} (hi : i < xs.length) : ∃ ad, A = some ad ∧ w.cell? (ad.add i) = some (.int .u8 (xs.getD i 0).toNat) := by
  obtain ⟨ad, e, hc⟩ := h.2.2.2.2 (by omega)
  refine ⟨ad, e, hc i _ ?_⟩
  unfold Lib.byteCells
  rw [List.getElem?_map, List.getElem?_eq_getElem hi, List.getD_eq_getElem?_getD, List.getElem?_eq_getElem hi]
  rfl
end Go.Proofs.YtngeioghihbkeaaGreatDoor
namespace Go.Proofs.YtngeioghihbkeaaGreatDoor
open Go.RowKit

set_option maxRecDepth 100000 in
set_option maxHeartbeats 1000000 in
theorem sameBytes_any (A1 A2 : Option Addr) (c1 c2 n m : Nat) (l : List UInt8) (w : World) (hn : n = l.length) (hm : m = n) (h1 : Bs w A1 c1 l) (h2 : Bs w A2 c2 l) :
    Calls Tryz.prog 13 #[.slice A1 n c1, .slice A2 m c2] w fun e w' => e = .returned (.bool true) ∧ Ext w w' := by
  subst hm
  have hnm : l.length ≤ 9223372036854775807 := Sl.le h1
  rw [← hn] at hnm
  have HN := Lib.hid hn
  have H1 := Lib.hid h1
  have H2 := Lib.hid h2
  clear hn h1 h2
  go_enter Tryz.func13, Tryz.ntmps13
  go_wp2
  go_loopw [5] (fun v wr => ∃ i : Nat, i ≤ m ∧ v = .int .i64 i ∧ Ext w wr) (fun v _ => m - (intOf v).toNat)
  case atStart => exact ⟨0, Nat.zero_le _, rfl, Ext.refl _⟩
  case round =>
    obtain ⟨i, hi, rfl, er⟩ := hrel
    by_cases hlt : i < m
    · have hil : i < l.length := by rw [← HN.out]; exact hlt
      obtain ⟨ad, rfl, p0⟩ := (H1.out.ext er).at hil
      obtain ⟨bd, rfl, q0⟩ := (H2.out.ext er).at hil
      obtain ⟨d, hd⟩ : ∃ d, l.getD i 0 = d := ⟨_, rfl⟩
      rw [hd] at p0 q0
      have XE : Ext wr wr.drew := (Ext.refl wr).drew
      have P0 : ∀ z : Xt wr.drew, z.W.cell? (ad.add i) = some (.int .u8 d.toNat) := fun z => (XE.trans z.x).cell p0
      have Q0 : ∀ z : Xt wr.drew, z.W.cell? (bd.add i) = some (.int .u8 d.toNat) := fun z => (XE.trans z.x).cell q0
      clear hil hd
      go_upto_region 6 with fail
      refine wp_region_ord [0,0,3,7,0,0,48,112,255] (.flo [0,1,2,3,4,5,6,7,8] (.fin)) (by kernel_rfl) (by kernel_rfl) (by intro _ _ d _ _ h; cases d <;> exact h) ?_
      (refine ord_flo (pick_cons rfl (pick_cons rfl (pick_cons rfl (pick_cons rfl (pick_cons rfl (pick_cons rfl (pick_cons rfl (pick_cons rfl (pick_cons rfl pick_nil))))))))) ?_; (repeat (go_big_quiet_step (fail))); refine wpQuiet_nil ?_; show ordWalk _ _ _ _ _ _ _)
      refine ord_fin ?_
      go_wp2
      go_roundw
      case rel => exact ⟨i + 1, by omega, by go_num, er.trans XE⟩
      case measure => simp [intOf]; omega
    · go_wp2
      go_ret
      exact ⟨rfl, er⟩
theorem sameBytes_lit (A1 A2 : Option Addr) (c1 c2 n m : Nat) (l : List UInt8) (w : World) (hn : Hid (n = l.length)) (hm : Hid (m = n)) (h1 : Hid (Bs w A1 c1 l)) (h2 : Hid (Bs w A2 c2 l)) :
    Calls Tryz.prog 13 #[.slice A1 n c1, .slice A2 m c2] w fun e w' => e = .returned (.bool true) ∧ Ext w w' := sameBytes_any A1 A2 c1 c2 n m l w hn.out hm.out h1.out h2.out
end Go.Proofs.YtngeioghihbkeaaGreatDoor
