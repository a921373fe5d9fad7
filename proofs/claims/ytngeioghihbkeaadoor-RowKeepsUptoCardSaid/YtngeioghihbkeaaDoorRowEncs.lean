/- row.Encode: what it answers; bytes in memory. row.Encode; the law's order of bytes. penstockref00.SameBytes: what it answers. Conditions: each theorem states its own. -/
import Derived.Test.YtngeioghihbkeaaDoorSumAll
import Derived.Test.YtngeioghihbkeaaDoorOrd
import Derived.Deep.LoopGhost
namespace Go.Proofs.YtngeioghihbkeaaDoor
open Go.RowKit

/-- what Encode hands back -/
def EncOut (w : World) (l : List Dat) (e : Ending) (w' : World) : Prop := Ext w w' ∧ ∃ A n c, e = .returned (.tuple #[.slice A n c, .int .u16 (checkR l)]) ∧ OwnB w' w.heap.size A n c (if checkR l = 0 then keyT l else [])
set_option maxRecDepth 100000 in
set_option maxHeartbeats 1000000 in
theorem encode_any (A : Option Addr) (c n : Nat) (l : List Dat) (w : World) (e1 : Hid (n = l.length)) (h1 : Hid (Rw w A c l)) (ht : Hid (RwTxt l)) (hi : Hid (RwInt l)) (G : Good w) :
    Calls Tryd.prog 23 #[.slice A n c] w (EncOut w l) := by
  obtain ⟨v, hv⟩ : ∃ v, checkR l = v := ⟨_, rfl⟩
  have HV := Lib.hid hv
  by_cases h0 : v = 0
  · subst h0
    have HK := Lib.hid hv
    clear hv
    go_enter Tryd.func23, Tryd.ntmps23
    go_wp2_with (first
      | (go_at_call 25; refine (rowCheck_lit A c n l _ HV e1 h1 ht G).mono ?_; rintro e w1 ⟨rfl, x1⟩)
      | (go_at_call 56; refine (key_lit A c n l _ e1 (Lib.hid (h1.out.ext x1)) hi HK).mono ?_; rintro e w2 ⟨A2, n2, c2, rfl, o2, b2⟩; have O2 := Lib.hid o2; clear o2))
    go_ret2
    refine ⟨x1.trans b2, A2, n2, c2, (by rw [HV.out]; rfl), ?_⟩
    rw [if_pos HV.out]
    exact O2.out.mono x1.size
  · have z : (v != 0) = true := by simpa using h0
    have HZ := Lib.hid h0
    clear hv h0
    go_enter Tryd.func23, Tryd.ntmps23
    go_wp2_with (go_at_call 25; refine (rowCheck_lit A c n l _ HV e1 h1 ht G).mono ?_; rintro e w1 ⟨rfl, x1⟩)
    go_ret2
    refine ⟨x1, none, 0, 0, (by rw [HV.out]; rfl), ?_⟩
    rw [if_neg (by rw [HV.out]; exact HZ.out)]
    exact OwnB.nil w1 x1.size
/-- a slice of bytes, read -/
def Bs (w : World) (A : Option Addr) (c : Nat) (xs : List UInt8) : Prop := Sl w 1 A xs.length c (Lib.byteCells xs)
theorem Bs.ext {w w' : World} {A : Option Addr} {c : Nat} {xs : List UInt8} (h : Bs w A c xs) (x : Ext w w') : Bs w' A c xs := Sl.ext h x
theorem OwnB.bs {w : World} {B : Nat} {A : Option Addr} {n c : Nat} {xs : List UInt8} (h : OwnB w B A n c xs) : Bs w A c xs := by
  have := h.1.sl
  rwa [h.len] at this
theorem Bs.at {w : World} {A : Option Addr} {c : Nat} {xs : List UInt8} (h : Bs w A c xs) {i : Nat} (hi : i < xs.length) : ∃ ad, A = some ad ∧ w.cell? (ad.add i) = some (.int .u8 (xs.getD i 0).toNat) := by
  obtain ⟨ad, e, hc⟩ := h.2.2.2.2 (by omega)
  refine ⟨ad, e, hc i _ ?_⟩
  unfold Lib.byteCells
  rw [List.getElem?_map, List.getElem?_eq_getElem hi, List.getD_eq_getElem?_getD, List.getElem?_eq_getElem hi]
  rfl
end Go.Proofs.YtngeioghihbkeaaDoor
namespace Go.Proofs.YtngeioghihbkeaaDoor
open Go.RowKit

theorem lexB_drop {x y : List UInt8} {i : Nat} (h1 : i < x.length) (h2 : i < y.length) : lexB (x.drop i) (y.drop i) = if (x.getD i 0).toNat < (y.getD i 0).toNat then -1 else if (y.getD i 0).toNat < (x.getD i 0).toNat then 1 else lexB (x.drop (i + 1)) (y.drop (i + 1)) := by
  rw [List.drop_eq_getElem_cons h1, List.drop_eq_getElem_cons h2, List.getD_eq_getElem?_getD, List.getD_eq_getElem?_getD, List.getElem?_eq_getElem h1, List.getElem?_eq_getElem h2]
  rfl
theorem lexB_end {x y : List UInt8} {i : Nat} (h : x.length ≤ i) : lexB (x.drop i) (y.drop i) = if i < y.length then -1 else 0 := by
  rw [List.drop_eq_nil_of_le h]
  by_cases h2 : i < y.length
  · rw [if_pos h2, List.drop_eq_getElem_cons h2]; rfl
  · rw [if_neg h2, List.drop_eq_nil_of_le (by omega)]; rfl
theorem lexB_more {x y : List UInt8} {i : Nat} (h1 : i < x.length) (h2 : y.length ≤ i) : lexB (x.drop i) (y.drop i) = 1 := by
  rw [List.drop_eq_nil_of_le h2, List.drop_eq_getElem_cons h1]
  rfl
set_option maxRecDepth 100000 in
set_option maxHeartbeats 4000000 in
theorem lawBytes_any (v : Int) (A1 A2 : Option Addr) (c1 c2 n1 n2 : Nat) (l m : List UInt8) (w : World) (hv : Hid (lexB l m = v)) (e1 : Hid (n1 = l.length)) (e2 : Hid (n2 = m.length)) (h1 : Hid (Bs w A1 c1 l)) (h2 : Hid (Bs w A2 c2 m)) :
    Calls Tryd.prog 24 #[.slice A1 n1 c1, .slice A2 n2 c2] w fun e w' => e = .returned (.int .i64 v) ∧ Ext w w' := by
  have hl1 : n1 ≤ 9223372036854775807 := by rw [e1.out]; exact Sl.le h1.out
  have hl2 : n2 ≤ 9223372036854775807 := by rw [e2.out]; exact Sl.le h2.out
  go_enter Tryd.func24, Tryd.ntmps24
  go_wp2
  go_loopw [5] (fun u wr => ∃ i : Nat, i ≤ n1 ∧ u = .int .i64 i ∧ Hid (i ≤ m.length ∧ lexB (l.drop i) (m.drop i) = lexB l m) ∧ ∃ k, wr = w.drewN k) (fun u _ => n1 - (intOf u).toNat)
  case atStart => exact ⟨0, Nat.zero_le _, rfl, Lib.hid ⟨Nat.zero_le _, rfl⟩, 0, rfl⟩
  case round =>
    obtain ⟨i, hi, rfl, hr, k, rfl⟩ := hrel
    have er : Ext w (w.drewN k) := (Ext.refl w).drewN k
    by_cases hlt : i < n1
    · by_cases hlt2 : i < n2
      · obtain ⟨a1, rfl, p0⟩ := (h1.out.ext er).at (show i < l.length by rw [← e1.out]; exact hlt)
        obtain ⟨a2, rfl, q0⟩ := (h2.out.ext er).at (show i < m.length by rw [← e2.out]; exact hlt2)
        have HS := Lib.hid (lexB_drop (x := l) (y := m) (by rw [← e1.out]; exact hlt) (by rw [← e2.out]; exact hlt2))
        obtain ⟨x, hx⟩ : ∃ x, (l.getD i 0).toNat = x := ⟨_, rfl⟩
        obtain ⟨y, hy⟩ : ∃ y, (m.getD i 0).toNat = y := ⟨_, rfl⟩
        rw [hx] at p0 HS
        rw [hy] at q0 HS
        have HB : Hid (i + 1 ≤ m.length) := Lib.hid (by rw [← e2.out]; exact hlt2)
        clear hx hy
        have p1 : w.cell? (a1.add i) = some (.int .u8 x) := p0
        have q1 : w.cell? (a2.add i) = some (.int .u8 y) := q0
        by_cases hxy : x < y
        · have HV2 : Hid (v = -1) := Lib.hid (by rw [← hv.out, ← hr.out.2, HS.out, if_pos hxy])
          have z1 : decide ((x : Int) < (y : Int)) = true := by simp; omega
          clear hr
          go_wp2
          go_quiet (fail)
          go_wp2
          go_ret
          exact ⟨(by rw [HV2.out]; rfl), (er.drewN _)⟩
        have z1 : decide ((x : Int) < (y : Int)) = false := by simp; omega
        by_cases hyx : y < x
        · have HV2 : Hid (v = 1) := Lib.hid (by rw [← hv.out, ← hr.out.2, HS.out, if_neg hxy, if_pos hyx])
          have z2 : decide ((y : Int) < (x : Int)) = true := by simp; omega
          clear hr
          go_wp2
          go_quiet (fail)
          go_wp2
          go_quiet (fail)
          go_wp2
          go_ret
          exact ⟨(by rw [HV2.out]; rfl), (er.drewN _).drewN _⟩
        have z2 : decide ((y : Int) < (x : Int)) = false := by simp; omega
        have HN2 : Hid (lexB (l.drop (i + 1)) (m.drop (i + 1)) = lexB l m) := Lib.hid (by rw [← hr.out.2, HS.out, if_neg hxy, if_neg hyx])
        clear hr
        go_wp2
        go_quiet (fail)
        go_wp2
        go_quiet (fail)
        go_wp2
        go_roundw
        case rel => exact ⟨i + 1, by omega, by go_num, Lib.hid ⟨HB.out, HN2.out⟩, _, rfl⟩
        case measure => simp [intOf]; omega
      · have HV2 : Hid (v = 1) := Lib.hid (by rw [← hv.out, ← hr.out.2]; exact lexB_more (by rw [← e1.out]; exact hlt) (by rw [← e2.out]; omega))
        have h3 : n2 < n1 := by omega
        clear hr
        go_wp2
        go_ret
        exact ⟨(by rw [HV2.out]; rfl), er⟩
    · have HS : Hid (v = if i < m.length then -1 else 0) := Lib.hid (by rw [← hv.out, ← hr.out.2]; exact lexB_end (by rw [← e1.out]; omega))
      have HB : Hid (i ≤ m.length) := Lib.hid hr.out.1
      have hin : n1 ≤ i := by omega
      by_cases h2 : i < n2
      · have HT : Hid (v = -1) := Lib.hid (by rw [HS.out, if_pos (by rw [← e2.out]; exact h2)])
        have h3 : n1 < n2 := by omega
        clear HS hr
        go_wp2
        go_ret
        exact ⟨(by rw [HT.out]; rfl), er⟩
      · have HT : Hid (v = 0) := Lib.hid (by rw [HS.out, if_neg (by rw [← e2.out]; exact h2)])
        have h3 : ¬ n2 < n1 := by have := HB.out; rw [← e2.out] at this; omega
        have h4 : ¬ n1 < n2 := by omega
        clear HS hr
        go_wp2
        go_ret
        exact ⟨(by rw [HT.out]; rfl), er⟩
end Go.Proofs.YtngeioghihbkeaaDoor
namespace Go.Proofs.YtngeioghihbkeaaDoor
open Go.RowKit

set_option maxRecDepth 100000 in
set_option maxHeartbeats 1000000 in
theorem sameBytes_any (A1 A2 : Option Addr) (c1 c2 n m : Nat) (l : List UInt8) (w : World) (hn : n = l.length) (hm : m = n) (h1 : Bs w A1 c1 l) (h2 : Bs w A2 c2 l) :
    Calls Tryd.prog 38 #[.slice A1 n c1, .slice A2 m c2] w fun e w' => e = .returned (.bool true) ∧ Ext w w' := by
  subst hm
  have hnm : l.length ≤ 9223372036854775807 := Sl.le h1
  rw [← hn] at hnm
  have HN := Lib.hid hn
  have H1 := Lib.hid h1
  have H2 := Lib.hid h2
  clear hn h1 h2
  go_enter Tryd.func38, Tryd.ntmps38
  go_wp2
  go_loopw [5] (fun v wr => ∃ i : Nat, i ≤ m ∧ v = .int .i64 i ∧ Ext w wr) (fun v _ => m - (intOf v).toNat)
  case atStart => exact ⟨0, Nat.zero_le _, rfl, Ext.refl _⟩
  case round =>
    obtain ⟨i, hi, rfl, er⟩ := hrel
    by_cases hlt : i < m
    · have hil : i < l.length := by rw [← HN.out]; exact hlt
      obtain ⟨ad, rfl, p0⟩ := (H1.out.ext er).at hil
      obtain ⟨bd, rfl, q0⟩ := (H2.out.ext er).at hil
      obtain ⟨d, hd⟩ : ∃ d, l.getD i 0 = d := ⟨_, rfl⟩
      rw [hd] at p0 q0
      have XE : Ext wr wr.drew := (Ext.refl wr).drew
      have P0 : ∀ z : Xt wr.drew, z.W.cell? (ad.add i) = some (.int .u8 d.toNat) := fun z => (XE.trans z.x).cell p0
      have Q0 : ∀ z : Xt wr.drew, z.W.cell? (bd.add i) = some (.int .u8 d.toNat) := fun z => (XE.trans z.x).cell q0
      clear hil hd
      go_upto_region 6 with fail
      refine wp_region_ord [0,0,3,7,0,0,48,112,255] (.flo [0,1,2,3,4,5,6,7,8] (.fin)) (by kernel_rfl) (by kernel_rfl) (by intro _ _ d _ _ h; cases d <;> exact h) ?_
      (refine ord_flo (pick_cons rfl (pick_cons rfl (pick_cons rfl (pick_cons rfl (pick_cons rfl (pick_cons rfl (pick_cons rfl (pick_cons rfl (pick_cons rfl pick_nil))))))))) ?_; (repeat (go_big_quiet_step (fail))); refine wpQuiet_nil ?_; show ordWalk _ _ _ _ _ _ _)
      refine ord_fin ?_
      go_wp2
      go_roundw
      case rel => exact ⟨i + 1, by omega, by go_num, er.trans XE⟩
      case measure => simp [intOf]; omega
    · go_wp2
      go_ret
      exact ⟨rfl, er⟩
theorem sameBytes_lit (A1 A2 : Option Addr) (c1 c2 n m : Nat) (l : List UInt8) (w : World) (hn : Hid (n = l.length)) (hm : Hid (m = n)) (h1 : Hid (Bs w A1 c1 l)) (h2 : Hid (Bs w A2 c2 l)) :
    Calls Tryd.prog 38 #[.slice A1 n c1, .slice A2 m c2] w fun e w' => e = .returned (.bool true) ∧ Ext w w' := sameBytes_any A1 A2 c1 c2 n m l w hn.out hm.out h1.out h2.out
end Go.Proofs.YtngeioghihbkeaaDoor
