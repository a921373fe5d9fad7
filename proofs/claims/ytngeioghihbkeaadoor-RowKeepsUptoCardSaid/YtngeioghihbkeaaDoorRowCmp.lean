/- row.Cmp: what it answers of any two rows. Conditions: the rows are as readings give them. -/
import Derived.Test.YtngeioghihbkeaaDoorRowRep
namespace Go.Proofs.YtngeioghihbkeaaDoor
open Go.RowKit

/-- the order of rows -/
def cmpR : List Dat → List Dat → Int
  | [], [] => 0
  | [], _ :: _ => -1
  | _ :: _, [] => 1
  | a :: l, b :: m => if cmpD a b = 0 then cmpR l m else cmpD a b
theorem cmpR_drop {l m : List Dat} {i : Nat} (h1 : i < l.length) (h2 : i < m.length) : cmpR (l.drop i) (m.drop i) = if cmpD (l.getD i Dat.zero) (m.getD i Dat.zero) = 0 then cmpR (l.drop (i + 1)) (m.drop (i + 1)) else cmpD (l.getD i Dat.zero) (m.getD i Dat.zero) := by
  rw [List.drop_eq_getElem_cons h1, List.drop_eq_getElem_cons h2, List.getD_eq_getElem?_getD, List.getD_eq_getElem?_getD, List.getElem?_eq_getElem h1, List.getElem?_eq_getElem h2]
  rfl
theorem cmpR_end {l m : List Dat} {i : Nat} (h : l.length ≤ i) : cmpR (l.drop i) (m.drop i) = if i < m.length then -1 else 0 := by
  rw [List.drop_eq_nil_of_le h]
  by_cases h2 : i < m.length
  · rw [if_pos h2, List.drop_eq_getElem_cons h2]; rfl
  · rw [if_neg h2, List.drop_eq_nil_of_le (by omega)]; rfl
theorem cmpR_more {l m : List Dat} {i : Nat} (h1 : i < l.length) (h2 : m.length ≤ i) : cmpR (l.drop i) (m.drop i) = 1 := by
  rw [List.drop_eq_nil_of_le h2, List.drop_eq_getElem_cons h1]
  rfl
theorem cmpD_lit {v : Int} (ka na kb nb : Int) (ba bb : Bool) (sa sb : ByteArray) (w : World) (h : Hid (cmpD ⟨ka, ba, na, sa⟩ ⟨kb, bb, nb, sb⟩ = v)) :
    Calls Tryd.prog 54 #[.agg #[.int .u8 ka, .bool ba, .int .i64 na, .string sa], .agg #[.int .u8 kb, .bool bb, .int .i64 nb, .string sb]] w fun e w' => e = .returned (.int .i64 v) ∧ Ext w w' := h.out ▸ cmp_any ⟨ka, ba, na, sa⟩ ⟨kb, bb, nb, sb⟩ w
def DT_ : TypeId := 91
set_option maxRecDepth 100000 in
set_option maxHeartbeats 4000000 in
theorem compareFunc_any (A1 A2 : Option Addr) (c1 c2 n1 n2 : Nat) (l m : List Dat) (w : World) (e1 : n1 = l.length) (e2 : n2 = m.length) (h1 : Rw w A1 c1 l) (h2 : Rw w A2 c2 m) :
    Calls Tryd.prog 53 #[.slice A1 n1 c1, .slice A2 n2 c2, .func (.func 54) #[] #[]] w fun e w' => e = .returned (.int .i64 (cmpR l m)) ∧ Ext w w' := by
  have E1 := Lib.hid e1
  have E2 := Lib.hid e2
  have hl1 := h1.le
  have hl2 := h2.le
  rw [← e1] at hl1
  rw [← e2] at hl2
  have H1 := Lib.hid h1
  have H2 := Lib.hid h2
  clear e1 e2 h1 h2
  go_enter Tryd.func53, Tryd.ntmps53
  go_wp2
  go_loopw [13] (fun v wr => ∃ i : Nat, i ≤ n1 ∧ v = .int .i64 i ∧ Hid (i ≤ m.length ∧ cmpR (l.drop i) (m.drop i) = cmpR l m) ∧ Ext w wr) (fun v _ => n1 - (intOf v).toNat)
  case atStart => exact ⟨0, Nat.zero_le _, rfl, Lib.hid ⟨Nat.zero_le _, rfl⟩, Ext.refl _⟩
  case round =>
    obtain ⟨i, hi, rfl, hr, er⟩ := hrel
    have hsz := er.size
    by_cases hlt : i < n1
    · obtain ⟨a1, rfl, p0, p1, p2, p3⟩ := (H1.out.ext er).at (show i < l.length by rw [← E1.out]; exact hlt)
      obtain ⟨d, hd⟩ : ∃ d, l.getD i Dat.zero = d := ⟨_, rfl⟩
      rw [hd] at p0 p1 p2 p3
      by_cases hlt2 : i < n2
      · obtain ⟨a2, rfl, q0, q1, q2, q3⟩ := (H2.out.ext er).at (show i < m.length by rw [← E2.out]; exact hlt2)
        obtain ⟨d2, hd2⟩ : ∃ d, m.getD i Dat.zero = d := ⟨_, rfl⟩
        rw [hd2] at q0 q1 q2 q3
        obtain ⟨v, hv⟩ : ∃ v, cmpD d d2 = v := ⟨_, rfl⟩
        have HS : Hid (cmpR l m = if v = 0 then cmpR (l.drop (i + 1)) (m.drop (i + 1)) else v) := Lib.hid (by rw [← hr.out.2, cmpR_drop (by rw [← E1.out]; exact hlt) (by rw [← E2.out]; exact hlt2), hd, hd2, hv])
        have HB : Hid (i + 1 ≤ m.length) := Lib.hid (by rw [← E2.out]; exact hlt2)
        clear hd hd2 hr
        obtain ⟨ka, ba, na, sa⟩ := d
        obtain ⟨kb, bb, nb, sb⟩ := d2
        simp only at p0 p1 p2 p3 q0 q1 q2 q3
        have HV := Lib.hid hv
        clear hv
        have r0 := ((Ext.refl wr).alloc (.cells #[.int .u8 ka, .bool ba, .int .i64 na, .string sa] 91)).cell q0
        have r1 := ((Ext.refl wr).alloc (.cells #[.int .u8 ka, .bool ba, .int .i64 na, .string sa] 91)).cell q1
        have r2 := ((Ext.refl wr).alloc (.cells #[.int .u8 ka, .bool ba, .int .i64 na, .string sa] 91)).cell q2
        have r3 := ((Ext.refl wr).alloc (.cells #[.int .u8 ka, .bool ba, .int .i64 na, .string sa] 91)).cell q3
        clear q0 q1 q2 q3
        by_cases hv0 : v = 0
        · subst hv0
          go_wp2_with (go_at_call 54; refine (cmpD_lit _ _ _ _ _ _ _ _ _ HV).mono ?_; rintro e w1 ⟨rfl, x1⟩)
          go_roundw
          case rel => exact ⟨i + 1, by omega, by go_num, Lib.hid ⟨HB.out, by rw [HS.out]; simp⟩, ((er.alloc _).alloc _).trans x1⟩
          case measure => simp [intOf]; omega
        · have z : (v != 0) = true := by simpa using hv0
          have HZ := Lib.hid hv0
          clear hv0
          go_wp2_with (go_at_call 54; refine (cmpD_lit _ _ _ _ _ _ _ _ _ HV).mono ?_; rintro e w1 ⟨rfl, x1⟩)
          go_ret
          exact ⟨(by rw [HS.out, if_neg HZ.out]; rfl), ((er.alloc _).alloc _).trans x1⟩
      · have HS : Hid (cmpR l m = 1) := Lib.hid (by rw [← hr.out.2]; exact cmpR_more (by rw [← E1.out]; exact hlt) (by rw [← E2.out]; omega))
        clear hr hd
        go_wp2
        go_ret
        exact ⟨(by rw [HS.out]; rfl), er.alloc _⟩
    · have HS : Hid (cmpR l m = if i < m.length then -1 else 0) := Lib.hid (by rw [← hr.out.2]; exact cmpR_end (by rw [← E1.out]; omega))
      obtain rfl : i = n1 := by omega
      by_cases h2 : i < n2
      · have HT : Hid (cmpR l m = -1) := Lib.hid (by rw [HS.out, if_pos (by rw [← E2.out]; exact h2)])
        clear HS hr
        go_wp2
        go_ret
        exact ⟨(by rw [HT.out]; rfl), er⟩
      · have HT : Hid (cmpR l m = 0) := Lib.hid (by rw [HS.out, if_neg (by rw [← E2.out]; exact h2)])
        clear HS hr
        go_wp2
        go_ret
        exact ⟨(by rw [HT.out]; rfl), er⟩
set_option maxRecDepth 100000 in
set_option maxHeartbeats 1000000 in
theorem rowCmp_any (A1 A2 : Option Addr) (c1 c2 n1 n2 : Nat) (l m : List Dat) (w : World) (e1 : n1 = l.length) (e2 : n2 = m.length) (h1 : Rw w A1 c1 l) (h2 : Rw w A2 c2 m) :
    Calls Tryd.prog 14 #[.slice A1 n1 c1, .slice A2 n2 c2] w fun e w' => e = .returned (.int .i64 (cmpR l m)) ∧ Ext w w' := by
  have H1 := Lib.hid h1
  have H2 := Lib.hid h2
  have E1 := Lib.hid e1
  have E2 := Lib.hid e2
  clear h1 h2 e1 e2
  go_enter Tryd.func14, Tryd.ntmps14
  go_wp2_with fail
  refine (compareFunc_any A1 A2 c1 c2 n1 n2 l m w E1.out E2.out H1.out H2.out).mono ?_
  rintro e w1 ⟨rfl, x1⟩
  go_wp2
  go_ret
  exact ⟨rfl, x1⟩
end Go.Proofs.YtngeioghihbkeaaDoor
