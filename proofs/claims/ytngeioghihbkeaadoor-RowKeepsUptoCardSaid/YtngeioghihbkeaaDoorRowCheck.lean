/- row.Check: what it answers of any row. Conditions: the row is as readings give it; the library's tables stand. -/
import Derived.Test.YtngeioghihbkeaaDoorRowRep
namespace Go.Proofs.YtngeioghihbkeaaDoor
open Go.RowKit

def checkL : List Dat → Int
  | [] => 0
  | d :: l => if d.check = 0 then checkL l else d.check
def checkR (l : List Dat) : Int := if 32 < l.length then 20 else checkL l
theorem checkL_drop {l : List Dat} {i : Nat} (h : i < l.length) : checkL (l.drop i) = if (l.getD i Dat.zero).check = 0 then checkL (l.drop (i + 1)) else (l.getD i Dat.zero).check := by
  rw [List.drop_eq_getElem_cons h, List.getD_eq_getElem?_getD, List.getElem?_eq_getElem h]
  rfl
theorem checkL_ok : ∀ l : List Dat, checkL l = 0 ↔ ∀ d ∈ l, d.check = 0
  | [] => ⟨fun _ d h => (nomatch h), fun _ => rfl⟩
  | d :: l => by
    unfold checkL
    by_cases h : d.check = 0
    · rw [if_pos h, checkL_ok l]
      exact ⟨fun q x hx => (List.mem_cons.1 hx).elim (fun e => e ▸ h) (q x), fun q x hx => q x (List.mem_cons_of_mem _ hx)⟩
    · rw [if_neg h]
      exact ⟨fun q => absurd q h, fun q => absurd (q d (List.mem_cons_self ..)) h⟩
theorem checkR_ok (l : List Dat) : checkR l = 0 ↔ l.length ≤ 32 ∧ ∀ d ∈ l, d.check = 0 := by
  unfold checkR
  split
  · exact ⟨fun h => absurd h (by decide), fun h => absurd h.1 (by omega)⟩
  · rw [checkL_ok]
    exact ⟨fun h => ⟨by omega, h⟩, fun h => h.2⟩
theorem check16 (d : Dat) : d.check = 0 ∨ d.check = 12 ∨ d.check = 13 := by
  unfold Dat.check checkT
  repeat' split
  all_goals simp
theorem checkL16 : ∀ l : List Dat, checkL l = 0 ∨ checkL l = 12 ∨ checkL l = 13
  | [] => .inl rfl
  | d :: l => by
    unfold checkL
    split
    · exact checkL16 l
    · exact check16 d
theorem checkR16 (l : List Dat) : checkR l = 0 ∨ checkR l = 12 ∨ checkR l = 13 ∨ checkR l = 20 := by
  unfold checkR
  split
  · exact .inr (.inr (.inr rfl))
  · rcases checkL16 l with h | h | h
    · exact .inl h
    · exact .inr (.inl h)
    · exact .inr (.inr (.inl h))
/-- the texts of a row lie in memory -/
def RwTxt (l : List Dat) : Prop := ∀ d ∈ l, d.s.size ≤ 9223372036854775807
theorem RwTxt.at {l : List Dat} (h : RwTxt l) {i : Nat} (hi : i < l.length) : (l.getD i Dat.zero).s.size ≤ 9223372036854775807 := by
  rw [List.getD_eq_getElem?_getD, List.getElem?_eq_getElem hi]
  exact h _ (List.getElem_mem hi)
theorem checkD_lit {c : Int} (k n : Int) (b : Bool) (s : ByteArray) (w : World) (h : Hid (Dat.check ⟨k, b, n, s⟩ = c)) (hs : s.size ≤ 9223372036854775807) (G : Good w) :
    Calls Tryd.prog 63 #[.agg #[.int .u8 k, .bool b, .int .i64 n, .string s]] w fun e w' => e = .returned (.int .u16 c) ∧ Ext w w' := h.out ▸ check_any k b n s w hs G
set_option maxRecDepth 100000 in
set_option maxHeartbeats 2000000 in
theorem rowCheck_any (A : Option Addr) (c n : Nat) (l : List Dat) (w : World) (e1 : n = l.length) (h1 : Rw w A c l) (ht : RwTxt l) (G : Good w) :
    Calls Tryd.prog 25 #[.slice A n c] w fun e w' => e = .returned (.int .u16 (checkR l)) ∧ Ext w w' := by
  have E1 := Lib.hid e1
  have hl1 := h1.le
  rw [← e1] at hl1
  have H1 := Lib.hid h1
  have HT := Lib.hid ht
  clear e1 h1 ht
  by_cases h32 : 32 < n
  · have HR : Hid (checkR l = 20) := Lib.hid (by unfold checkR; rw [if_pos (by rw [← E1.out]; exact h32)])
    go_enter Tryd.func25, Tryd.ntmps25
    go_wp2
    go_ret
    exact ⟨(by rw [HR.out]; rfl), Ext.refl w⟩
  have HR : Hid (checkR l = checkL l) := Lib.hid (by unfold checkR; rw [if_neg (by rw [← E1.out]; exact h32)])
  go_enter Tryd.func25, Tryd.ntmps25
  go_wp2
  go_loopw [11] (fun v wr => ∃ i : Nat, i ≤ n ∧ v = .int .i64 i ∧ Hid (checkL (l.drop i) = checkL l) ∧ Ext w wr) (fun v _ => n - (intOf v).toNat)
  case atStart => exact ⟨0, Nat.zero_le _, rfl, Lib.hid rfl, Ext.refl _⟩
  case round =>
    obtain ⟨i, hi, rfl, hr, er⟩ := hrel
    have hsz := er.size
    by_cases hlt : i < n
    · have hil : i < l.length := by rw [← E1.out]; exact hlt
      obtain ⟨a1, rfl, p0, p1, p2, p3⟩ := (H1.out.ext er).at hil
      have hts := HT.out.at hil
      have HS0 := Lib.hid (checkL_drop hil)
      obtain ⟨d, hd⟩ : ∃ d, l.getD i Dat.zero = d := ⟨_, rfl⟩
      rw [hd] at p0 p1 p2 p3 hts HS0
      clear hil hd
      obtain ⟨v, hv⟩ : ∃ v, d.check = v := ⟨_, rfl⟩
      have HS : Hid (checkL l = if v = 0 then checkL (l.drop (i + 1)) else v) := Lib.hid (by rw [← hr.out, HS0.out, hv])
      clear HS0 hr
      obtain ⟨ka, ba, na, sa⟩ := d
      simp only at p0 p1 p2 p3 hts
      have HV := Lib.hid hv
      clear hv
      have GW := Lib.hid (G.ext (er.alloc (.cells #[.int .u8 ka, .bool ba, .int .i64 na, .string sa] 91)))
      by_cases hv0 : v = 0
      · subst hv0
        go_wp2_with (go_at_call 63; refine (checkD_lit _ _ _ _ _ HV hts GW.out).mono ?_; rintro e w1 ⟨rfl, x1⟩)
        go_roundw
        case rel => exact ⟨i + 1, by omega, by go_num, Lib.hid (by rw [HS.out]; simp), (er.alloc _).trans x1⟩
        case measure => simp [intOf]; omega
      · have z : (v != 0) = true := by simpa using hv0
        have HZ := Lib.hid hv0
        clear hv0
        go_wp2_with (go_at_call 63; refine (checkD_lit _ _ _ _ _ HV hts GW.out).mono ?_; rintro e w1 ⟨rfl, x1⟩)
        go_ret
        exact ⟨(by rw [HR.out, HS.out, if_neg HZ.out]; rfl), (er.alloc _).trans x1⟩
    · obtain rfl : i = n := by omega
      have HT2 : Hid (checkL l = 0) := Lib.hid (by rw [← hr.out, List.drop_eq_nil_of_le (by rw [← E1.out]; exact Nat.le_refl _)]; rfl)
      clear hr
      go_wp2
      go_ret
      exact ⟨(by rw [HR.out, HT2.out]; rfl), er⟩
end Go.Proofs.YtngeioghihbkeaaDoor
