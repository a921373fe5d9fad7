/- RowDecodes: the walk. Conditions: the library's tables stand; the bytes are as readings give them. -/
import Derived.Test.YtngeioghihbkeaaDoorDecs
import Derived.Test.YtngeioghihbkeaaDoorBytesLent
import Derived.Test.YtngeioghihbkeaaDoorRowL
namespace Go.Proofs.YtngeioghihbkeaaDoor
open Go.RowKit

theorem decode_lit {v : Int} {l : List Dat} {k : Nat} (A : Option Addr) (c n : Nat) (xs : List UInt8) (w : World) (hv : Hid (decE xs = v)) (hl : Hid (decL xs = l)) (hk : Hid (l.length = k)) (e1 : Hid (n = xs.length)) (h1 : Hid (Bs w A c xs)) (hn : n ≤ 100000000) (G : Good w) :
    Calls Tryd.prog 29 #[.slice A n c] w fun e w' => ∃ A c, e = .returned (.tuple #[.slice A k c, .int .u16 v]) ∧ Rw w' A c l ∧ Ext w w' := by
  refine (decode_any A c n xs w e1 h1 (by rw [← e1.out]; omega) G).mono ?_
  rintro e w1 ⟨A1, c1, rfl, o1, x1⟩
  rw [hl.out] at o1
  exact ⟨A1, c1, by rw [hl.out, hv.out, hk.out], Own.sl o1, x1⟩
theorem refDec_lit {v : Int} {l : List Dat} {k : Nat} (A : Option Addr) (c n : Nat) (xs : List UInt8) (w : World) (hv : Hid (decE xs = v)) (hl : Hid (decL xs = l)) (hk : Hid (l.length = k)) (e1 : Hid (n = xs.length)) (h1 : Hid (Bs w A c xs)) (hn : n ≤ 100000000) :
    Calls Tryd.prog 30 #[.slice A n c] w fun e w' => ∃ A c, e = .returned (.tuple #[.slice A k c, .int .i64 v]) ∧ Rw w' A c l ∧ Ext w w' := by
  refine (refDec_any A c n xs w e1 h1 hn).mono ?_
  rintro e w1 ⟨A1, c1, rfl, o1, x1⟩
  rw [hl.out] at o1
  exact ⟨A1, c1, by rw [hl.out, hv.out, hk.out], o1, x1⟩
set_option maxRecDepth 100000 in
set_option maxHeartbeats 8000000 in
theorem decodes_in (A : Option Addr) (c n : Nat) (xs : List UInt8) (w : World) (e1 : Hid (n = xs.length)) (h1 : Hid (Bs w A c xs)) (h4 : n ≤ 1048576) (G : Good w) :
    Calls Tryd.prog 9 #[.slice A n c] w fun e w' => e = .returned (.bool true) ∧ Ext w w' := by
  obtain ⟨v, hv⟩ : ∃ v, decE xs = v := ⟨_, rfl⟩
  obtain ⟨hv0, hv1⟩ : 0 ≤ v ∧ v ≤ 20 := by rw [← hv]; rcases decE_range xs with q | q <;> rw [q] <;> decide
  obtain ⟨l, hl⟩ : ∃ l, decL xs = l := ⟨_, rfl⟩
  obtain ⟨k, hk⟩ : ∃ k, l.length = k := ⟨_, rfl⟩
  have HV := Lib.hid hv
  have HL := Lib.hid hl
  have HK := Lib.hid hk
  have HK2 := Lib.hid hk.symm
  have m1 : True := trivial
  clear hv hl hk
  go_enter Tryd.func9, Tryd.ntmps9
  go_wp2_with (first
    | (go_at_call 28; have mk := m1; clear m1 mk; go_loud (refine (lentBytes_any A c n xs _ e1 h1 (by omega)).mono ?_); rintro e w1 ⟨g1, rfl, _, o1, x1⟩; have R1 := Lib.hid (lentBytes_is e1.out o1); have S1 := Lib.hid (bs_left R1.out); have X1 := x1; clear o1; have m2 : True := trivial)
    | (go_at_call 29; have mk := m2; clear m2 mk; go_loud (refine (decode_lit (some ⟨g1, 0, none⟩) (n + 2) n xs _ HV HL HK e1 S1 (by omega) (G.ext X1)).mono ?_); rintro e w2 ⟨A2, c2, rfl, r2, x2⟩; have P2 := Lib.hid r2; have X2 := X1.trans x2; have B2 := Lib.hid (h1.out.ext X2); clear r2; have m3 : True := trivial)
    | (go_at_call 30; have mk := m3; clear m3 mk; go_loud (refine (refDec_lit A c n xs _ HV HL HK e1 B2 (by omega)).mono ?_); rintro e w3 ⟨A3, c3, rfl, r3, x3⟩; have P3 := Lib.hid r3; have X3 := X2.trans x3; clear r3; have m4 : True := trivial)
    | (go_at_call 13; have mk := m4; clear m4 mk; go_loud (refine (known_true _ (G.ext X3)).mono ?_); rintro e w4 ⟨rfl, x4⟩; have X4 := X3.trans x4; have Q4 := Lib.hid (P2.out.ext (x3.trans x4)); have Z4 := Lib.hid (P3.out.ext x4); have m5 : True := trivial)
    | (go_at_call 31; have mk := m5; clear m5 mk; go_loud (refine (sameRow_lit A2 A3 c2 c3 k k l _ HK2 (Lib.hid rfl) Q4 Z4).mono ?_); rintro e w5 ⟨rfl, x5⟩; have X5 := X4.trans x5; have R5 := Lib.hid (R1.out.ext (x2.trans (x3.trans (x4.trans x5)))); have B5 := Lib.hid (h1.out.ext X5); have m6 : True := trivial)
    | (go_at_call 32; have mk := m6; clear m6 mk; go_loud (refine (wholeBytes_any (some ⟨g1, 0, none⟩) A (n + 2) c n n xs _ e1 (Lib.hid rfl) (by omega) R5 B5).mono ?_); rintro e w6 ⟨rfl, x6⟩; have X6 := X5.trans x6; have m7 : True := trivial)
    | fail)
  go_ret
  exact ⟨rfl, X6⟩
set_option maxRecDepth 100000 in
set_option maxHeartbeats 400000 in
theorem decodes_out (A : Option Addr) (c n : Nat) (w : World) (h4 : 1048576 < n) (h9 : n ≤ 9223372036854775807) :
    Calls Tryd.prog 9 #[.slice A n c] w fun e w' => e = .returned (.bool true) ∧ Ext w w' := by
  go_enter Tryd.func9, Tryd.ntmps9
  go_wp2
  go_ret
  exact ⟨rfl, Ext.refl w⟩
theorem decodes_any (A : Option Addr) (c : Nat) (xs : List UInt8) (w : World) (h1 : Bs w A c xs) (G : Good w) :
    Calls Tryd.prog 9 #[.slice A xs.length c] w fun e w' => e = .returned (.bool true) ∧ Ext w w' := by
  by_cases h : xs.length ≤ 1048576
  · exact decodes_in A c xs.length xs w (Lib.hid rfl) (Lib.hid h1) h G
  · exact decodes_out A c xs.length w (by omega) (Sl.le h1)
end Go.Proofs.YtngeioghihbkeaaDoor
