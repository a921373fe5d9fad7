/- RowParses: the walk. Conditions: the library's tables and errors stand. -/
import Derived.Test.YtngeioghihbkeaaGreatDoorRefPars
import Derived.Test.YtngeioghihbkeaaGreatDoorRowL
namespace Go.Proofs.YtngeioghihbkeaaGreatDoor
open Go.RowKit

theorem rowParse_lit {v : Int} {l : List Dat} {k : Nat} (s : ByteArray) (w : World) (hv : Hid (parseE s.data.toList = v)) (hl : Hid (parseL s.data.toList = l)) (hk : Hid (l.length = k)) (hs : s.size ≤ 4000000) (G : Good3 w) :
    Calls Tryz.prog 5 #[.string s] w fun e w' => ∃ A c, e = .returned (.tuple #[.slice A k c, .int .u16 v]) ∧ Rw w' A c l ∧ Ext w w' := by
  refine (rowParse_any s w (by omega) G).mono ?_
  rintro e w1 ⟨A1, c1, rfl, o1, x1⟩
  rw [hl.out] at o1
  exact ⟨A1, c1, by rw [hl.out, hv.out, hk.out], Own.sl o1, x1⟩
theorem refPars_lit {v : Int} {l : List Dat} {k : Nat} (s : ByteArray) (w : World) (hv : Hid (parseE s.data.toList = v)) (hl : Hid (parseL s.data.toList = l)) (hk : Hid (l.length = k)) (hs : s.size ≤ 4000000) :
    Calls Tryz.prog 6 #[.string s] w fun e w' => ∃ A c, e = .returned (.tuple #[.slice A k c, .int .i64 v]) ∧ Rw w' A c l ∧ Ext w w' := by
  refine (refPars_any s w hs).mono ?_
  rintro e w1 ⟨A1, c1, rfl, o1, x1⟩
  rw [hl.out] at o1
  exact ⟨A1, c1, by rw [hl.out, hv.out, hk.out], o1, x1⟩
set_option maxRecDepth 100000 in
set_option maxHeartbeats 4000000 in
theorem rparses_in (s : ByteArray) (w : World) (h4 : s.size ≤ 1048576) (G : Good3 w) :
    Calls Tryz.prog 3 #[.string s] w fun e w' => e = .returned (.bool true) ∧ Ext w w' := by
  obtain ⟨v, hv⟩ : ∃ v, parseE s.data.toList = v := ⟨_, rfl⟩
  obtain ⟨hv0, hv1⟩ : 0 ≤ v ∧ v ≤ 20 := by rw [← hv]; rcases parseE_range s.data.toList with q | q <;> rw [q] <;> decide
  obtain ⟨l, hl⟩ : ∃ l, parseL s.data.toList = l := ⟨_, rfl⟩
  obtain ⟨k, hk⟩ : ∃ k, l.length = k := ⟨_, rfl⟩
  have HV := Lib.hid hv
  have HL := Lib.hid hl
  have HK := Lib.hid hk
  have HK2 := Lib.hid hk.symm
  have m1 : True := trivial
  clear hv hl hk
  go_enter Tryz.func3, Tryz.ntmps3
  go_wp2_with (first
    | (go_at_call 5; have mk := m1; clear m1 mk; go_loud (refine (rowParse_lit s _ HV HL HK (by omega) G).mono ?_); rintro e w1 ⟨A1, c1, rfl, r1, x1⟩; have R1 := Lib.hid r1; have X1 := x1; clear r1; have m2 : True := trivial)
    | (go_at_call 6; have mk := m2; clear m2 mk; go_loud (refine (refPars_lit s _ HV HL HK (by omega)).mono ?_); rintro e w2 ⟨A2, c2, rfl, r2, x2⟩; have R2 := Lib.hid r2; have X2 := X1.trans x2; clear r2; have m3 : True := trivial)
    | (go_at_call 7; have mk := m3; clear m3 mk; go_loud (refine (known_true _ (G.ext X2).good.good).mono ?_); rintro e w3 ⟨rfl, x3⟩; have X3 := X2.trans x3; have Q1 := Lib.hid (R1.out.ext (x2.trans x3)); have Q2 := Lib.hid (R2.out.ext x3); have m4 : True := trivial)
    | (go_at_call 8; have mk := m4; clear m4 mk; go_loud (refine (sameRow_lit A1 A2 c1 c2 k k l _ HK2 (Lib.hid rfl) Q1 Q2).mono ?_); rintro e w4 ⟨rfl, x4⟩; have X4 := X3.trans x4; have m5 : True := trivial)
    | fail)
  go_ret
  exact ⟨rfl, X4⟩
set_option maxRecDepth 100000 in
set_option maxHeartbeats 400000 in
theorem rparses_out (s : ByteArray) (w : World) (h4 : 1048576 < s.size) :
    Calls Tryz.prog 3 #[.string s] w fun e w' => e = .returned (.bool true) ∧ Ext w w' := by
  go_enter Tryz.func3, Tryz.ntmps3
  go_wp2
  go_ret
  exact ⟨rfl, Ext.refl w⟩
theorem rparses_any (s : ByteArray) (w : World) (G : Good3 w) :
    Calls Tryz.prog 3 #[.string s] w fun e w' => e = .returned (.bool true) ∧ Ext w w' := by
  by_cases h : s.size ≤ 1048576
  · exact rparses_in s w h G
  · exact rparses_out s w (by omega)
end Go.Proofs.YtngeioghihbkeaaGreatDoor
