/- RowBack: the walk. Conditions: the library's tables and errors stand; the row and the bytes are as readings give them. -/
import Derived.Test.YtngeioghihbkeaaGreatDoorRowParsA
import Derived.Test.YtngeioghihbkeaaGreatDoorDecs
import Derived.Test.YtngeioghihbkeaaGreatDoorRowEncs
import Derived.Test.YtngeioghihbkeaaGreatDoorRowL
namespace Go.Proofs.YtngeioghihbkeaaGreatDoor
open Go.RowKit

theorem decode_at {v : Int} {l : List Dat} {k : Nat} (A : Option Addr) (c n : Nat) (xs : List UInt8) (w : World) (hv : Hid (decE xs = v)) (hl : Hid (decL xs = l)) (hk : Hid (k = l.length)) (e1 : Hid (n = xs.length)) (h1 : Hid (Bs w A c xs)) (hn : n ≤ 100000000) (G : Good w) :
    Calls Tryz.prog 12 #[.slice A n c] w fun e w' => ∃ A c, e = .returned (.tuple #[.slice A k c, .int .u16 v]) ∧ Rw w' A c l ∧ Ext w w' := by
  refine (decode_any A c n xs w e1 h1 (by rw [← e1.out]; omega) G).mono ?_
  rintro e w1 ⟨A1, c1, rfl, o1, x1⟩
  rw [hl.out] at o1
  exact ⟨A1, c1, by rw [hl.out, hv.out, hk.out], Own.sl o1, x1⟩
theorem enc_yes {xs : List UInt8} {k : Nat} (A : Option Addr) (c n : Nat) (l : List Dat) (w : World) (hv : Hid (checkR l = 0)) (hx : Hid (keyT l = xs)) (hk : Hid (k = xs.length)) (e1 : Hid (n = l.length)) (h1 : Hid (Rw w A c l)) (ht : Hid (RwTxt l)) (hi : Hid (RwInt l)) (G : Good w) :
    Calls Tryz.prog 9 #[.slice A n c] w fun e w' => ∃ A c, e = .returned (.tuple #[.slice A k c, .int .u16 0]) ∧ Bs w' A c xs ∧ Ext w w' := by
  refine (encode_any A c n l w e1 h1 ht hi G).mono ?_
  rintro e w1 ⟨x1, A1, n1, c1, rfl, o1⟩
  rw [if_pos hv.out, hx.out] at o1
  have hn := o1.len
  exact ⟨A1, c1, by rw [hv.out, hn, hk.out], o1.bs, x1⟩
theorem enc_no {v : Int} (A : Option Addr) (c n : Nat) (l : List Dat) (w : World) (hv : Hid (checkR l = v)) (h0 : (v != 0) = true) (e1 : Hid (n = l.length)) (h1 : Hid (Rw w A c l)) (ht : Hid (RwTxt l)) (hi : Hid (RwInt l)) (G : Good w) :
    Calls Tryz.prog 9 #[.slice A n c] w fun e w' => ∃ A c, e = .returned (.tuple #[.slice A 0 c, .int .u16 v]) ∧ Ext w w' := by
  refine (encode_any A c n l w e1 h1 ht hi G).mono ?_
  rintro e w1 ⟨x1, A1, n1, c1, rfl, o1⟩
  rw [if_neg (by rw [hv.out]; simpa using h0)] at o1
  have hn := o1.len
  exact ⟨A1, c1, by rw [hv.out, hn]; rfl, x1⟩
theorem keyR_small {l : List Dat} (h : checkR l = 0) : (keyT l).length ≤ 1000000 := by
  have hc := (checkR_ok l).1 h
  have := keyT_len l (fun d hd => size_of_check' (hc.2 d hd))
  omega
set_option maxRecDepth 100000 in
set_option maxHeartbeats 400000 in
theorem rback_long (A1 A2 : Option Addr) (c1 c2 n1 n2 : Nat) (w : World) (h4 : 4000 < n1) (h9 : n1 ≤ 9223372036854775807) : Calls Tryz.prog 4 #[.slice A1 n1 c1, .slice A2 n2 c2] w fun e w' => e = .returned (.bool true) ∧ Ext w w' := by
  go_enter Tryz.func4, Tryz.ntmps4
  go_wp2
  go_ret
  exact ⟨rfl, Ext.refl w⟩
set_option maxRecDepth 100000 in
set_option maxHeartbeats 400000 in
theorem rback_much (A1 A2 : Option Addr) (c1 c2 n1 n2 : Nat) (w : World) (h4 : n1 ≤ 4000) (h5 : 1048576 < n2) (h9 : n2 ≤ 9223372036854775807) : Calls Tryz.prog 4 #[.slice A1 n1 c1, .slice A2 n2 c2] w fun e w' => e = .returned (.bool true) ∧ Ext w w' := by
  go_enter Tryz.func4, Tryz.ntmps4
  go_wp2
  go_ret
  exact ⟨rfl, Ext.refl w⟩
section
variable (A1 A2 : Option Addr) (c1 c2 n1 n2 : Nat) (l : List Dat) (xs : List UInt8) (w : World) (E1 : Hid (n1 = l.length)) (E2 : Hid (n2 = xs.length)) (H1 : Hid (Rw w A1 c1 l)) (H2 : Hid (Bs w A2 c2 xs)) (T1 : Hid (RwTxt l)) (I1 : Hid (RwInt l)) (G : Good3 w)
include E1 E2 H1 H2 T1 I1 G
set_option maxRecDepth 100000 in
set_option maxHeartbeats 8000000 in
theorem rback_yy (h4 : n1 ≤ 4000) (h5 : n2 ≤ 1048576) (p : ByteArray) (ks : List UInt8) (kx : Nat) (hkx : kx ≤ 1000000) (HU : Hid (checkR l = 0)) (HX : Hid (keyT l = ks)) (HKX : Hid (kx = ks.length)) (HP : Hid ((if checkR l = 0 then rowS l else ⟨#[]⟩) = p)) (HS : Hid (rowS l = p)) (HDE : Hid (decE ks = 0)) (HDL : Hid (decL ks = l)) (m : List Dat) (n3 : Nat) (HE : Hid (decE xs = 0)) (HL : Hid (decL xs = m)) (HM : Hid (n3 = m.length)) (HCm : Hid (checkR m = 0)) (HKm : Hid (keyT m = xs)) (TM : Hid (RwTxt m)) (IM : Hid (RwInt m)) :
    Calls Tryz.prog 4 #[.slice A1 n1 c1, .slice A2 n2 c2] w fun e w' => e = .returned (.bool true) ∧ Ext w w' := by
  have m1 : True := trivial
  go_enter Tryz.func4, Tryz.ntmps4
  go_wp2_with (first
    | (go_at_call 9; have mk := m1; clear m1 mk; go_loud (refine (enc_yes A1 c1 n1 l _ HU HX HKX E1 H1 T1 I1 G.good.good).mono ?_); rintro e w1 ⟨A3, c3, rfl, b3, x1⟩; have X1 := x1; have B := Lib.hid b3; clear b3; have S1 := Lib.hid (H1.out.ext X1); have D1 := Lib.hid (H2.out.ext X1); have m2 : True := trivial)
    | (go_at_call 10; have mk := m2; clear m2 mk; go_loud (refine (prn_at (v := 0) (q := p) A1 c1 n1 l _ HU HP E1 S1 T1 I1 (G.ext X1).good).mono ?_); rintro e w2 ⟨rfl, x2⟩; have X2 := X1.trans x2; have B := Lib.hid (B.out.ext x2); have S1 := Lib.hid (H1.out.ext X2); have D1 := Lib.hid (H2.out.ext X2); have m3 : True := trivial)
    | (go_at_call 11; have mk := m3; clear m3 mk; go_loud (refine (rowCheck_lit A1 c1 n1 l _ HU E1 S1 T1 (G.ext X2).good.good).mono ?_); rintro e w3 ⟨rfl, x3⟩; have X3 := X2.trans x3; have B := Lib.hid (B.out.ext x3); have S1 := Lib.hid (H1.out.ext X3); have D1 := Lib.hid (H2.out.ext X3); have m4 : True := trivial)
    | (go_at_call 12; have mk := m4; clear m4 mk; go_loud (refine (decode_at (v := 0) (l := l) (k := n1) A3 c3 kx ks _ HDE HDL E1 HKX B (by omega) (G.ext X3).good.good).mono ?_); rintro e w4 ⟨A4, c4, rfl, r4, x4⟩; have X4 := X3.trans x4; have Y := Lib.hid r4; clear r4; have S1 := Lib.hid (H1.out.ext X4); have D1 := Lib.hid (H2.out.ext X4); have m5 : True := trivial)
    | (go_at_call 5; have mk := m5; clear m5 mk; go_loud (refine (parse_back l n1 _ HU I1 HS E1 (G.ext X4)).mono ?_); rintro e w5 ⟨A5, c5, rfl, r5, x5⟩; have X5 := X4.trans x5; have Z := Lib.hid r5; clear r5; have Y := Lib.hid (Y.out.ext x5); have S1 := Lib.hid (H1.out.ext X5); have D1 := Lib.hid (H2.out.ext X5); have m6 : True := trivial)
    | (go_at_call 8; have mk := m6; clear m6 mk; go_loud (refine (sameRow_lit A4 A1 c4 c1 n1 n1 l _ E1 (Lib.hid rfl) Y S1).mono ?_); rintro e w6 ⟨rfl, x6⟩; have X6 := X5.trans x6; have Z := Lib.hid (Z.out.ext x6); have S1 := Lib.hid (H1.out.ext X6); have D1 := Lib.hid (H2.out.ext X6); have m7 : True := trivial)
    | (go_at_call 8; have mk := m7; clear m7 mk; go_loud (refine (sameRow_lit A5 A1 c5 c1 n1 n1 l _ E1 (Lib.hid rfl) Z S1).mono ?_); rintro e w7 ⟨rfl, x7⟩; have X7 := X6.trans x7; have S1 := Lib.hid (H1.out.ext X7); have D1 := Lib.hid (H2.out.ext X7); have m8 : True := trivial)
    | (go_at_call 12; have mk := m8; clear m8 mk; go_loud (refine (decode_at (v := 0) (l := m) (k := n3) A2 c2 n2 xs _ HE HL HM E2 D1 (by omega) (G.ext X7).good.good).mono ?_); rintro e w8 ⟨A6, c6, rfl, r6, x8⟩; have X8 := X7.trans x8; have R := Lib.hid r6; clear r6; have S1 := Lib.hid (H1.out.ext X8); have D1 := Lib.hid (H2.out.ext X8); have m9 : True := trivial)
    | (go_at_call 9; have mk := m9; clear m9 mk; go_loud (refine (enc_yes (k := n2) A6 c6 n3 m _ HCm HKm E2 HM R TM IM (G.ext X8).good.good).mono ?_); rintro e w9 ⟨A7, c7, rfl, b7, x9⟩; have X9 := X8.trans x9; have Q := Lib.hid b7; clear b7; have S1 := Lib.hid (H1.out.ext X9); have D1 := Lib.hid (H2.out.ext X9); have m10 : True := trivial)
    | (go_at_call 7; have mk := m10; clear m10 mk; go_loud (refine (known_true _ (G.ext X9).good.good).mono ?_); rintro e w10 ⟨rfl, x10⟩; have X10 := X9.trans x10; have Q := Lib.hid (Q.out.ext x10); have S1 := Lib.hid (H1.out.ext X10); have D1 := Lib.hid (H2.out.ext X10); have m11 : True := trivial)
    | (go_at_call 13; have mk := m11; clear m11 mk; go_loud (refine (sameBytes_lit A7 A2 c7 c2 n2 n2 xs _ E2 (Lib.hid rfl) Q D1).mono ?_); rintro e w11 ⟨rfl, x11⟩; have X11 := X10.trans x11; have S1 := Lib.hid (H1.out.ext X11); have D1 := Lib.hid (H2.out.ext X11); have m12 : True := trivial)
    | fail)
  go_ret
  exact ⟨rfl, X11⟩
set_option maxRecDepth 100000 in
set_option maxHeartbeats 8000000 in
theorem rback_yn (h4 : n1 ≤ 4000) (h5 : n2 ≤ 1048576) (p : ByteArray) (ks : List UInt8) (kx : Nat) (hkx : kx ≤ 1000000) (HU : Hid (checkR l = 0)) (HX : Hid (keyT l = ks)) (HKX : Hid (kx = ks.length)) (HP : Hid ((if checkR l = 0 then rowS l else ⟨#[]⟩) = p)) (HS : Hid (rowS l = p)) (HDE : Hid (decE ks = 0)) (HDL : Hid (decL ks = l)) (HE : Hid (decE xs = 20)) (HL : Hid (decL xs = [])) :
    Calls Tryz.prog 4 #[.slice A1 n1 c1, .slice A2 n2 c2] w fun e w' => e = .returned (.bool true) ∧ Ext w w' := by
  have m1 : True := trivial
  go_enter Tryz.func4, Tryz.ntmps4
  go_wp2_with (first
    | (go_at_call 9; have mk := m1; clear m1 mk; go_loud (refine (enc_yes A1 c1 n1 l _ HU HX HKX E1 H1 T1 I1 G.good.good).mono ?_); rintro e w1 ⟨A3, c3, rfl, b3, x1⟩; have X1 := x1; have B := Lib.hid b3; clear b3; have S1 := Lib.hid (H1.out.ext X1); have D1 := Lib.hid (H2.out.ext X1); have m2 : True := trivial)
    | (go_at_call 10; have mk := m2; clear m2 mk; go_loud (refine (prn_at (v := 0) (q := p) A1 c1 n1 l _ HU HP E1 S1 T1 I1 (G.ext X1).good).mono ?_); rintro e w2 ⟨rfl, x2⟩; have X2 := X1.trans x2; have B := Lib.hid (B.out.ext x2); have S1 := Lib.hid (H1.out.ext X2); have D1 := Lib.hid (H2.out.ext X2); have m3 : True := trivial)
    | (go_at_call 11; have mk := m3; clear m3 mk; go_loud (refine (rowCheck_lit A1 c1 n1 l _ HU E1 S1 T1 (G.ext X2).good.good).mono ?_); rintro e w3 ⟨rfl, x3⟩; have X3 := X2.trans x3; have B := Lib.hid (B.out.ext x3); have S1 := Lib.hid (H1.out.ext X3); have D1 := Lib.hid (H2.out.ext X3); have m4 : True := trivial)
    | (go_at_call 12; have mk := m4; clear m4 mk; go_loud (refine (decode_at (v := 0) (l := l) (k := n1) A3 c3 kx ks _ HDE HDL E1 HKX B (by omega) (G.ext X3).good.good).mono ?_); rintro e w4 ⟨A4, c4, rfl, r4, x4⟩; have X4 := X3.trans x4; have Y := Lib.hid r4; clear r4; have S1 := Lib.hid (H1.out.ext X4); have D1 := Lib.hid (H2.out.ext X4); have m5 : True := trivial)
    | (go_at_call 5; have mk := m5; clear m5 mk; go_loud (refine (parse_back l n1 _ HU I1 HS E1 (G.ext X4)).mono ?_); rintro e w5 ⟨A5, c5, rfl, r5, x5⟩; have X5 := X4.trans x5; have Z := Lib.hid r5; clear r5; have Y := Lib.hid (Y.out.ext x5); have S1 := Lib.hid (H1.out.ext X5); have D1 := Lib.hid (H2.out.ext X5); have m6 : True := trivial)
    | (go_at_call 8; have mk := m6; clear m6 mk; go_loud (refine (sameRow_lit A4 A1 c4 c1 n1 n1 l _ E1 (Lib.hid rfl) Y S1).mono ?_); rintro e w6 ⟨rfl, x6⟩; have X6 := X5.trans x6; have Z := Lib.hid (Z.out.ext x6); have S1 := Lib.hid (H1.out.ext X6); have D1 := Lib.hid (H2.out.ext X6); have m7 : True := trivial)
    | (go_at_call 8; have mk := m7; clear m7 mk; go_loud (refine (sameRow_lit A5 A1 c5 c1 n1 n1 l _ E1 (Lib.hid rfl) Z S1).mono ?_); rintro e w7 ⟨rfl, x7⟩; have X7 := X6.trans x7; have S1 := Lib.hid (H1.out.ext X7); have D1 := Lib.hid (H2.out.ext X7); have m8 : True := trivial)
    | (go_at_call 12; have mk := m8; clear m8 mk; go_loud (refine (decode_at (v := 20) (l := []) (k := 0) A2 c2 n2 xs _ HE HL (Lib.hid rfl) E2 D1 (by omega) (G.ext X7).good.good).mono ?_); rintro e w8 ⟨A6, c6, rfl, r6, x8⟩; have X8 := X7.trans x8; have S1 := Lib.hid (H1.out.ext X8); have D1 := Lib.hid (H2.out.ext X8); have m9 : True := trivial)
    | (go_at_call 7; have mk := m9; clear m9 mk; go_loud (refine (known_true _ (G.ext X8).good.good).mono ?_); rintro e w9 ⟨rfl, x9⟩; have X9 := X8.trans x9; have S1 := Lib.hid (H1.out.ext X9); have D1 := Lib.hid (H2.out.ext X9); have m10 : True := trivial)
    | fail)
  go_ret
  exact ⟨rfl, X9⟩
set_option maxRecDepth 100000 in
set_option maxHeartbeats 8000000 in
theorem rback_ny (h4 : n1 ≤ 4000) (h5 : n2 ≤ 1048576) (u : Int) (hu : (u != 0) = true) (HU : Hid (checkR l = u)) (HP : Hid ((if checkR l = 0 then rowS l else ⟨#[]⟩) = ⟨#[]⟩)) (m : List Dat) (n3 : Nat) (HE : Hid (decE xs = 0)) (HL : Hid (decL xs = m)) (HM : Hid (n3 = m.length)) (HCm : Hid (checkR m = 0)) (HKm : Hid (keyT m = xs)) (TM : Hid (RwTxt m)) (IM : Hid (RwInt m)) :
    Calls Tryz.prog 4 #[.slice A1 n1 c1, .slice A2 n2 c2] w fun e w' => e = .returned (.bool true) ∧ Ext w w' := by
  have hu2 : (u == 0) = false := by simpa using hu
  have m1 : True := trivial
  go_enter Tryz.func4, Tryz.ntmps4
  go_wp2_with (first
    | (go_at_call 9; have mk := m1; clear m1 mk; go_loud (refine (enc_no (v := u) A1 c1 n1 l _ HU hu E1 H1 T1 I1 G.good.good).mono ?_); rintro e w1 ⟨A3, c3, rfl, x1⟩; have X1 := x1; have S1 := Lib.hid (H1.out.ext X1); have D1 := Lib.hid (H2.out.ext X1); have m2 : True := trivial)
    | (go_at_call 10; have mk := m2; clear m2 mk; go_loud (refine (prn_at (v := u) (q := ⟨#[]⟩) A1 c1 n1 l _ HU HP E1 S1 T1 I1 (G.ext X1).good).mono ?_); rintro e w2 ⟨rfl, x2⟩; have X2 := X1.trans x2; have S1 := Lib.hid (H1.out.ext X2); have D1 := Lib.hid (H2.out.ext X2); have m3 : True := trivial)
    | (go_at_call 11; have mk := m3; clear m3 mk; go_loud (refine (rowCheck_lit (v := u) A1 c1 n1 l _ HU E1 S1 T1 (G.ext X2).good.good).mono ?_); rintro e w3 ⟨rfl, x3⟩; have X3 := X2.trans x3; have S1 := Lib.hid (H1.out.ext X3); have D1 := Lib.hid (H2.out.ext X3); have m4 : True := trivial)
    | (go_at_call 12; have mk := m4; clear m4 mk; go_loud (refine (decode_at (v := 0) (l := m) (k := n3) A2 c2 n2 xs _ HE HL HM E2 D1 (by omega) (G.ext X3).good.good).mono ?_); rintro e w4 ⟨A6, c6, rfl, r6, x4⟩; have X4 := X3.trans x4; have R := Lib.hid r6; clear r6; have S1 := Lib.hid (H1.out.ext X4); have D1 := Lib.hid (H2.out.ext X4); have m5 : True := trivial)
    | (go_at_call 9; have mk := m5; clear m5 mk; go_loud (refine (enc_yes (k := n2) A6 c6 n3 m _ HCm HKm E2 HM R TM IM (G.ext X4).good.good).mono ?_); rintro e w5 ⟨A7, c7, rfl, b7, x5⟩; have X5 := X4.trans x5; have Q := Lib.hid b7; clear b7; have S1 := Lib.hid (H1.out.ext X5); have D1 := Lib.hid (H2.out.ext X5); have m6 : True := trivial)
    | (go_at_call 7; have mk := m6; clear m6 mk; go_loud (refine (known_true _ (G.ext X5).good.good).mono ?_); rintro e w6 ⟨rfl, x6⟩; have X6 := X5.trans x6; have Q := Lib.hid (Q.out.ext x6); have S1 := Lib.hid (H1.out.ext X6); have D1 := Lib.hid (H2.out.ext X6); have m7 : True := trivial)
    | (go_at_call 13; have mk := m7; clear m7 mk; go_loud (refine (sameBytes_lit A7 A2 c7 c2 n2 n2 xs _ E2 (Lib.hid rfl) Q D1).mono ?_); rintro e w7 ⟨rfl, x7⟩; have X7 := X6.trans x7; have S1 := Lib.hid (H1.out.ext X7); have D1 := Lib.hid (H2.out.ext X7); have m8 : True := trivial)
    | fail)
  go_ret
  exact ⟨rfl, X7⟩
set_option maxRecDepth 100000 in
set_option maxHeartbeats 8000000 in
theorem rback_nn (h4 : n1 ≤ 4000) (h5 : n2 ≤ 1048576) (u : Int) (hu : (u != 0) = true) (HU : Hid (checkR l = u)) (HP : Hid ((if checkR l = 0 then rowS l else ⟨#[]⟩) = ⟨#[]⟩)) (HE : Hid (decE xs = 20)) (HL : Hid (decL xs = [])) :
    Calls Tryz.prog 4 #[.slice A1 n1 c1, .slice A2 n2 c2] w fun e w' => e = .returned (.bool true) ∧ Ext w w' := by
  have hu2 : (u == 0) = false := by simpa using hu
  have m1 : True := trivial
  go_enter Tryz.func4, Tryz.ntmps4
  go_wp2_with (first
    | (go_at_call 9; have mk := m1; clear m1 mk; go_loud (refine (enc_no (v := u) A1 c1 n1 l _ HU hu E1 H1 T1 I1 G.good.good).mono ?_); rintro e w1 ⟨A3, c3, rfl, x1⟩; have X1 := x1; have S1 := Lib.hid (H1.out.ext X1); have D1 := Lib.hid (H2.out.ext X1); have m2 : True := trivial)
    | (go_at_call 10; have mk := m2; clear m2 mk; go_loud (refine (prn_at (v := u) (q := ⟨#[]⟩) A1 c1 n1 l _ HU HP E1 S1 T1 I1 (G.ext X1).good).mono ?_); rintro e w2 ⟨rfl, x2⟩; have X2 := X1.trans x2; have S1 := Lib.hid (H1.out.ext X2); have D1 := Lib.hid (H2.out.ext X2); have m3 : True := trivial)
    | (go_at_call 11; have mk := m3; clear m3 mk; go_loud (refine (rowCheck_lit (v := u) A1 c1 n1 l _ HU E1 S1 T1 (G.ext X2).good.good).mono ?_); rintro e w3 ⟨rfl, x3⟩; have X3 := X2.trans x3; have S1 := Lib.hid (H1.out.ext X3); have D1 := Lib.hid (H2.out.ext X3); have m4 : True := trivial)
    | (go_at_call 12; have mk := m4; clear m4 mk; go_loud (refine (decode_at (v := 20) (l := []) (k := 0) A2 c2 n2 xs _ HE HL (Lib.hid rfl) E2 D1 (by omega) (G.ext X3).good.good).mono ?_); rintro e w4 ⟨A6, c6, rfl, r6, x4⟩; have X4 := X3.trans x4; have S1 := Lib.hid (H1.out.ext X4); have D1 := Lib.hid (H2.out.ext X4); have m5 : True := trivial)
    | (go_at_call 7; have mk := m5; clear m5 mk; go_loud (refine (known_true _ (G.ext X4).good.good).mono ?_); rintro e w5 ⟨rfl, x5⟩; have X5 := X4.trans x5; have S1 := Lib.hid (H1.out.ext X5); have D1 := Lib.hid (H2.out.ext X5); have m6 : True := trivial)
    | fail)
  go_ret
  exact ⟨rfl, X5⟩
theorem rback_any : Calls Tryz.prog 4 #[.slice A1 n1 c1, .slice A2 n2 c2] w fun e w' => e = .returned (.bool true) ∧ Ext w w' := by
  have h9 : n1 ≤ 9223372036854775807 := by have := H1.out.le; rw [← E1.out] at this; exact this
  have h8 : n2 ≤ 9223372036854775807 := by have := Sl.le (show Sl w 1 A2 xs.length c2 (Lib.byteCells xs) from H2.out); rw [← E2.out] at this; exact this
  by_cases h4 : n1 ≤ 4000
  · by_cases h5 : n2 ≤ 1048576
    · by_cases hu : checkR l = 0
      · have hd := decV_key hu I1.out
        cases hq : decV xs with
        | none => exact rback_yn A1 A2 c1 c2 n1 n2 l xs w E1 E2 H1 H2 T1 I1 G h4 h5 (rowS l) (keyT l) (keyT l).length (keyR_small hu) (Lib.hid hu) (Lib.hid rfl) (Lib.hid rfl) (Lib.hid (if_pos hu)) (Lib.hid rfl) (Lib.hid (decE_some hd)) (Lib.hid (decL_some hd)) (Lib.hid (decE_none hq)) (Lib.hid (decL_none hq))
        | some m =>
          obtain ⟨q1, q2, q3⟩ := decV_back hq
          exact rback_yy A1 A2 c1 c2 n1 n2 l xs w E1 E2 H1 H2 T1 I1 G h4 h5 (rowS l) (keyT l) (keyT l).length (keyR_small hu) (Lib.hid hu) (Lib.hid rfl) (Lib.hid rfl) (Lib.hid (if_pos hu)) (Lib.hid rfl) (Lib.hid (decE_some hd)) (Lib.hid (decL_some hd)) m m.length (Lib.hid (decE_some hq)) (Lib.hid (decL_some hq)) (Lib.hid rfl) (Lib.hid q1) (Lib.hid q2) (Lib.hid (checked_txt q1)) (Lib.hid q3)
      · cases hq : decV xs with
        | none => exact rback_nn A1 A2 c1 c2 n1 n2 l xs w E1 E2 H1 H2 T1 I1 G h4 h5 _ (by simpa using hu) (Lib.hid rfl) (Lib.hid (if_neg hu)) (Lib.hid (decE_none hq)) (Lib.hid (decL_none hq))
        | some m =>
          obtain ⟨q1, q2, q3⟩ := decV_back hq
          exact rback_ny A1 A2 c1 c2 n1 n2 l xs w E1 E2 H1 H2 T1 I1 G h4 h5 _ (by simpa using hu) (Lib.hid rfl) (Lib.hid (if_neg hu)) m m.length (Lib.hid (decE_some hq)) (Lib.hid (decL_some hq)) (Lib.hid rfl) (Lib.hid q1) (Lib.hid q2) (Lib.hid (checked_txt q1)) (Lib.hid q3)
    · exact rback_much A1 A2 c1 c2 n1 n2 w h4 (by omega) h8
  · exact rback_long A1 A2 c1 c2 n1 n2 w (by omega) h9
end
end Go.Proofs.YtngeioghihbkeaaGreatDoor
