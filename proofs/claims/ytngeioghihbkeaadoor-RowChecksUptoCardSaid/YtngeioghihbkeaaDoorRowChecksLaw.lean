/- RowChecks: the walk. Conditions: the library's tables stand; the row is as readings give it, its texts not too long. -/
import Derived.Test.YtngeioghihbkeaaDoorRowPrnAll
import Derived.Test.YtngeioghihbkeaaDoorIntsLent
import Derived.Test.YtngeioghihbkeaaDoorRowL
namespace Go.Proofs.YtngeioghihbkeaaDoor
open Go.RowKit

theorem lentRow_rw {w : World} {B g n : Nat} {l : List Dat} (hn : n = l.length) (o : Own w B 91 4 (some ⟨g, 0, none⟩) (n + 2) (n + 2) (rowC (l ++ marks))) : Rw w (some ⟨g, 0, none⟩) (n + 2) (l ++ marks) := by
  unfold Rw
  rw [List.length_append, ← hn]
  exact Own.sl o
theorem lentInts_is {w : World} {B g n : Nat} {l : List Int} (hn : n = l.length) (o : Own w B 3 1 (some ⟨g, 0, none⟩) (n + 2) (n + 2) (ints (l ++ marksI))) : Is w (some ⟨g, 0, none⟩) (n + 2) (l ++ marksI) := by
  unfold Is
  rw [List.length_append, ← hn]
  exact Own.sl o
theorem enc_lit {v : Int} {xs : List UInt8} (A : Option Addr) (c n : Nat) (l : List Dat) (w : World) (hv : Hid (checkR l = v)) (hx : Hid ((if checkR l = 0 then keyT l else []) = xs)) (e1 : Hid (n = l.length)) (h1 : Hid (Rw w A c l)) (ht : Hid (RwTxt l)) (hi : Hid (RwInt l)) (G : Good w) :
    Calls Tryd.prog 23 #[.slice A n c] w fun e w' => ∃ A n c, e = .returned (.tuple #[.slice A n c, .int .u16 v]) ∧ Bs w' A c xs ∧ n = xs.length ∧ Ext w w' := by
  refine (encode_any A c n l w e1 h1 ht hi G).mono ?_
  rintro e w1 ⟨x1, A1, n1, c1, rfl, o1⟩
  rw [hx.out] at o1
  exact ⟨A1, n1, c1, by rw [hv.out], o1.bs, o1.len, x1⟩
theorem renc_lit {v : Int} {xs : List UInt8} (A : Option Addr) (c n : Nat) (l : List Dat) (w : World) (hv : Hid (checkR l = v)) (hx : Hid ((if checkR l = 0 then keyT l else []) = xs)) (e1 : Hid (n = l.length)) (h1 : Hid (Rw w A c l)) (ht : Hid (∀ d ∈ l, d.s.size ≤ 10000000000000)) (hi : Hid (RwInt l)) :
    Calls Tryd.prog 45 #[.slice A n c] w fun e w' => ∃ A n c, e = .returned (.tuple #[.slice A n c, .int .i64 v]) ∧ Bs w' A c xs ∧ n = xs.length ∧ Ext w w' := by
  refine (refEncode_any A c n l w e1 h1 ht hi).mono ?_
  rintro e w1 ⟨x1, A1, n1, c1, rfl, o1⟩
  rw [hx.out] at o1
  exact ⟨A1, n1, c1, by rw [hv.out], o1.bs, o1.len, x1⟩
theorem prn_lit {v : Int} {q : ByteArray} (A : Option Addr) (c n : Nat) (l : List Dat) (w : World) (hv : Hid (checkR l = v)) (hq : Hid ((if checkR l = 0 then rowS l else ⟨#[]⟩) = q)) (e1 : Hid (n = l.length)) (h1 : Hid (Rw w A c l)) (ht : Hid (RwTxt l)) (hi : Hid (RwInt l)) (G : Good2 w) :
    Calls Tryd.prog 43 #[.slice A n c] w fun e w' => e = .returned (.tuple #[.string q, .int .u16 v]) ∧ Ext w w' := by
  refine (rowPrint_any A c n l w e1 h1 ht hi G).mono ?_
  rintro e w1 ⟨rfl, x1⟩
  exact ⟨by rw [hq.out, hv.out], x1⟩
theorem rprn_lit {v : Int} {q : ByteArray} (A : Option Addr) (c n : Nat) (l : List Dat) (w : World) (hv : Hid (checkR l = v)) (hq : Hid ((if checkR l = 0 then rowS l else ⟨#[]⟩) = q)) (e1 : Hid (n = l.length)) (h1 : Hid (Rw w A c l)) (ht : Hid (∀ d ∈ l, d.s.size ≤ 10000000000000)) (hi : Hid (RwInt l)) :
    Calls Tryd.prog 46 #[.slice A n c] w fun e w' => e = .returned (.tuple #[.string q, .int .i64 v]) ∧ Ext w w' := by
  refine (refPrint_any A c n l w e1 h1 ht hi).mono ?_
  rintro e w1 ⟨rfl, x1⟩
  exact ⟨by rw [hq.out, hv.out], x1⟩
theorem rhash_lit (v : Int) (A C : Option Addr) (c cc n nc : Nat) (l : List Dat) (cs : List Int) (w : World) (hv : Hid (hashV l cs = v)) (e1 : Hid (n = l.length)) (e2 : Hid (nc = cs.length)) (h1 : Hid (Rw w A c l)) (h2 : Hid (Is w C cc cs)) (hi : Hid (RwInt l)) (hz : Hid (∀ d ∈ l, d.s.size ≤ 10000000000000)) :
    Calls Tryd.prog 48 #[.slice A n c, .slice C nc cc] w fun e w' => e = .returned (.int .u64 v) ∧ Ext w w' := hv.out ▸ rhash_any A C c cc n nc l cs w e1 e2 h1 h2 hi hz
theorem rpick_yes (A C : Option Addr) (c cc n nc : Nat) (l : List Dat) (cs : List Int) (w : World) (e1 : Hid (n = l.length)) (e2 : Hid (nc = cs.length)) (h1 : Hid (Rw w A c l)) (h2 : Hid (Is w C cc cs)) (hk : Hid (pickOk l cs)) :
    Calls Tryd.prog 44 #[.slice A n c, .slice C nc cc] w fun e w' => ∃ A c, e = .returned (.tuple #[.slice A nc c, .int .i64 0]) ∧ Rw w' A c (pickL l cs) ∧ Ext w w' := by
  refine (rpick_any A C c cc n nc l cs w e1 e2 h1 h2).mono ?_
  rintro e w1 ⟨x1, ⟨_, A1, c1, rfl, r1⟩ | ⟨h, _⟩⟩
  · exact ⟨A1, c1, by rw [e2.out], r1, x1⟩
  · exact absurd hk.out h
theorem rpick_no (A C : Option Addr) (c cc n nc : Nat) (l : List Dat) (cs : List Int) (w : World) (e1 : Hid (n = l.length)) (e2 : Hid (nc = cs.length)) (h1 : Hid (Rw w A c l)) (h2 : Hid (Is w C cc cs)) (hk : Hid (¬ pickOk l cs)) :
    Calls Tryd.prog 44 #[.slice A n c, .slice C nc cc] w fun e w' => e = .returned (.tuple #[.slice none 0 0, .int .i64 20]) ∧ Ext w w' := by
  refine (rpick_any A C c cc n nc l cs w e1 e2 h1 h2).mono ?_
  rintro e w1 ⟨x1, ⟨h, _⟩ | ⟨_, rfl⟩⟩
  · exact absurd h hk.out
  · exact ⟨rfl, x1⟩
theorem lentRow_lit2 (A : Option Addr) (c n : Nat) (l : List Dat) (w : World) (hn : Hid (n = l.length)) (h : Hid (Rw w A c l)) (hs : n ≤ 1000000) :
    Calls Tryd.prog 33 #[.slice A n c] w fun e w' => ∃ g, e = .returned (.slice (some ⟨g, 0, none⟩) n (n + 2)) ∧ Rw w' (some ⟨g, 0, none⟩) (n + 2) (l ++ marks) ∧ Ext w w' := by
  refine (lentRow_any A c n l w hn.out h.out hs).mono ?_
  rintro e w1 ⟨g, rfl, _, o1, x1⟩
  exact ⟨g, rfl, lentRow_rw hn.out o1, x1⟩
theorem lentInts_lit2 (A : Option Addr) (c n : Nat) (l : List Int) (w : World) (hn : Hid (n = l.length)) (h : Hid (Is w A c l)) (hs : n ≤ 1000000) :
    Calls Tryd.prog 42 #[.slice A n c] w fun e w' => ∃ g, e = .returned (.slice (some ⟨g, 0, none⟩) n (n + 2)) ∧ Is w' (some ⟨g, 0, none⟩) (n + 2) (l ++ marksI) ∧ Ext w w' := by
  refine (lentInts_any A c n l w hn h hs).mono ?_
  rintro e w1 ⟨g, rfl, _, o1, x1⟩
  exact ⟨g, rfl, lentInts_is hn.out o1, x1⟩
section
variable (A C : Option Addr) (c cc n nc : Nat) (l : List Dat) (cs : List Int) (w : World) (E1 : Hid (n = l.length)) (E2 : Hid (nc = cs.length)) (H1 : Hid (Rw w A c l)) (H2 : Hid (Is w C cc cs)) (HT : Hid (RwTxt l)) (HI : Hid (RwInt l)) (HZ : Hid (∀ d ∈ l, d.s.size ≤ 10000000000000)) (G : Good2 w)
set_option maxRecDepth 100000 in
set_option maxHeartbeats 8000000 in
include E1 E2 H1 H2 HT HI HZ G in
theorem checks_yes (h4 : n + nc ≤ 4000) (K : Hid (pickOk l cs)) : Calls Tryd.prog 11 #[.slice A n c, .slice C nc cc] w fun e w' => e = .returned (.bool true) ∧ Ext w w' := by
  obtain ⟨v, hv⟩ : ∃ v, checkR l = v := ⟨_, rfl⟩
  obtain ⟨hv0, hv1⟩ : 0 ≤ v ∧ v ≤ 20 := by rw [← hv]; rcases checkR16 l with q | q | q | q <;> rw [q] <;> decide
  obtain ⟨h, hh⟩ : ∃ h, hashV l cs = h := ⟨_, rfl⟩
  obtain ⟨xs, hxs⟩ : ∃ xs, (if checkR l = 0 then keyT l else []) = xs := ⟨_, rfl⟩
  obtain ⟨q, hq⟩ : ∃ q : ByteArray, (if checkR l = 0 then rowS l else ⟨#[]⟩) = q := ⟨_, rfl⟩
  have HV := Lib.hid hv
  have HH := Lib.hid hh
  have HX := Lib.hid hxs
  have HQ := Lib.hid hq
  have GW := G.good
  have m1 : True := trivial
  clear hv hh hxs hq
  go_enter Tryd.func11, Tryd.ntmps11
  go_wp2_with (first
    | (go_at_call 33; have mk := m1; clear m1 mk; go_loud (refine (lentRow_lit2 A c n l _ E1 H1 (by omega)).mono ?_); rintro e w1 ⟨g1, rfl, r1, x1⟩; have R1 := Lib.hid r1; have C1 := Lib.hid (H2.out.ext x1); clear r1; have m2 : True := trivial)
    | (go_at_call 42; have mk := m2; clear m2 mk; go_loud (refine (lentInts_lit2 C cc nc cs _ E2 C1 (by omega)).mono ?_); rintro e w2 ⟨g2, rfl, r2, x2⟩; have I2 := Lib.hid r2; have J2 := Lib.hid (is_left r2); have R2 := Lib.hid (R1.out.ext x2); have S2 := Lib.hid (rw_left R2.out); have X2 := x1.trans x2; clear r2; have m3 : True := trivial)
    | (go_at_call 26; have mk := m3; clear m3 mk; go_loud (refine (pick_yes (some ⟨g1, 0, none⟩) (some ⟨g2, 0, none⟩) (n + 2) (nc + 2) n nc l cs _ E1 E2 S2 J2 K).mono ?_); rintro e w3 ⟨x3, A3, c3, rfl, r3⟩; have P3 := Lib.hid r3; have X3 := X2.trans x3; have S3 := Lib.hid (S2.out.ext x3); clear r3; have m4 : True := trivial)
    | (go_at_call 23; have mk := m4; clear m4 mk; go_loud (refine (enc_lit (some ⟨g1, 0, none⟩) (n + 2) n l _ HV HX E1 S3 HT HI (GW.ext X3)).mono ?_); rintro e w4 ⟨A4, n4, c4, rfl, b4, l4, x4⟩; have B4 := Lib.hid b4; have L4 := Lib.hid l4; have X4 := X3.trans x4; have S4 := Lib.hid (S3.out.ext x4); clear b4 l4; have m5 : True := trivial)
    | (go_at_call 43; have mk := m5; clear m5 mk; go_loud (refine (prn_lit (some ⟨g1, 0, none⟩) (n + 2) n l _ HV HQ E1 S4 HT HI (G.ext X4)).mono ?_); rintro e w5 ⟨rfl, x5⟩; have X5 := X4.trans x5; have S5 := Lib.hid (S4.out.ext x5); have J5 := Lib.hid (J2.out.ext (x3.trans (x4.trans x5))); have m6 : True := trivial)
    | (go_at_call 27; have mk := m6; clear m6 mk; go_loud (refine (hash_lit h (some ⟨g1, 0, none⟩) (some ⟨g2, 0, none⟩) (n + 2) (nc + 2) n nc l cs _ HH E1 E2 S5 J5 HI HZ).mono ?_); rintro e w6 ⟨rfl, x6⟩; have X6 := X5.trans x6; have Q6 := Lib.hid (H1.out.ext X6); have C6 := Lib.hid (H2.out.ext X6); have m7 : True := trivial)
    | (go_at_call 44; have mk := m7; clear m7 mk; go_loud (refine (rpick_yes A C c cc n nc l cs _ E1 E2 Q6 C6 K).mono ?_); rintro e w7 ⟨A7, c7, rfl, r7, x7⟩; have P7 := Lib.hid r7; have X7 := X6.trans x7; have Q7 := Lib.hid (Q6.out.ext x7); clear r7; have m8 : True := trivial)
    | (go_at_call 45; have mk := m8; clear m8 mk; go_loud (refine (renc_lit A c n l _ HV HX E1 Q7 HZ HI).mono ?_); rintro e w8 ⟨A8, n8, c8, rfl, b8, l8, x8⟩; have B8 := Lib.hid b8; have L8 := Lib.hid l8; have X8 := X7.trans x8; have Q8 := Lib.hid (Q7.out.ext x8); clear b8 l8; have m9 : True := trivial)
    | (go_at_call 46; have mk := m9; clear m9 mk; go_loud (refine (rprn_lit A c n l _ HV HQ E1 Q8 HZ HI).mono ?_); rintro e w9 ⟨rfl, x9⟩; have X9 := X8.trans x9; have T9 := x6.trans (x7.trans (x8.trans x9)); have S9 := Lib.hid (S5.out.ext T9); have ma : True := trivial)
    | (go_at_call 25; have mk := ma; clear ma mk; go_loud (refine (rowCheck_lit (some ⟨g1, 0, none⟩) (n + 2) n l _ HV E1 S9 HT (GW.ext X9)).mono ?_); rintro e wa ⟨rfl, xa⟩; have Xa := X9.trans xa; have Qa := Lib.hid (H1.out.ext Xa); have mb : True := trivial)
    | (go_at_call 47; have mk := mb; clear mb mk; go_loud (refine (refCheck_lit A c n l _ HV E1 Qa HZ).mono ?_); rintro e wb ⟨rfl, xb⟩; have Xb := Xa.trans xb; have Qb := Lib.hid (Qa.out.ext xb); have Cb := Lib.hid (H2.out.ext Xb); have mc : True := trivial)
    | (go_at_call 48; have mk := mc; clear mc mk; go_loud (refine (rhash_lit h A C c cc n nc l cs _ HH E1 E2 Qb Cb HI HZ).mono ?_); rintro e wc ⟨rfl, xc⟩; have Xc := Xb.trans xc; have Tc := x8.trans (x9.trans (xa.trans (xb.trans xc))); have Pc := Lib.hid (P3.out.ext ((x4.trans x5).trans (x6.trans (x7.trans Tc)))); have Pd := Lib.hid (P7.out.ext Tc); have md : True := trivial)
    | (go_at_call 31; have mk := md; clear md mk; go_loud (refine (sameRow_lit A3 A7 c3 c7 nc nc (pickL l cs) _ (Lib.hid (by rw [pickL_len]; exact E2.out)) (Lib.hid rfl) Pc Pd).mono ?_); rintro e wd ⟨rfl, xd⟩; have Xd := Xc.trans xd; have Bd := Lib.hid (B4.out.ext ((x5.trans (x6.trans x7)).trans (Tc.trans xd))); have Be := Lib.hid (B8.out.ext ((x9.trans (xa.trans (xb.trans xc))).trans xd)); have me : True := trivial)
    | (go_at_call 38; have mk := me; clear me mk; go_loud (refine (sameBytes_lit A4 A8 c4 c8 n4 n8 xs _ L4 (Lib.hid (by rw [L8.out, L4.out])) Bd Be).mono ?_); rintro e we ⟨rfl, xe⟩; have Xe := Xd.trans xe; have mf : True := trivial)
    | (go_at_call 13; have mk := mf; clear mf mk; go_loud (refine (known_true _ (GW.ext Xe)).mono ?_); rintro e wf ⟨rfl, xf⟩; have Xf := Xe.trans xf; have Tf := (x3.trans (x4.trans (x5.trans (x6.trans x7)))).trans (Tc.trans (xd.trans (xe.trans xf))); have Rf := Lib.hid (R2.out.ext Tf); have If := Lib.hid (I2.out.ext Tf); have Qf := Lib.hid (H1.out.ext Xf); have mg : True := trivial)
    | (go_at_call 49; have mk := mg; clear mg mk; go_loud (refine (wholeRow_lit (some ⟨g1, 0, none⟩) A (n + 2) c n n l _ E1 (Lib.hid rfl) (by omega) Rf Qf).mono ?_); rintro e wg ⟨rfl, xg⟩; have Xg := Xf.trans xg; have Ig := Lib.hid (If.out.ext xg); have Cg := Lib.hid (H2.out.ext Xg); have mh : True := trivial)
    | (go_at_call 50; have mk := mh; clear mh mk; go_loud (refine (wholeInts_any (some ⟨g2, 0, none⟩) C (nc + 2) cc nc nc cs _ E2 (Lib.hid rfl) (by omega) Ig Cg).mono ?_); rintro e wh ⟨rfl, xh⟩; have Xh := Xg.trans xh; have mi : True := trivial)
    | fail)
  go_ret
  exact ⟨rfl, Xh⟩
set_option maxRecDepth 100000 in
set_option maxHeartbeats 8000000 in
include E1 E2 H1 H2 HT HI HZ G in
theorem checks_no (h4 : n + nc ≤ 4000) (K : Hid (¬ pickOk l cs)) : Calls Tryd.prog 11 #[.slice A n c, .slice C nc cc] w fun e w' => e = .returned (.bool true) ∧ Ext w w' := by
  obtain ⟨v, hv⟩ : ∃ v, checkR l = v := ⟨_, rfl⟩
  obtain ⟨hv0, hv1⟩ : 0 ≤ v ∧ v ≤ 20 := by rw [← hv]; rcases checkR16 l with q | q | q | q <;> rw [q] <;> decide
  obtain ⟨h, hh⟩ : ∃ h, hashV l cs = h := ⟨_, rfl⟩
  obtain ⟨xs, hxs⟩ : ∃ xs, (if checkR l = 0 then keyT l else []) = xs := ⟨_, rfl⟩
  obtain ⟨q, hq⟩ : ∃ q : ByteArray, (if checkR l = 0 then rowS l else ⟨#[]⟩) = q := ⟨_, rfl⟩
  have HV := Lib.hid hv
  have HH := Lib.hid hh
  have HX := Lib.hid hxs
  have HQ := Lib.hid hq
  have GW := G.good
  have m1 : True := trivial
  clear hv hh hxs hq
  go_enter Tryd.func11, Tryd.ntmps11
  go_wp2_with (first
    | (go_at_call 33; have mk := m1; clear m1 mk; go_loud (refine (lentRow_lit2 A c n l _ E1 H1 (by omega)).mono ?_); rintro e w1 ⟨g1, rfl, r1, x1⟩; have R1 := Lib.hid r1; have C1 := Lib.hid (H2.out.ext x1); clear r1; have m2 : True := trivial)
    | (go_at_call 42; have mk := m2; clear m2 mk; go_loud (refine (lentInts_lit2 C cc nc cs _ E2 C1 (by omega)).mono ?_); rintro e w2 ⟨g2, rfl, r2, x2⟩; have I2 := Lib.hid r2; have J2 := Lib.hid (is_left r2); have R2 := Lib.hid (R1.out.ext x2); have S2 := Lib.hid (rw_left R2.out); have X2 := x1.trans x2; clear r2; have m3 : True := trivial)
    | (go_at_call 26; have mk := m3; clear m3 mk; go_loud (refine (pick_no (some ⟨g1, 0, none⟩) (some ⟨g2, 0, none⟩) (n + 2) (nc + 2) n nc l cs _ E1 E2 S2 J2 K).mono ?_); rintro e w3 ⟨rfl, x3⟩; have X3 := X2.trans x3; have S3 := Lib.hid (S2.out.ext x3); have m4 : True := trivial)
    | (go_at_call 23; have mk := m4; clear m4 mk; go_loud (refine (enc_lit (some ⟨g1, 0, none⟩) (n + 2) n l _ HV HX E1 S3 HT HI (GW.ext X3)).mono ?_); rintro e w4 ⟨A4, n4, c4, rfl, b4, l4, x4⟩; have B4 := Lib.hid b4; have L4 := Lib.hid l4; have X4 := X3.trans x4; have S4 := Lib.hid (S3.out.ext x4); clear b4 l4; have m5 : True := trivial)
    | (go_at_call 43; have mk := m5; clear m5 mk; go_loud (refine (prn_lit (some ⟨g1, 0, none⟩) (n + 2) n l _ HV HQ E1 S4 HT HI (G.ext X4)).mono ?_); rintro e w5 ⟨rfl, x5⟩; have X5 := X4.trans x5; have S5 := Lib.hid (S4.out.ext x5); have J5 := Lib.hid (J2.out.ext (x3.trans (x4.trans x5))); have m6 : True := trivial)
    | (go_at_call 27; have mk := m6; clear m6 mk; go_loud (refine (hash_lit h (some ⟨g1, 0, none⟩) (some ⟨g2, 0, none⟩) (n + 2) (nc + 2) n nc l cs _ HH E1 E2 S5 J5 HI HZ).mono ?_); rintro e w6 ⟨rfl, x6⟩; have X6 := X5.trans x6; have Q6 := Lib.hid (H1.out.ext X6); have C6 := Lib.hid (H2.out.ext X6); have m7 : True := trivial)
    | (go_at_call 44; have mk := m7; clear m7 mk; go_loud (refine (rpick_no A C c cc n nc l cs _ E1 E2 Q6 C6 K).mono ?_); rintro e w7 ⟨rfl, x7⟩; have X7 := X6.trans x7; have Q7 := Lib.hid (Q6.out.ext x7); have m8 : True := trivial)
    | (go_at_call 45; have mk := m8; clear m8 mk; go_loud (refine (renc_lit A c n l _ HV HX E1 Q7 HZ HI).mono ?_); rintro e w8 ⟨A8, n8, c8, rfl, b8, l8, x8⟩; have B8 := Lib.hid b8; have L8 := Lib.hid l8; have X8 := X7.trans x8; have Q8 := Lib.hid (Q7.out.ext x8); clear b8 l8; have m9 : True := trivial)
    | (go_at_call 46; have mk := m9; clear m9 mk; go_loud (refine (rprn_lit A c n l _ HV HQ E1 Q8 HZ HI).mono ?_); rintro e w9 ⟨rfl, x9⟩; have X9 := X8.trans x9; have T9 := x6.trans (x7.trans (x8.trans x9)); have S9 := Lib.hid (S5.out.ext T9); have ma : True := trivial)
    | (go_at_call 25; have mk := ma; clear ma mk; go_loud (refine (rowCheck_lit (some ⟨g1, 0, none⟩) (n + 2) n l _ HV E1 S9 HT (GW.ext X9)).mono ?_); rintro e wa ⟨rfl, xa⟩; have Xa := X9.trans xa; have Qa := Lib.hid (H1.out.ext Xa); have mb : True := trivial)
    | (go_at_call 47; have mk := mb; clear mb mk; go_loud (refine (refCheck_lit A c n l _ HV E1 Qa HZ).mono ?_); rintro e wb ⟨rfl, xb⟩; have Xb := Xa.trans xb; have Qb := Lib.hid (Qa.out.ext xb); have Cb := Lib.hid (H2.out.ext Xb); have mc : True := trivial)
    | (go_at_call 48; have mk := mc; clear mc mk; go_loud (refine (rhash_lit h A C c cc n nc l cs _ HH E1 E2 Qb Cb HI HZ).mono ?_); rintro e wc ⟨rfl, xc⟩; have Xc := Xb.trans xc; have Tc := x8.trans (x9.trans (xa.trans (xb.trans xc))); have md : True := trivial)
    | (go_at_call 31; have mk := md; clear md mk; go_loud (refine (sameRow_lit none none 0 0 0 0 [] _ (Lib.hid rfl) (Lib.hid rfl) (Lib.hid (Rw.nil _)) (Lib.hid (Rw.nil _))).mono ?_); rintro e wd ⟨rfl, xd⟩; have Xd := Xc.trans xd; have Bd := Lib.hid (B4.out.ext ((x5.trans (x6.trans x7)).trans (Tc.trans xd))); have Be := Lib.hid (B8.out.ext ((x9.trans (xa.trans (xb.trans xc))).trans xd)); have me : True := trivial)
    | (go_at_call 38; have mk := me; clear me mk; go_loud (refine (sameBytes_lit A4 A8 c4 c8 n4 n8 xs _ L4 (Lib.hid (by rw [L8.out, L4.out])) Bd Be).mono ?_); rintro e we ⟨rfl, xe⟩; have Xe := Xd.trans xe; have mf : True := trivial)
    | (go_at_call 13; have mk := mf; clear mf mk; go_loud (refine (known_true _ (GW.ext Xe)).mono ?_); rintro e wf ⟨rfl, xf⟩; have Xf := Xe.trans xf; have Tf := (x3.trans (x4.trans (x5.trans (x6.trans x7)))).trans (Tc.trans (xd.trans (xe.trans xf))); have Rf := Lib.hid (R2.out.ext Tf); have If := Lib.hid (I2.out.ext Tf); have Qf := Lib.hid (H1.out.ext Xf); have mg : True := trivial)
    | (go_at_call 49; have mk := mg; clear mg mk; go_loud (refine (wholeRow_lit (some ⟨g1, 0, none⟩) A (n + 2) c n n l _ E1 (Lib.hid rfl) (by omega) Rf Qf).mono ?_); rintro e wg ⟨rfl, xg⟩; have Xg := Xf.trans xg; have Ig := Lib.hid (If.out.ext xg); have Cg := Lib.hid (H2.out.ext Xg); have mh : True := trivial)
    | (go_at_call 50; have mk := mh; clear mh mk; go_loud (refine (wholeInts_any (some ⟨g2, 0, none⟩) C (nc + 2) cc nc nc cs _ E2 (Lib.hid rfl) (by omega) Ig Cg).mono ?_); rintro e wh ⟨rfl, xh⟩; have Xh := Xg.trans xh; have mi : True := trivial)
    | fail)
  go_ret
  exact ⟨rfl, Xh⟩
include E1 E2 H1 H2 HT HI HZ G in
theorem rowChecks_lit (hn : n ≤ 2000000) (hc : nc ≤ 2000000) : Calls Tryd.prog 11 #[.slice A n c, .slice C nc cc] w fun e w' => e = .returned (.bool true) ∧ Ext w w' := by
  by_cases h4 : n + nc ≤ 4000
  · by_cases K : pickOk l cs
    · exact checks_yes A C c cc n nc l cs w E1 E2 H1 H2 HT HI HZ G h4 (Lib.hid K)
    · exact checks_no A C c cc n nc l cs w E1 E2 H1 H2 HT HI HZ G h4 (Lib.hid K)
  · have h5 : 4000 < n + nc := by omega
    have HG := Lib.hid G
    clear h4 HZ HT HI G
    go_enter Tryd.func11, Tryd.ntmps11
    go_wp2
    go_ret
    exact ⟨rfl, Ext.refl w⟩
end
theorem rowChecks_any (A C : Option Addr) (c cc : Nat) (l : List Dat) (cs : List Int) (w : World) (h1 : Rw w A c l) (h2 : Is w C cc cs) (ht : RwTxt l) (hi : RwInt l) (hz : ∀ d ∈ l, d.s.size ≤ 10000000000000) (hn : l.length ≤ 2000000) (hc : cs.length ≤ 2000000) (G : Good2 w) :
    Calls Tryd.prog 11 #[.slice A l.length c, .slice C cs.length cc] w fun e w' => e = .returned (.bool true) ∧ Ext w w' :=
  rowChecks_lit A C c cc l.length cs.length l cs w (Lib.hid rfl) (Lib.hid rfl) (Lib.hid h1) (Lib.hid h2) (Lib.hid ht) (Lib.hid hi) (Lib.hid hz) G hn hc
end Go.Proofs.YtngeioghihbkeaaDoor
