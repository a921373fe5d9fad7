/- RowOrder: the walk. Conditions: the library's tables stand; the rows are as readings give them. -/
import Derived.Test.YtngeioghihbkeaaDoorRowEnc
import Derived.Test.YtngeioghihbkeaaDoorRowKnown
namespace Go.Proofs.YtngeioghihbkeaaDoor
open Go.RowKit

theorem cmpT_vals (x y : Int) : cmpT x y = -1 ∨ cmpT x y = 0 ∨ cmpT x y = 1 := by
  unfold cmpT
  repeat' split
  all_goals simp
theorem cmpD_vals (a b : Dat) : cmpD a b = -1 ∨ cmpD a b = 0 ∨ cmpD a b = 1 := by
  unfold cmpD
  repeat' split
  all_goals first | exact cmpT_vals _ _ | skip
  · rw [cmpS_eq]
    repeat' split
    all_goals simp
  · simp
theorem cmpR_vals : ∀ l m : List Dat, cmpR l m = -1 ∨ cmpR l m = 0 ∨ cmpR l m = 1
  | [], [] => .inr (.inl rfl)
  | [], _ :: _ => .inl rfl
  | _ :: _, [] => .inr (.inr rfl)
  | a :: l, b :: m => by
    unfold cmpR
    split
    · exact cmpR_vals l m
    · exact cmpD_vals a b
structure RwOk (l : List Dat) : Prop where
  txt : RwTxt l
  int : RwInt l
theorem encode_lit {v : Int} (A : Option Addr) (c n : Nat) (l : List Dat) (w : World) (hv : Hid (checkR l = v)) (e1 : Hid (n = l.length)) (h1 : Hid (Rw w A c l)) (ht : Hid (RwOk l)) (G : Good w) :
    Calls Tryd.prog 23 #[.slice A n c] w fun e w' => Ext w w' ∧ ∃ A n c, e = .returned (.tuple #[.slice A n c, .int .u16 v]) ∧ OwnB w' w.heap.size A n c (if v = 0 then keyT l else []) :=
  (encode_any A c n l w e1 h1 (Lib.hid ht.out.txt) (Lib.hid ht.out.int) G).mono fun e w' ⟨h, A, n, c, h2, h3⟩ => ⟨h, A, n, c, by rw [← hv.out]; exact h2, by rw [← hv.out]; exact h3⟩
theorem encode_ok (A : Option Addr) (c n : Nat) (l : List Dat) (w : World) (hv : Hid (checkR l = 0)) (e1 : Hid (n = l.length)) (h1 : Hid (Rw w A c l)) (ht : Hid (RwOk l)) (G : Good w) :
    Calls Tryd.prog 23 #[.slice A n c] w fun e w' => Ext w w' ∧ ∃ A n c, e = .returned (.tuple #[.slice A n c, .int .u16 0]) ∧ OwnB w' w.heap.size A n c (keyT l) :=
  (encode_any A c n l w e1 h1 (Lib.hid ht.out.txt) (Lib.hid ht.out.int) G).mono fun e w' ⟨h, A, n, c, h2, h3⟩ => ⟨h, A, n, c, by rw [hv.out] at h2; exact h2, by rw [if_pos hv.out] at h3; exact h3⟩
/-- the keys of rows that may be compare as they do -/
theorem key_cmp {l m : List Dat} {v : Int} (hl : RwOk l) (hm : RwOk m) (h1 : checkR l = 0) (h2 : checkR m = 0) (hv : cmpR l m = v) : lexB (keyT l) (keyT m) = v := by
  rw [key_ord l m (fun d hd => ⟨((checkR_ok l).1 h1).2 d hd, hl.int d hd⟩) (fun d hd => ⟨((checkR_ok m).1 h2).2 d hd, hm.int d hd⟩), hv]
section
variable (A1 A2 A3 : Option Addr) (c1 c2 c3 n1 n2 n3 : Nat) (l m o : List Dat) (w : World) (E1 : Hid (n1 = l.length)) (E2 : Hid (n2 = m.length)) (E3 : Hid (n3 = o.length)) (H1 : Hid (Rw w A1 c1 l)) (H2 : Hid (Rw w A2 c2 m)) (H3 : Hid (Rw w A3 c3 o)) (T1 : Hid (RwOk l)) (T2 : Hid (RwOk m)) (G : Good w)
set_option maxRecDepth 100000 in
set_option maxHeartbeats 400000 in
theorem order_long (s : Int) (s0 : Int) (hs0 : IntKind.i64.wrap ((n1 : Int) + (n2 : Int)) = s0) (hs : IntKind.i64.wrap (s0 + (n3 : Int)) = s) (hlt : 4000 < s) :
    Calls Tryd.prog 6 #[.slice A1 n1 c1, .slice A2 n2 c2, .slice A3 n3 c3] w fun e w' => e = .returned (.bool true) ∧ Ext w w' := by
  go_enter Tryd.func6, Tryd.ntmps6
  go_wp2
  go_ret
  exact ⟨rfl, Ext.refl w⟩
include G E1 E2 E3 H1 H2 H3 T1 T2 in
set_option maxRecDepth 100000 in
set_option maxHeartbeats 2000000 in
theorem order_m_m_m_00 (s0 s : Int) (hs0 : IntKind.i64.wrap ((n1 : Int) + (n2 : Int)) = s0) (hs : IntKind.i64.wrap (s0 + (n3 : Int)) = s) (hlt : ¬ 4000 < s) (HV1 : Hid (cmpR l m = -1)) (HV2 : Hid (cmpR m l = 1)) (HV3 : Hid (cmpR m o = -1)) (HV4 : Hid (cmpR l o = -1)) (HK : Hid (checkR l = 0)) (HQ : Hid (checkR m = 0)) :
    Calls Tryd.prog 6 #[.slice A1 n1 c1, .slice A2 n2 c2, .slice A3 n3 c3] w fun e w' => e = .returned (.bool true) ∧ Ext w w' := by
  have m1 : True := trivial
  go_enter Tryd.func6, Tryd.ntmps6
  go_wp2_with (first
    | (have z := m1; clear z m1; go_at_call 14; refine (rowCmp_lit A1 A2 c1 c2 n1 n2 l m _ HV1 E1 E2 H1 H2).mono ?_; rintro e w1 ⟨rfl, x1⟩; have X1 := Lib.hid (x1); have J1_1 := Lib.hid (H1.out.ext X1.out); have J2_1 := Lib.hid (H2.out.ext X1.out); have J3_1 := Lib.hid (H3.out.ext X1.out); have m2 : True := trivial)
    | (have z := m2; clear z m2; go_at_call 14; refine (rowCmp_lit A2 A1 c2 c1 n2 n1 m l _ HV2 E2 E1 J2_1 J1_1).mono ?_; rintro e w2 ⟨rfl, x2⟩; have X2 := Lib.hid (X1.out.trans x2); have J1_2 := Lib.hid (H1.out.ext X2.out); have J2_2 := Lib.hid (H2.out.ext X2.out); have J3_2 := Lib.hid (H3.out.ext X2.out); have m3 : True := trivial)
    | (have z := m3; clear z m3; go_at_call 14; refine (rowCmp_lit A2 A3 c2 c3 n2 n3 m o _ HV3 E2 E3 J2_2 J3_2).mono ?_; rintro e w3 ⟨rfl, x3⟩; have X3 := Lib.hid (X2.out.trans x3); have J1_3 := Lib.hid (H1.out.ext X3.out); have J2_3 := Lib.hid (H2.out.ext X3.out); have J3_3 := Lib.hid (H3.out.ext X3.out); have m4 : True := trivial)
    | (have z := m4; clear z m4; go_at_call 14; refine (rowCmp_lit A1 A3 c1 c3 n1 n3 l o _ HV4 E1 E3 J1_3 J3_3).mono ?_; rintro e w4 ⟨rfl, x4⟩; have X4 := Lib.hid (X3.out.trans x4); have J1_4 := Lib.hid (H1.out.ext X4.out); have J2_4 := Lib.hid (H2.out.ext X4.out); have J3_4 := Lib.hid (H3.out.ext X4.out); have m5 : True := trivial)
    | (have z := m5; clear z m5; go_at_call 23; refine (encode_ok A1 c1 n1 l _ HK E1 J1_4 T1 (G.ext X4.out)).mono ?_; rintro e w5 ⟨x5, xA, xn, xc, rfl, ob5⟩; have xO := Lib.hid ob5; have X5 := Lib.hid (X4.out.trans x5); have J1_5 := Lib.hid (H1.out.ext X5.out); have J2_5 := Lib.hid (H2.out.ext X5.out); clear ob5; have m6 : True := trivial)
    | (have z := m6; clear z m6; go_at_call 23; refine (encode_ok A2 c2 n2 m _ HQ E2 J2_5 T2 (G.ext X5.out)).mono ?_; rintro e w6 ⟨x6, yA, yn, yc, rfl, ob6⟩; have yO := Lib.hid ob6; have X6 := Lib.hid (X5.out.trans x6); have J1_6 := Lib.hid (H1.out.ext X6.out); have J2_6 := Lib.hid (H2.out.ext X6.out); clear ob6; have m7 : True := trivial)
    | (have z := m7; clear z m7; go_at_call 13; refine (known_true _ (G.ext X6.out)).mono ?_; rintro e w7 ⟨rfl, x7⟩; have X7 := Lib.hid (X6.out.trans x7); have m8 : True := trivial)
    | (go_at_call 24; refine (lawBytes_any (-1) xA yA xc yc xn yn (keyT l) (keyT m) _ (Lib.hid (key_cmp T1.out T2.out HK.out HQ.out HV1.out)) (Lib.hid (by have := xO.out; exact this.len)) (Lib.hid (by have := yO.out; exact this.len)) (Lib.hid (by have := xO.out; exact (this.bs.ext x6).ext x7)) (Lib.hid (by have := yO.out; exact this.bs.ext x7))).mono ?_; rintro e w8 ⟨rfl, x8⟩; have X8 := Lib.hid (X7.out.trans x8))
    | fail)
  go_ret
  exact ⟨rfl, X8.out⟩
include G E1 E2 E3 H1 H2 H3 T1 T2 in
set_option maxRecDepth 100000 in
set_option maxHeartbeats 2000000 in
theorem order_m_m_m_01 (s0 s : Int) (hs0 : IntKind.i64.wrap ((n1 : Int) + (n2 : Int)) = s0) (hs : IntKind.i64.wrap (s0 + (n3 : Int)) = s) (hlt : ¬ 4000 < s) (q : Int) (hq : (q != 0) = true) (HV1 : Hid (cmpR l m = -1)) (HV2 : Hid (cmpR m l = 1)) (HV3 : Hid (cmpR m o = -1)) (HV4 : Hid (cmpR l o = -1)) (HK : Hid (checkR l = 0)) (HQ : Hid (checkR m = q)) :
    Calls Tryd.prog 6 #[.slice A1 n1 c1, .slice A2 n2 c2, .slice A3 n3 c3] w fun e w' => e = .returned (.bool true) ∧ Ext w w' := by
  have m1 : True := trivial
  go_enter Tryd.func6, Tryd.ntmps6
  go_wp2_with (first
    | (have z := m1; clear z m1; go_at_call 14; refine (rowCmp_lit A1 A2 c1 c2 n1 n2 l m _ HV1 E1 E2 H1 H2).mono ?_; rintro e w1 ⟨rfl, x1⟩; have X1 := Lib.hid (x1); have J1_1 := Lib.hid (H1.out.ext X1.out); have J2_1 := Lib.hid (H2.out.ext X1.out); have J3_1 := Lib.hid (H3.out.ext X1.out); have m2 : True := trivial)
    | (have z := m2; clear z m2; go_at_call 14; refine (rowCmp_lit A2 A1 c2 c1 n2 n1 m l _ HV2 E2 E1 J2_1 J1_1).mono ?_; rintro e w2 ⟨rfl, x2⟩; have X2 := Lib.hid (X1.out.trans x2); have J1_2 := Lib.hid (H1.out.ext X2.out); have J2_2 := Lib.hid (H2.out.ext X2.out); have J3_2 := Lib.hid (H3.out.ext X2.out); have m3 : True := trivial)
    | (have z := m3; clear z m3; go_at_call 14; refine (rowCmp_lit A2 A3 c2 c3 n2 n3 m o _ HV3 E2 E3 J2_2 J3_2).mono ?_; rintro e w3 ⟨rfl, x3⟩; have X3 := Lib.hid (X2.out.trans x3); have J1_3 := Lib.hid (H1.out.ext X3.out); have J2_3 := Lib.hid (H2.out.ext X3.out); have J3_3 := Lib.hid (H3.out.ext X3.out); have m4 : True := trivial)
    | (have z := m4; clear z m4; go_at_call 14; refine (rowCmp_lit A1 A3 c1 c3 n1 n3 l o _ HV4 E1 E3 J1_3 J3_3).mono ?_; rintro e w4 ⟨rfl, x4⟩; have X4 := Lib.hid (X3.out.trans x4); have J1_4 := Lib.hid (H1.out.ext X4.out); have J2_4 := Lib.hid (H2.out.ext X4.out); have J3_4 := Lib.hid (H3.out.ext X4.out); have m5 : True := trivial)
    | (have z := m5; clear z m5; go_at_call 23; refine (encode_ok A1 c1 n1 l _ HK E1 J1_4 T1 (G.ext X4.out)).mono ?_; rintro e w5 ⟨x5, xA, xn, xc, rfl, ob5⟩; have xO := Lib.hid ob5; have X5 := Lib.hid (X4.out.trans x5); have J1_5 := Lib.hid (H1.out.ext X5.out); have J2_5 := Lib.hid (H2.out.ext X5.out); clear ob5; have m6 : True := trivial)
    | (have z := m6; clear z m6; go_at_call 23; refine (encode_lit A2 c2 n2 m _ HQ E2 J2_5 T2 (G.ext X5.out)).mono ?_; rintro e w6 ⟨x6, yA, yn, yc, rfl, ob6⟩; have yO := Lib.hid ob6; have X6 := Lib.hid (X5.out.trans x6); have J1_6 := Lib.hid (H1.out.ext X6.out); have J2_6 := Lib.hid (H2.out.ext X6.out); clear ob6; have m7 : True := trivial)
    | (have z := m7; clear z m7; go_at_call 13; refine (known_true _ (G.ext X6.out)).mono ?_; rintro e w7 ⟨rfl, x7⟩; have X7 := Lib.hid (X6.out.trans x7); have m8 : True := trivial)
    | fail)
  go_ret
  exact ⟨rfl, X7.out⟩
include G E1 E2 E3 H1 H2 H3 T1 T2 in
set_option maxRecDepth 100000 in
set_option maxHeartbeats 2000000 in
theorem order_m_m_m_10 (s0 s : Int) (hs0 : IntKind.i64.wrap ((n1 : Int) + (n2 : Int)) = s0) (hs : IntKind.i64.wrap (s0 + (n3 : Int)) = s) (hlt : ¬ 4000 < s) (k : Int) (hk : (k != 0) = true) (HV1 : Hid (cmpR l m = -1)) (HV2 : Hid (cmpR m l = 1)) (HV3 : Hid (cmpR m o = -1)) (HV4 : Hid (cmpR l o = -1)) (HK : Hid (checkR l = k)) (HQ : Hid (checkR m = 0)) :
    Calls Tryd.prog 6 #[.slice A1 n1 c1, .slice A2 n2 c2, .slice A3 n3 c3] w fun e w' => e = .returned (.bool true) ∧ Ext w w' := by
  have m1 : True := trivial
  go_enter Tryd.func6, Tryd.ntmps6
  go_wp2_with (first
    | (have z := m1; clear z m1; go_at_call 14; refine (rowCmp_lit A1 A2 c1 c2 n1 n2 l m _ HV1 E1 E2 H1 H2).mono ?_; rintro e w1 ⟨rfl, x1⟩; have X1 := Lib.hid (x1); have J1_1 := Lib.hid (H1.out.ext X1.out); have J2_1 := Lib.hid (H2.out.ext X1.out); have J3_1 := Lib.hid (H3.out.ext X1.out); have m2 : True := trivial)
    | (have z := m2; clear z m2; go_at_call 14; refine (rowCmp_lit A2 A1 c2 c1 n2 n1 m l _ HV2 E2 E1 J2_1 J1_1).mono ?_; rintro e w2 ⟨rfl, x2⟩; have X2 := Lib.hid (X1.out.trans x2); have J1_2 := Lib.hid (H1.out.ext X2.out); have J2_2 := Lib.hid (H2.out.ext X2.out); have J3_2 := Lib.hid (H3.out.ext X2.out); have m3 : True := trivial)
    | (have z := m3; clear z m3; go_at_call 14; refine (rowCmp_lit A2 A3 c2 c3 n2 n3 m o _ HV3 E2 E3 J2_2 J3_2).mono ?_; rintro e w3 ⟨rfl, x3⟩; have X3 := Lib.hid (X2.out.trans x3); have J1_3 := Lib.hid (H1.out.ext X3.out); have J2_3 := Lib.hid (H2.out.ext X3.out); have J3_3 := Lib.hid (H3.out.ext X3.out); have m4 : True := trivial)
    | (have z := m4; clear z m4; go_at_call 14; refine (rowCmp_lit A1 A3 c1 c3 n1 n3 l o _ HV4 E1 E3 J1_3 J3_3).mono ?_; rintro e w4 ⟨rfl, x4⟩; have X4 := Lib.hid (X3.out.trans x4); have J1_4 := Lib.hid (H1.out.ext X4.out); have J2_4 := Lib.hid (H2.out.ext X4.out); have J3_4 := Lib.hid (H3.out.ext X4.out); have m5 : True := trivial)
    | (have z := m5; clear z m5; go_at_call 23; refine (encode_lit A1 c1 n1 l _ HK E1 J1_4 T1 (G.ext X4.out)).mono ?_; rintro e w5 ⟨x5, xA, xn, xc, rfl, ob5⟩; have xO := Lib.hid ob5; have X5 := Lib.hid (X4.out.trans x5); have J1_5 := Lib.hid (H1.out.ext X5.out); have J2_5 := Lib.hid (H2.out.ext X5.out); clear ob5; have m6 : True := trivial)
    | (have z := m6; clear z m6; go_at_call 23; refine (encode_ok A2 c2 n2 m _ HQ E2 J2_5 T2 (G.ext X5.out)).mono ?_; rintro e w6 ⟨x6, yA, yn, yc, rfl, ob6⟩; have yO := Lib.hid ob6; have X6 := Lib.hid (X5.out.trans x6); have J1_6 := Lib.hid (H1.out.ext X6.out); have J2_6 := Lib.hid (H2.out.ext X6.out); clear ob6; have m7 : True := trivial)
    | (have z := m7; clear z m7; go_at_call 13; refine (known_true _ (G.ext X6.out)).mono ?_; rintro e w7 ⟨rfl, x7⟩; have X7 := Lib.hid (X6.out.trans x7); have m8 : True := trivial)
    | fail)
  go_ret
  exact ⟨rfl, X7.out⟩
include G E1 E2 E3 H1 H2 H3 T1 T2 in
set_option maxRecDepth 100000 in
set_option maxHeartbeats 2000000 in
theorem order_m_m_m_11 (s0 s : Int) (hs0 : IntKind.i64.wrap ((n1 : Int) + (n2 : Int)) = s0) (hs : IntKind.i64.wrap (s0 + (n3 : Int)) = s) (hlt : ¬ 4000 < s) (k : Int) (hk : (k != 0) = true) (q : Int) (hq : (q != 0) = true) (HV1 : Hid (cmpR l m = -1)) (HV2 : Hid (cmpR m l = 1)) (HV3 : Hid (cmpR m o = -1)) (HV4 : Hid (cmpR l o = -1)) (HK : Hid (checkR l = k)) (HQ : Hid (checkR m = q)) :
    Calls Tryd.prog 6 #[.slice A1 n1 c1, .slice A2 n2 c2, .slice A3 n3 c3] w fun e w' => e = .returned (.bool true) ∧ Ext w w' := by
  have m1 : True := trivial
  go_enter Tryd.func6, Tryd.ntmps6
  go_wp2_with (first
    | (have z := m1; clear z m1; go_at_call 14; refine (rowCmp_lit A1 A2 c1 c2 n1 n2 l m _ HV1 E1 E2 H1 H2).mono ?_; rintro e w1 ⟨rfl, x1⟩; have X1 := Lib.hid (x1); have J1_1 := Lib.hid (H1.out.ext X1.out); have J2_1 := Lib.hid (H2.out.ext X1.out); have J3_1 := Lib.hid (H3.out.ext X1.out); have m2 : True := trivial)
    | (have z := m2; clear z m2; go_at_call 14; refine (rowCmp_lit A2 A1 c2 c1 n2 n1 m l _ HV2 E2 E1 J2_1 J1_1).mono ?_; rintro e w2 ⟨rfl, x2⟩; have X2 := Lib.hid (X1.out.trans x2); have J1_2 := Lib.hid (H1.out.ext X2.out); have J2_2 := Lib.hid (H2.out.ext X2.out); have J3_2 := Lib.hid (H3.out.ext X2.out); have m3 : True := trivial)
    | (have z := m3; clear z m3; go_at_call 14; refine (rowCmp_lit A2 A3 c2 c3 n2 n3 m o _ HV3 E2 E3 J2_2 J3_2).mono ?_; rintro e w3 ⟨rfl, x3⟩; have X3 := Lib.hid (X2.out.trans x3); have J1_3 := Lib.hid (H1.out.ext X3.out); have J2_3 := Lib.hid (H2.out.ext X3.out); have J3_3 := Lib.hid (H3.out.ext X3.out); have m4 : True := trivial)
    | (have z := m4; clear z m4; go_at_call 14; refine (rowCmp_lit A1 A3 c1 c3 n1 n3 l o _ HV4 E1 E3 J1_3 J3_3).mono ?_; rintro e w4 ⟨rfl, x4⟩; have X4 := Lib.hid (X3.out.trans x4); have J1_4 := Lib.hid (H1.out.ext X4.out); have J2_4 := Lib.hid (H2.out.ext X4.out); have J3_4 := Lib.hid (H3.out.ext X4.out); have m5 : True := trivial)
    | (have z := m5; clear z m5; go_at_call 23; refine (encode_lit A1 c1 n1 l _ HK E1 J1_4 T1 (G.ext X4.out)).mono ?_; rintro e w5 ⟨x5, xA, xn, xc, rfl, ob5⟩; have xO := Lib.hid ob5; have X5 := Lib.hid (X4.out.trans x5); have J1_5 := Lib.hid (H1.out.ext X5.out); have J2_5 := Lib.hid (H2.out.ext X5.out); clear ob5; have m6 : True := trivial)
    | (have z := m6; clear z m6; go_at_call 23; refine (encode_lit A2 c2 n2 m _ HQ E2 J2_5 T2 (G.ext X5.out)).mono ?_; rintro e w6 ⟨x6, yA, yn, yc, rfl, ob6⟩; have yO := Lib.hid ob6; have X6 := Lib.hid (X5.out.trans x6); have J1_6 := Lib.hid (H1.out.ext X6.out); have J2_6 := Lib.hid (H2.out.ext X6.out); clear ob6; have m7 : True := trivial)
    | (have z := m7; clear z m7; go_at_call 13; refine (known_true _ (G.ext X6.out)).mono ?_; rintro e w7 ⟨rfl, x7⟩; have X7 := Lib.hid (X6.out.trans x7); have m8 : True := trivial)
    | fail)
  go_ret
  exact ⟨rfl, X7.out⟩
include G E1 E2 E3 H1 H2 H3 T1 T2 in
set_option maxRecDepth 100000 in
set_option maxHeartbeats 2000000 in
theorem order_m_m_z_00 (s0 s : Int) (hs0 : IntKind.i64.wrap ((n1 : Int) + (n2 : Int)) = s0) (hs : IntKind.i64.wrap (s0 + (n3 : Int)) = s) (hlt : ¬ 4000 < s) (HV1 : Hid (cmpR l m = -1)) (HV2 : Hid (cmpR m l = 1)) (HV3 : Hid (cmpR m o = -1)) (HV4 : Hid (cmpR l o = 0)) (HK : Hid (checkR l = 0)) (HQ : Hid (checkR m = 0)) :
    Calls Tryd.prog 6 #[.slice A1 n1 c1, .slice A2 n2 c2, .slice A3 n3 c3] w fun e w' => e = .returned (.bool true) ∧ Ext w w' := by
  have m1 : True := trivial
  go_enter Tryd.func6, Tryd.ntmps6
  go_wp2_with (first
    | (have z := m1; clear z m1; go_at_call 14; refine (rowCmp_lit A1 A2 c1 c2 n1 n2 l m _ HV1 E1 E2 H1 H2).mono ?_; rintro e w1 ⟨rfl, x1⟩; have X1 := Lib.hid (x1); have J1_1 := Lib.hid (H1.out.ext X1.out); have J2_1 := Lib.hid (H2.out.ext X1.out); have J3_1 := Lib.hid (H3.out.ext X1.out); have m2 : True := trivial)
    | (have z := m2; clear z m2; go_at_call 14; refine (rowCmp_lit A2 A1 c2 c1 n2 n1 m l _ HV2 E2 E1 J2_1 J1_1).mono ?_; rintro e w2 ⟨rfl, x2⟩; have X2 := Lib.hid (X1.out.trans x2); have J1_2 := Lib.hid (H1.out.ext X2.out); have J2_2 := Lib.hid (H2.out.ext X2.out); have J3_2 := Lib.hid (H3.out.ext X2.out); have m3 : True := trivial)
    | (have z := m3; clear z m3; go_at_call 14; refine (rowCmp_lit A2 A3 c2 c3 n2 n3 m o _ HV3 E2 E3 J2_2 J3_2).mono ?_; rintro e w3 ⟨rfl, x3⟩; have X3 := Lib.hid (X2.out.trans x3); have J1_3 := Lib.hid (H1.out.ext X3.out); have J2_3 := Lib.hid (H2.out.ext X3.out); have J3_3 := Lib.hid (H3.out.ext X3.out); have m4 : True := trivial)
    | (have z := m4; clear z m4; go_at_call 14; refine (rowCmp_lit A1 A3 c1 c3 n1 n3 l o _ HV4 E1 E3 J1_3 J3_3).mono ?_; rintro e w4 ⟨rfl, x4⟩; have X4 := Lib.hid (X3.out.trans x4); have J1_4 := Lib.hid (H1.out.ext X4.out); have J2_4 := Lib.hid (H2.out.ext X4.out); have J3_4 := Lib.hid (H3.out.ext X4.out); have m5 : True := trivial)
    | (have z := m5; clear z m5; go_at_call 23; refine (encode_ok A1 c1 n1 l _ HK E1 J1_4 T1 (G.ext X4.out)).mono ?_; rintro e w5 ⟨x5, xA, xn, xc, rfl, ob5⟩; have xO := Lib.hid ob5; have X5 := Lib.hid (X4.out.trans x5); have J1_5 := Lib.hid (H1.out.ext X5.out); have J2_5 := Lib.hid (H2.out.ext X5.out); clear ob5; have m6 : True := trivial)
    | (have z := m6; clear z m6; go_at_call 23; refine (encode_ok A2 c2 n2 m _ HQ E2 J2_5 T2 (G.ext X5.out)).mono ?_; rintro e w6 ⟨x6, yA, yn, yc, rfl, ob6⟩; have yO := Lib.hid ob6; have X6 := Lib.hid (X5.out.trans x6); have J1_6 := Lib.hid (H1.out.ext X6.out); have J2_6 := Lib.hid (H2.out.ext X6.out); clear ob6; have m7 : True := trivial)
    | (have z := m7; clear z m7; go_at_call 13; refine (known_true _ (G.ext X6.out)).mono ?_; rintro e w7 ⟨rfl, x7⟩; have X7 := Lib.hid (X6.out.trans x7); have m8 : True := trivial)
    | (go_at_call 24; refine (lawBytes_any (-1) xA yA xc yc xn yn (keyT l) (keyT m) _ (Lib.hid (key_cmp T1.out T2.out HK.out HQ.out HV1.out)) (Lib.hid (by have := xO.out; exact this.len)) (Lib.hid (by have := yO.out; exact this.len)) (Lib.hid (by have := xO.out; exact (this.bs.ext x6).ext x7)) (Lib.hid (by have := yO.out; exact this.bs.ext x7))).mono ?_; rintro e w8 ⟨rfl, x8⟩; have X8 := Lib.hid (X7.out.trans x8))
    | fail)
  go_ret
  exact ⟨rfl, X8.out⟩
include G E1 E2 E3 H1 H2 H3 T1 T2 in
set_option maxRecDepth 100000 in
set_option maxHeartbeats 2000000 in
theorem order_m_m_z_01 (s0 s : Int) (hs0 : IntKind.i64.wrap ((n1 : Int) + (n2 : Int)) = s0) (hs : IntKind.i64.wrap (s0 + (n3 : Int)) = s) (hlt : ¬ 4000 < s) (q : Int) (hq : (q != 0) = true) (HV1 : Hid (cmpR l m = -1)) (HV2 : Hid (cmpR m l = 1)) (HV3 : Hid (cmpR m o = -1)) (HV4 : Hid (cmpR l o = 0)) (HK : Hid (checkR l = 0)) (HQ : Hid (checkR m = q)) :
    Calls Tryd.prog 6 #[.slice A1 n1 c1, .slice A2 n2 c2, .slice A3 n3 c3] w fun e w' => e = .returned (.bool true) ∧ Ext w w' := by
  have m1 : True := trivial
  go_enter Tryd.func6, Tryd.ntmps6
  go_wp2_with (first
    | (have z := m1; clear z m1; go_at_call 14; refine (rowCmp_lit A1 A2 c1 c2 n1 n2 l m _ HV1 E1 E2 H1 H2).mono ?_; rintro e w1 ⟨rfl, x1⟩; have X1 := Lib.hid (x1); have J1_1 := Lib.hid (H1.out.ext X1.out); have J2_1 := Lib.hid (H2.out.ext X1.out); have J3_1 := Lib.hid (H3.out.ext X1.out); have m2 : True := trivial)
    | (have z := m2; clear z m2; go_at_call 14; refine (rowCmp_lit A2 A1 c2 c1 n2 n1 m l _ HV2 E2 E1 J2_1 J1_1).mono ?_; rintro e w2 ⟨rfl, x2⟩; have X2 := Lib.hid (X1.out.trans x2); have J1_2 := Lib.hid (H1.out.ext X2.out); have J2_2 := Lib.hid (H2.out.ext X2.out); have J3_2 := Lib.hid (H3.out.ext X2.out); have m3 : True := trivial)
    | (have z := m3; clear z m3; go_at_call 14; refine (rowCmp_lit A2 A3 c2 c3 n2 n3 m o _ HV3 E2 E3 J2_2 J3_2).mono ?_; rintro e w3 ⟨rfl, x3⟩; have X3 := Lib.hid (X2.out.trans x3); have J1_3 := Lib.hid (H1.out.ext X3.out); have J2_3 := Lib.hid (H2.out.ext X3.out); have J3_3 := Lib.hid (H3.out.ext X3.out); have m4 : True := trivial)
    | (have z := m4; clear z m4; go_at_call 14; refine (rowCmp_lit A1 A3 c1 c3 n1 n3 l o _ HV4 E1 E3 J1_3 J3_3).mono ?_; rintro e w4 ⟨rfl, x4⟩; have X4 := Lib.hid (X3.out.trans x4); have J1_4 := Lib.hid (H1.out.ext X4.out); have J2_4 := Lib.hid (H2.out.ext X4.out); have J3_4 := Lib.hid (H3.out.ext X4.out); have m5 : True := trivial)
    | (have z := m5; clear z m5; go_at_call 23; refine (encode_ok A1 c1 n1 l _ HK E1 J1_4 T1 (G.ext X4.out)).mono ?_; rintro e w5 ⟨x5, xA, xn, xc, rfl, ob5⟩; have xO := Lib.hid ob5; have X5 := Lib.hid (X4.out.trans x5); have J1_5 := Lib.hid (H1.out.ext X5.out); have J2_5 := Lib.hid (H2.out.ext X5.out); clear ob5; have m6 : True := trivial)
    | (have z := m6; clear z m6; go_at_call 23; refine (encode_lit A2 c2 n2 m _ HQ E2 J2_5 T2 (G.ext X5.out)).mono ?_; rintro e w6 ⟨x6, yA, yn, yc, rfl, ob6⟩; have yO := Lib.hid ob6; have X6 := Lib.hid (X5.out.trans x6); have J1_6 := Lib.hid (H1.out.ext X6.out); have J2_6 := Lib.hid (H2.out.ext X6.out); clear ob6; have m7 : True := trivial)
    | (have z := m7; clear z m7; go_at_call 13; refine (known_true _ (G.ext X6.out)).mono ?_; rintro e w7 ⟨rfl, x7⟩; have X7 := Lib.hid (X6.out.trans x7); have m8 : True := trivial)
    | fail)
  go_ret
  exact ⟨rfl, X7.out⟩
include G E1 E2 E3 H1 H2 H3 T1 T2 in
set_option maxRecDepth 100000 in
set_option maxHeartbeats 2000000 in
theorem order_m_m_z_10 (s0 s : Int) (hs0 : IntKind.i64.wrap ((n1 : Int) + (n2 : Int)) = s0) (hs : IntKind.i64.wrap (s0 + (n3 : Int)) = s) (hlt : ¬ 4000 < s) (k : Int) (hk : (k != 0) = true) (HV1 : Hid (cmpR l m = -1)) (HV2 : Hid (cmpR m l = 1)) (HV3 : Hid (cmpR m o = -1)) (HV4 : Hid (cmpR l o = 0)) (HK : Hid (checkR l = k)) (HQ : Hid (checkR m = 0)) :
    Calls Tryd.prog 6 #[.slice A1 n1 c1, .slice A2 n2 c2, .slice A3 n3 c3] w fun e w' => e = .returned (.bool true) ∧ Ext w w' := by
  have m1 : True := trivial
  go_enter Tryd.func6, Tryd.ntmps6
  go_wp2_with (first
    | (have z := m1; clear z m1; go_at_call 14; refine (rowCmp_lit A1 A2 c1 c2 n1 n2 l m _ HV1 E1 E2 H1 H2).mono ?_; rintro e w1 ⟨rfl, x1⟩; have X1 := Lib.hid (x1); have J1_1 := Lib.hid (H1.out.ext X1.out); have J2_1 := Lib.hid (H2.out.ext X1.out); have J3_1 := Lib.hid (H3.out.ext X1.out); have m2 : True := trivial)
    | (have z := m2; clear z m2; go_at_call 14; refine (rowCmp_lit A2 A1 c2 c1 n2 n1 m l _ HV2 E2 E1 J2_1 J1_1).mono ?_; rintro e w2 ⟨rfl, x2⟩; have X2 := Lib.hid (X1.out.trans x2); have J1_2 := Lib.hid (H1.out.ext X2.out); have J2_2 := Lib.hid (H2.out.ext X2.out); have J3_2 := Lib.hid (H3.out.ext X2.out); have m3 : True := trivial)
    | (have z := m3; clear z m3; go_at_call 14; refine (rowCmp_lit A2 A3 c2 c3 n2 n3 m o _ HV3 E2 E3 J2_2 J3_2).mono ?_; rintro e w3 ⟨rfl, x3⟩; have X3 := Lib.hid (X2.out.trans x3); have J1_3 := Lib.hid (H1.out.ext X3.out); have J2_3 := Lib.hid (H2.out.ext X3.out); have J3_3 := Lib.hid (H3.out.ext X3.out); have m4 : True := trivial)
    | (have z := m4; clear z m4; go_at_call 14; refine (rowCmp_lit A1 A3 c1 c3 n1 n3 l o _ HV4 E1 E3 J1_3 J3_3).mono ?_; rintro e w4 ⟨rfl, x4⟩; have X4 := Lib.hid (X3.out.trans x4); have J1_4 := Lib.hid (H1.out.ext X4.out); have J2_4 := Lib.hid (H2.out.ext X4.out); have J3_4 := Lib.hid (H3.out.ext X4.out); have m5 : True := trivial)
    | (have z := m5; clear z m5; go_at_call 23; refine (encode_lit A1 c1 n1 l _ HK E1 J1_4 T1 (G.ext X4.out)).mono ?_; rintro e w5 ⟨x5, xA, xn, xc, rfl, ob5⟩; have xO := Lib.hid ob5; have X5 := Lib.hid (X4.out.trans x5); have J1_5 := Lib.hid (H1.out.ext X5.out); have J2_5 := Lib.hid (H2.out.ext X5.out); clear ob5; have m6 : True := trivial)
    | (have z := m6; clear z m6; go_at_call 23; refine (encode_ok A2 c2 n2 m _ HQ E2 J2_5 T2 (G.ext X5.out)).mono ?_; rintro e w6 ⟨x6, yA, yn, yc, rfl, ob6⟩; have yO := Lib.hid ob6; have X6 := Lib.hid (X5.out.trans x6); have J1_6 := Lib.hid (H1.out.ext X6.out); have J2_6 := Lib.hid (H2.out.ext X6.out); clear ob6; have m7 : True := trivial)
    | (have z := m7; clear z m7; go_at_call 13; refine (known_true _ (G.ext X6.out)).mono ?_; rintro e w7 ⟨rfl, x7⟩; have X7 := Lib.hid (X6.out.trans x7); have m8 : True := trivial)
    | fail)
  go_ret
  exact ⟨rfl, X7.out⟩
include G E1 E2 E3 H1 H2 H3 T1 T2 in
set_option maxRecDepth 100000 in
set_option maxHeartbeats 2000000 in
theorem order_m_m_z_11 (s0 s : Int) (hs0 : IntKind.i64.wrap ((n1 : Int) + (n2 : Int)) = s0) (hs : IntKind.i64.wrap (s0 + (n3 : Int)) = s) (hlt : ¬ 4000 < s) (k : Int) (hk : (k != 0) = true) (q : Int) (hq : (q != 0) = true) (HV1 : Hid (cmpR l m = -1)) (HV2 : Hid (cmpR m l = 1)) (HV3 : Hid (cmpR m o = -1)) (HV4 : Hid (cmpR l o = 0)) (HK : Hid (checkR l = k)) (HQ : Hid (checkR m = q)) :
    Calls Tryd.prog 6 #[.slice A1 n1 c1, .slice A2 n2 c2, .slice A3 n3 c3] w fun e w' => e = .returned (.bool true) ∧ Ext w w' := by
  have m1 : True := trivial
  go_enter Tryd.func6, Tryd.ntmps6
  go_wp2_with (first
    | (have z := m1; clear z m1; go_at_call 14; refine (rowCmp_lit A1 A2 c1 c2 n1 n2 l m _ HV1 E1 E2 H1 H2).mono ?_; rintro e w1 ⟨rfl, x1⟩; have X1 := Lib.hid (x1); have J1_1 := Lib.hid (H1.out.ext X1.out); have J2_1 := Lib.hid (H2.out.ext X1.out); have J3_1 := Lib.hid (H3.out.ext X1.out); have m2 : True := trivial)
    | (have z := m2; clear z m2; go_at_call 14; refine (rowCmp_lit A2 A1 c2 c1 n2 n1 m l _ HV2 E2 E1 J2_1 J1_1).mono ?_; rintro e w2 ⟨rfl, x2⟩; have X2 := Lib.hid (X1.out.trans x2); have J1_2 := Lib.hid (H1.out.ext X2.out); have J2_2 := Lib.hid (H2.out.ext X2.out); have J3_2 := Lib.hid (H3.out.ext X2.out); have m3 : True := trivial)
    | (have z := m3; clear z m3; go_at_call 14; refine (rowCmp_lit A2 A3 c2 c3 n2 n3 m o _ HV3 E2 E3 J2_2 J3_2).mono ?_; rintro e w3 ⟨rfl, x3⟩; have X3 := Lib.hid (X2.out.trans x3); have J1_3 := Lib.hid (H1.out.ext X3.out); have J2_3 := Lib.hid (H2.out.ext X3.out); have J3_3 := Lib.hid (H3.out.ext X3.out); have m4 : True := trivial)
    | (have z := m4; clear z m4; go_at_call 14; refine (rowCmp_lit A1 A3 c1 c3 n1 n3 l o _ HV4 E1 E3 J1_3 J3_3).mono ?_; rintro e w4 ⟨rfl, x4⟩; have X4 := Lib.hid (X3.out.trans x4); have J1_4 := Lib.hid (H1.out.ext X4.out); have J2_4 := Lib.hid (H2.out.ext X4.out); have J3_4 := Lib.hid (H3.out.ext X4.out); have m5 : True := trivial)
    | (have z := m5; clear z m5; go_at_call 23; refine (encode_lit A1 c1 n1 l _ HK E1 J1_4 T1 (G.ext X4.out)).mono ?_; rintro e w5 ⟨x5, xA, xn, xc, rfl, ob5⟩; have xO := Lib.hid ob5; have X5 := Lib.hid (X4.out.trans x5); have J1_5 := Lib.hid (H1.out.ext X5.out); have J2_5 := Lib.hid (H2.out.ext X5.out); clear ob5; have m6 : True := trivial)
    | (have z := m6; clear z m6; go_at_call 23; refine (encode_lit A2 c2 n2 m _ HQ E2 J2_5 T2 (G.ext X5.out)).mono ?_; rintro e w6 ⟨x6, yA, yn, yc, rfl, ob6⟩; have yO := Lib.hid ob6; have X6 := Lib.hid (X5.out.trans x6); have J1_6 := Lib.hid (H1.out.ext X6.out); have J2_6 := Lib.hid (H2.out.ext X6.out); clear ob6; have m7 : True := trivial)
    | (have z := m7; clear z m7; go_at_call 13; refine (known_true _ (G.ext X6.out)).mono ?_; rintro e w7 ⟨rfl, x7⟩; have X7 := Lib.hid (X6.out.trans x7); have m8 : True := trivial)
    | fail)
  go_ret
  exact ⟨rfl, X7.out⟩
include G E1 E2 E3 H1 H2 H3 T1 T2 in
set_option maxRecDepth 100000 in
set_option maxHeartbeats 2000000 in
theorem order_m_z_m_00 (s0 s : Int) (hs0 : IntKind.i64.wrap ((n1 : Int) + (n2 : Int)) = s0) (hs : IntKind.i64.wrap (s0 + (n3 : Int)) = s) (hlt : ¬ 4000 < s) (HV1 : Hid (cmpR l m = -1)) (HV2 : Hid (cmpR m l = 1)) (HV3 : Hid (cmpR m o = 0)) (HV4 : Hid (cmpR l o = -1)) (HK : Hid (checkR l = 0)) (HQ : Hid (checkR m = 0)) :
    Calls Tryd.prog 6 #[.slice A1 n1 c1, .slice A2 n2 c2, .slice A3 n3 c3] w fun e w' => e = .returned (.bool true) ∧ Ext w w' := by
  have m1 : True := trivial
  go_enter Tryd.func6, Tryd.ntmps6
  go_wp2_with (first
    | (have z := m1; clear z m1; go_at_call 14; refine (rowCmp_lit A1 A2 c1 c2 n1 n2 l m _ HV1 E1 E2 H1 H2).mono ?_; rintro e w1 ⟨rfl, x1⟩; have X1 := Lib.hid (x1); have J1_1 := Lib.hid (H1.out.ext X1.out); have J2_1 := Lib.hid (H2.out.ext X1.out); have J3_1 := Lib.hid (H3.out.ext X1.out); have m2 : True := trivial)
    | (have z := m2; clear z m2; go_at_call 14; refine (rowCmp_lit A2 A1 c2 c1 n2 n1 m l _ HV2 E2 E1 J2_1 J1_1).mono ?_; rintro e w2 ⟨rfl, x2⟩; have X2 := Lib.hid (X1.out.trans x2); have J1_2 := Lib.hid (H1.out.ext X2.out); have J2_2 := Lib.hid (H2.out.ext X2.out); have J3_2 := Lib.hid (H3.out.ext X2.out); have m3 : True := trivial)
    | (have z := m3; clear z m3; go_at_call 14; refine (rowCmp_lit A2 A3 c2 c3 n2 n3 m o _ HV3 E2 E3 J2_2 J3_2).mono ?_; rintro e w3 ⟨rfl, x3⟩; have X3 := Lib.hid (X2.out.trans x3); have J1_3 := Lib.hid (H1.out.ext X3.out); have J2_3 := Lib.hid (H2.out.ext X3.out); have J3_3 := Lib.hid (H3.out.ext X3.out); have m4 : True := trivial)
    | (have z := m4; clear z m4; go_at_call 14; refine (rowCmp_lit A1 A3 c1 c3 n1 n3 l o _ HV4 E1 E3 J1_3 J3_3).mono ?_; rintro e w4 ⟨rfl, x4⟩; have X4 := Lib.hid (X3.out.trans x4); have J1_4 := Lib.hid (H1.out.ext X4.out); have J2_4 := Lib.hid (H2.out.ext X4.out); have J3_4 := Lib.hid (H3.out.ext X4.out); have m5 : True := trivial)
    | (have z := m5; clear z m5; go_at_call 23; refine (encode_ok A1 c1 n1 l _ HK E1 J1_4 T1 (G.ext X4.out)).mono ?_; rintro e w5 ⟨x5, xA, xn, xc, rfl, ob5⟩; have xO := Lib.hid ob5; have X5 := Lib.hid (X4.out.trans x5); have J1_5 := Lib.hid (H1.out.ext X5.out); have J2_5 := Lib.hid (H2.out.ext X5.out); clear ob5; have m6 : True := trivial)
    | (have z := m6; clear z m6; go_at_call 23; refine (encode_ok A2 c2 n2 m _ HQ E2 J2_5 T2 (G.ext X5.out)).mono ?_; rintro e w6 ⟨x6, yA, yn, yc, rfl, ob6⟩; have yO := Lib.hid ob6; have X6 := Lib.hid (X5.out.trans x6); have J1_6 := Lib.hid (H1.out.ext X6.out); have J2_6 := Lib.hid (H2.out.ext X6.out); clear ob6; have m7 : True := trivial)
    | (have z := m7; clear z m7; go_at_call 13; refine (known_true _ (G.ext X6.out)).mono ?_; rintro e w7 ⟨rfl, x7⟩; have X7 := Lib.hid (X6.out.trans x7); have m8 : True := trivial)
    | (go_at_call 24; refine (lawBytes_any (-1) xA yA xc yc xn yn (keyT l) (keyT m) _ (Lib.hid (key_cmp T1.out T2.out HK.out HQ.out HV1.out)) (Lib.hid (by have := xO.out; exact this.len)) (Lib.hid (by have := yO.out; exact this.len)) (Lib.hid (by have := xO.out; exact (this.bs.ext x6).ext x7)) (Lib.hid (by have := yO.out; exact this.bs.ext x7))).mono ?_; rintro e w8 ⟨rfl, x8⟩; have X8 := Lib.hid (X7.out.trans x8))
    | fail)
  go_ret
  exact ⟨rfl, X8.out⟩
include G E1 E2 E3 H1 H2 H3 T1 T2 in
set_option maxRecDepth 100000 in
set_option maxHeartbeats 2000000 in
theorem order_m_z_m_01 (s0 s : Int) (hs0 : IntKind.i64.wrap ((n1 : Int) + (n2 : Int)) = s0) (hs : IntKind.i64.wrap (s0 + (n3 : Int)) = s) (hlt : ¬ 4000 < s) (q : Int) (hq : (q != 0) = true) (HV1 : Hid (cmpR l m = -1)) (HV2 : Hid (cmpR m l = 1)) (HV3 : Hid (cmpR m o = 0)) (HV4 : Hid (cmpR l o = -1)) (HK : Hid (checkR l = 0)) (HQ : Hid (checkR m = q)) :
    Calls Tryd.prog 6 #[.slice A1 n1 c1, .slice A2 n2 c2, .slice A3 n3 c3] w fun e w' => e = .returned (.bool true) ∧ Ext w w' := by
  have m1 : True := trivial
  go_enter Tryd.func6, Tryd.ntmps6
  go_wp2_with (first
    | (have z := m1; clear z m1; go_at_call 14; refine (rowCmp_lit A1 A2 c1 c2 n1 n2 l m _ HV1 E1 E2 H1 H2).mono ?_; rintro e w1 ⟨rfl, x1⟩; have X1 := Lib.hid (x1); have J1_1 := Lib.hid (H1.out.ext X1.out); have J2_1 := Lib.hid (H2.out.ext X1.out); have J3_1 := Lib.hid (H3.out.ext X1.out); have m2 : True := trivial)
    | (have z := m2; clear z m2; go_at_call 14; refine (rowCmp_lit A2 A1 c2 c1 n2 n1 m l _ HV2 E2 E1 J2_1 J1_1).mono ?_; rintro e w2 ⟨rfl, x2⟩; have X2 := Lib.hid (X1.out.trans x2); have J1_2 := Lib.hid (H1.out.ext X2.out); have J2_2 := Lib.hid (H2.out.ext X2.out); have J3_2 := Lib.hid (H3.out.ext X2.out); have m3 : True := trivial)
    | (have z := m3; clear z m3; go_at_call 14; refine (rowCmp_lit A2 A3 c2 c3 n2 n3 m o _ HV3 E2 E3 J2_2 J3_2).mono ?_; rintro e w3 ⟨rfl, x3⟩; have X3 := Lib.hid (X2.out.trans x3); have J1_3 := Lib.hid (H1.out.ext X3.out); have J2_3 := Lib.hid (H2.out.ext X3.out); have J3_3 := Lib.hid (H3.out.ext X3.out); have m4 : True := trivial)
    | (have z := m4; clear z m4; go_at_call 14; refine (rowCmp_lit A1 A3 c1 c3 n1 n3 l o _ HV4 E1 E3 J1_3 J3_3).mono ?_; rintro e w4 ⟨rfl, x4⟩; have X4 := Lib.hid (X3.out.trans x4); have J1_4 := Lib.hid (H1.out.ext X4.out); have J2_4 := Lib.hid (H2.out.ext X4.out); have J3_4 := Lib.hid (H3.out.ext X4.out); have m5 : True := trivial)
    | (have z := m5; clear z m5; go_at_call 23; refine (encode_ok A1 c1 n1 l _ HK E1 J1_4 T1 (G.ext X4.out)).mono ?_; rintro e w5 ⟨x5, xA, xn, xc, rfl, ob5⟩; have xO := Lib.hid ob5; have X5 := Lib.hid (X4.out.trans x5); have J1_5 := Lib.hid (H1.out.ext X5.out); have J2_5 := Lib.hid (H2.out.ext X5.out); clear ob5; have m6 : True := trivial)
    | (have z := m6; clear z m6; go_at_call 23; refine (encode_lit A2 c2 n2 m _ HQ E2 J2_5 T2 (G.ext X5.out)).mono ?_; rintro e w6 ⟨x6, yA, yn, yc, rfl, ob6⟩; have yO := Lib.hid ob6; have X6 := Lib.hid (X5.out.trans x6); have J1_6 := Lib.hid (H1.out.ext X6.out); have J2_6 := Lib.hid (H2.out.ext X6.out); clear ob6; have m7 : True := trivial)
    | (have z := m7; clear z m7; go_at_call 13; refine (known_true _ (G.ext X6.out)).mono ?_; rintro e w7 ⟨rfl, x7⟩; have X7 := Lib.hid (X6.out.trans x7); have m8 : True := trivial)
    | fail)
  go_ret
  exact ⟨rfl, X7.out⟩
include G E1 E2 E3 H1 H2 H3 T1 T2 in
set_option maxRecDepth 100000 in
set_option maxHeartbeats 2000000 in
theorem order_m_z_m_10 (s0 s : Int) (hs0 : IntKind.i64.wrap ((n1 : Int) + (n2 : Int)) = s0) (hs : IntKind.i64.wrap (s0 + (n3 : Int)) = s) (hlt : ¬ 4000 < s) (k : Int) (hk : (k != 0) = true) (HV1 : Hid (cmpR l m = -1)) (HV2 : Hid (cmpR m l = 1)) (HV3 : Hid (cmpR m o = 0)) (HV4 : Hid (cmpR l o = -1)) (HK : Hid (checkR l = k)) (HQ : Hid (checkR m = 0)) :
    Calls Tryd.prog 6 #[.slice A1 n1 c1, .slice A2 n2 c2, .slice A3 n3 c3] w fun e w' => e = .returned (.bool true) ∧ Ext w w' := by
  have m1 : True := trivial
  go_enter Tryd.func6, Tryd.ntmps6
  go_wp2_with (first
    | (have z := m1; clear z m1; go_at_call 14; refine (rowCmp_lit A1 A2 c1 c2 n1 n2 l m _ HV1 E1 E2 H1 H2).mono ?_; rintro e w1 ⟨rfl, x1⟩; have X1 := Lib.hid (x1); have J1_1 := Lib.hid (H1.out.ext X1.out); have J2_1 := Lib.hid (H2.out.ext X1.out); have J3_1 := Lib.hid (H3.out.ext X1.out); have m2 : True := trivial)
    | (have z := m2; clear z m2; go_at_call 14; refine (rowCmp_lit A2 A1 c2 c1 n2 n1 m l _ HV2 E2 E1 J2_1 J1_1).mono ?_; rintro e w2 ⟨rfl, x2⟩; have X2 := Lib.hid (X1.out.trans x2); have J1_2 := Lib.hid (H1.out.ext X2.out); have J2_2 := Lib.hid (H2.out.ext X2.out); have J3_2 := Lib.hid (H3.out.ext X2.out); have m3 : True := trivial)
    | (have z := m3; clear z m3; go_at_call 14; refine (rowCmp_lit A2 A3 c2 c3 n2 n3 m o _ HV3 E2 E3 J2_2 J3_2).mono ?_; rintro e w3 ⟨rfl, x3⟩; have X3 := Lib.hid (X2.out.trans x3); have J1_3 := Lib.hid (H1.out.ext X3.out); have J2_3 := Lib.hid (H2.out.ext X3.out); have J3_3 := Lib.hid (H3.out.ext X3.out); have m4 : True := trivial)
    | (have z := m4; clear z m4; go_at_call 14; refine (rowCmp_lit A1 A3 c1 c3 n1 n3 l o _ HV4 E1 E3 J1_3 J3_3).mono ?_; rintro e w4 ⟨rfl, x4⟩; have X4 := Lib.hid (X3.out.trans x4); have J1_4 := Lib.hid (H1.out.ext X4.out); have J2_4 := Lib.hid (H2.out.ext X4.out); have J3_4 := Lib.hid (H3.out.ext X4.out); have m5 : True := trivial)
    | (have z := m5; clear z m5; go_at_call 23; refine (encode_lit A1 c1 n1 l _ HK E1 J1_4 T1 (G.ext X4.out)).mono ?_; rintro e w5 ⟨x5, xA, xn, xc, rfl, ob5⟩; have xO := Lib.hid ob5; have X5 := Lib.hid (X4.out.trans x5); have J1_5 := Lib.hid (H1.out.ext X5.out); have J2_5 := Lib.hid (H2.out.ext X5.out); clear ob5; have m6 : True := trivial)
    | (have z := m6; clear z m6; go_at_call 23; refine (encode_ok A2 c2 n2 m _ HQ E2 J2_5 T2 (G.ext X5.out)).mono ?_; rintro e w6 ⟨x6, yA, yn, yc, rfl, ob6⟩; have yO := Lib.hid ob6; have X6 := Lib.hid (X5.out.trans x6); have J1_6 := Lib.hid (H1.out.ext X6.out); have J2_6 := Lib.hid (H2.out.ext X6.out); clear ob6; have m7 : True := trivial)
    | (have z := m7; clear z m7; go_at_call 13; refine (known_true _ (G.ext X6.out)).mono ?_; rintro e w7 ⟨rfl, x7⟩; have X7 := Lib.hid (X6.out.trans x7); have m8 : True := trivial)
    | fail)
  go_ret
  exact ⟨rfl, X7.out⟩
include G E1 E2 E3 H1 H2 H3 T1 T2 in
set_option maxRecDepth 100000 in
set_option maxHeartbeats 2000000 in
theorem order_m_z_m_11 (s0 s : Int) (hs0 : IntKind.i64.wrap ((n1 : Int) + (n2 : Int)) = s0) (hs : IntKind.i64.wrap (s0 + (n3 : Int)) = s) (hlt : ¬ 4000 < s) (k : Int) (hk : (k != 0) = true) (q : Int) (hq : (q != 0) = true) (HV1 : Hid (cmpR l m = -1)) (HV2 : Hid (cmpR m l = 1)) (HV3 : Hid (cmpR m o = 0)) (HV4 : Hid (cmpR l o = -1)) (HK : Hid (checkR l = k)) (HQ : Hid (checkR m = q)) :
    Calls Tryd.prog 6 #[.slice A1 n1 c1, .slice A2 n2 c2, .slice A3 n3 c3] w fun e w' => e = .returned (.bool true) ∧ Ext w w' := by
  have m1 : True := trivial
  go_enter Tryd.func6, Tryd.ntmps6
  go_wp2_with (first
    | (have z := m1; clear z m1; go_at_call 14; refine (rowCmp_lit A1 A2 c1 c2 n1 n2 l m _ HV1 E1 E2 H1 H2).mono ?_; rintro e w1 ⟨rfl, x1⟩; have X1 := Lib.hid (x1); have J1_1 := Lib.hid (H1.out.ext X1.out); have J2_1 := Lib.hid (H2.out.ext X1.out); have J3_1 := Lib.hid (H3.out.ext X1.out); have m2 : True := trivial)
    | (have z := m2; clear z m2; go_at_call 14; refine (rowCmp_lit A2 A1 c2 c1 n2 n1 m l _ HV2 E2 E1 J2_1 J1_1).mono ?_; rintro e w2 ⟨rfl, x2⟩; have X2 := Lib.hid (X1.out.trans x2); have J1_2 := Lib.hid (H1.out.ext X2.out); have J2_2 := Lib.hid (H2.out.ext X2.out); have J3_2 := Lib.hid (H3.out.ext X2.out); have m3 : True := trivial)
    | (have z := m3; clear z m3; go_at_call 14; refine (rowCmp_lit A2 A3 c2 c3 n2 n3 m o _ HV3 E2 E3 J2_2 J3_2).mono ?_; rintro e w3 ⟨rfl, x3⟩; have X3 := Lib.hid (X2.out.trans x3); have J1_3 := Lib.hid (H1.out.ext X3.out); have J2_3 := Lib.hid (H2.out.ext X3.out); have J3_3 := Lib.hid (H3.out.ext X3.out); have m4 : True := trivial)
    | (have z := m4; clear z m4; go_at_call 14; refine (rowCmp_lit A1 A3 c1 c3 n1 n3 l o _ HV4 E1 E3 J1_3 J3_3).mono ?_; rintro e w4 ⟨rfl, x4⟩; have X4 := Lib.hid (X3.out.trans x4); have J1_4 := Lib.hid (H1.out.ext X4.out); have J2_4 := Lib.hid (H2.out.ext X4.out); have J3_4 := Lib.hid (H3.out.ext X4.out); have m5 : True := trivial)
    | (have z := m5; clear z m5; go_at_call 23; refine (encode_lit A1 c1 n1 l _ HK E1 J1_4 T1 (G.ext X4.out)).mono ?_; rintro e w5 ⟨x5, xA, xn, xc, rfl, ob5⟩; have xO := Lib.hid ob5; have X5 := Lib.hid (X4.out.trans x5); have J1_5 := Lib.hid (H1.out.ext X5.out); have J2_5 := Lib.hid (H2.out.ext X5.out); clear ob5; have m6 : True := trivial)
    | (have z := m6; clear z m6; go_at_call 23; refine (encode_lit A2 c2 n2 m _ HQ E2 J2_5 T2 (G.ext X5.out)).mono ?_; rintro e w6 ⟨x6, yA, yn, yc, rfl, ob6⟩; have yO := Lib.hid ob6; have X6 := Lib.hid (X5.out.trans x6); have J1_6 := Lib.hid (H1.out.ext X6.out); have J2_6 := Lib.hid (H2.out.ext X6.out); clear ob6; have m7 : True := trivial)
    | (have z := m7; clear z m7; go_at_call 13; refine (known_true _ (G.ext X6.out)).mono ?_; rintro e w7 ⟨rfl, x7⟩; have X7 := Lib.hid (X6.out.trans x7); have m8 : True := trivial)
    | fail)
  go_ret
  exact ⟨rfl, X7.out⟩
include G E1 E2 E3 H1 H2 H3 T1 T2 in
set_option maxRecDepth 100000 in
set_option maxHeartbeats 2000000 in
theorem order_m_z_z_00 (s0 s : Int) (hs0 : IntKind.i64.wrap ((n1 : Int) + (n2 : Int)) = s0) (hs : IntKind.i64.wrap (s0 + (n3 : Int)) = s) (hlt : ¬ 4000 < s) (HV1 : Hid (cmpR l m = -1)) (HV2 : Hid (cmpR m l = 1)) (HV3 : Hid (cmpR m o = 0)) (HV4 : Hid (cmpR l o = 0)) (HK : Hid (checkR l = 0)) (HQ : Hid (checkR m = 0)) :
    Calls Tryd.prog 6 #[.slice A1 n1 c1, .slice A2 n2 c2, .slice A3 n3 c3] w fun e w' => e = .returned (.bool true) ∧ Ext w w' := by
  have m1 : True := trivial
  go_enter Tryd.func6, Tryd.ntmps6
  go_wp2_with (first
    | (have z := m1; clear z m1; go_at_call 14; refine (rowCmp_lit A1 A2 c1 c2 n1 n2 l m _ HV1 E1 E2 H1 H2).mono ?_; rintro e w1 ⟨rfl, x1⟩; have X1 := Lib.hid (x1); have J1_1 := Lib.hid (H1.out.ext X1.out); have J2_1 := Lib.hid (H2.out.ext X1.out); have J3_1 := Lib.hid (H3.out.ext X1.out); have m2 : True := trivial)
    | (have z := m2; clear z m2; go_at_call 14; refine (rowCmp_lit A2 A1 c2 c1 n2 n1 m l _ HV2 E2 E1 J2_1 J1_1).mono ?_; rintro e w2 ⟨rfl, x2⟩; have X2 := Lib.hid (X1.out.trans x2); have J1_2 := Lib.hid (H1.out.ext X2.out); have J2_2 := Lib.hid (H2.out.ext X2.out); have J3_2 := Lib.hid (H3.out.ext X2.out); have m3 : True := trivial)
    | (have z := m3; clear z m3; go_at_call 14; refine (rowCmp_lit A2 A3 c2 c3 n2 n3 m o _ HV3 E2 E3 J2_2 J3_2).mono ?_; rintro e w3 ⟨rfl, x3⟩; have X3 := Lib.hid (X2.out.trans x3); have J1_3 := Lib.hid (H1.out.ext X3.out); have J2_3 := Lib.hid (H2.out.ext X3.out); have J3_3 := Lib.hid (H3.out.ext X3.out); have m4 : True := trivial)
    | (have z := m4; clear z m4; go_at_call 14; refine (rowCmp_lit A1 A3 c1 c3 n1 n3 l o _ HV4 E1 E3 J1_3 J3_3).mono ?_; rintro e w4 ⟨rfl, x4⟩; have X4 := Lib.hid (X3.out.trans x4); have J1_4 := Lib.hid (H1.out.ext X4.out); have J2_4 := Lib.hid (H2.out.ext X4.out); have J3_4 := Lib.hid (H3.out.ext X4.out); have m5 : True := trivial)
    | (have z := m5; clear z m5; go_at_call 23; refine (encode_ok A1 c1 n1 l _ HK E1 J1_4 T1 (G.ext X4.out)).mono ?_; rintro e w5 ⟨x5, xA, xn, xc, rfl, ob5⟩; have xO := Lib.hid ob5; have X5 := Lib.hid (X4.out.trans x5); have J1_5 := Lib.hid (H1.out.ext X5.out); have J2_5 := Lib.hid (H2.out.ext X5.out); clear ob5; have m6 : True := trivial)
    | (have z := m6; clear z m6; go_at_call 23; refine (encode_ok A2 c2 n2 m _ HQ E2 J2_5 T2 (G.ext X5.out)).mono ?_; rintro e w6 ⟨x6, yA, yn, yc, rfl, ob6⟩; have yO := Lib.hid ob6; have X6 := Lib.hid (X5.out.trans x6); have J1_6 := Lib.hid (H1.out.ext X6.out); have J2_6 := Lib.hid (H2.out.ext X6.out); clear ob6; have m7 : True := trivial)
    | (have z := m7; clear z m7; go_at_call 13; refine (known_true _ (G.ext X6.out)).mono ?_; rintro e w7 ⟨rfl, x7⟩; have X7 := Lib.hid (X6.out.trans x7); have m8 : True := trivial)
    | (go_at_call 24; refine (lawBytes_any (-1) xA yA xc yc xn yn (keyT l) (keyT m) _ (Lib.hid (key_cmp T1.out T2.out HK.out HQ.out HV1.out)) (Lib.hid (by have := xO.out; exact this.len)) (Lib.hid (by have := yO.out; exact this.len)) (Lib.hid (by have := xO.out; exact (this.bs.ext x6).ext x7)) (Lib.hid (by have := yO.out; exact this.bs.ext x7))).mono ?_; rintro e w8 ⟨rfl, x8⟩; have X8 := Lib.hid (X7.out.trans x8))
    | fail)
  go_ret
  exact ⟨rfl, X8.out⟩
include G E1 E2 E3 H1 H2 H3 T1 T2 in
set_option maxRecDepth 100000 in
set_option maxHeartbeats 2000000 in
theorem order_m_z_z_01 (s0 s : Int) (hs0 : IntKind.i64.wrap ((n1 : Int) + (n2 : Int)) = s0) (hs : IntKind.i64.wrap (s0 + (n3 : Int)) = s) (hlt : ¬ 4000 < s) (q : Int) (hq : (q != 0) = true) (HV1 : Hid (cmpR l m = -1)) (HV2 : Hid (cmpR m l = 1)) (HV3 : Hid (cmpR m o = 0)) (HV4 : Hid (cmpR l o = 0)) (HK : Hid (checkR l = 0)) (HQ : Hid (checkR m = q)) :
    Calls Tryd.prog 6 #[.slice A1 n1 c1, .slice A2 n2 c2, .slice A3 n3 c3] w fun e w' => e = .returned (.bool true) ∧ Ext w w' := by
  have m1 : True := trivial
  go_enter Tryd.func6, Tryd.ntmps6
  go_wp2_with (first
    | (have z := m1; clear z m1; go_at_call 14; refine (rowCmp_lit A1 A2 c1 c2 n1 n2 l m _ HV1 E1 E2 H1 H2).mono ?_; rintro e w1 ⟨rfl, x1⟩; have X1 := Lib.hid (x1); have J1_1 := Lib.hid (H1.out.ext X1.out); have J2_1 := Lib.hid (H2.out.ext X1.out); have J3_1 := Lib.hid (H3.out.ext X1.out); have m2 : True := trivial)
    | (have z := m2; clear z m2; go_at_call 14; refine (rowCmp_lit A2 A1 c2 c1 n2 n1 m l _ HV2 E2 E1 J2_1 J1_1).mono ?_; rintro e w2 ⟨rfl, x2⟩; have X2 := Lib.hid (X1.out.trans x2); have J1_2 := Lib.hid (H1.out.ext X2.out); have J2_2 := Lib.hid (H2.out.ext X2.out); have J3_2 := Lib.hid (H3.out.ext X2.out); have m3 : True := trivial)
    | (have z := m3; clear z m3; go_at_call 14; refine (rowCmp_lit A2 A3 c2 c3 n2 n3 m o _ HV3 E2 E3 J2_2 J3_2).mono ?_; rintro e w3 ⟨rfl, x3⟩; have X3 := Lib.hid (X2.out.trans x3); have J1_3 := Lib.hid (H1.out.ext X3.out); have J2_3 := Lib.hid (H2.out.ext X3.out); have J3_3 := Lib.hid (H3.out.ext X3.out); have m4 : True := trivial)
    | (have z := m4; clear z m4; go_at_call 14; refine (rowCmp_lit A1 A3 c1 c3 n1 n3 l o _ HV4 E1 E3 J1_3 J3_3).mono ?_; rintro e w4 ⟨rfl, x4⟩; have X4 := Lib.hid (X3.out.trans x4); have J1_4 := Lib.hid (H1.out.ext X4.out); have J2_4 := Lib.hid (H2.out.ext X4.out); have J3_4 := Lib.hid (H3.out.ext X4.out); have m5 : True := trivial)
    | (have z := m5; clear z m5; go_at_call 23; refine (encode_ok A1 c1 n1 l _ HK E1 J1_4 T1 (G.ext X4.out)).mono ?_; rintro e w5 ⟨x5, xA, xn, xc, rfl, ob5⟩; have xO := Lib.hid ob5; have X5 := Lib.hid (X4.out.trans x5); have J1_5 := Lib.hid (H1.out.ext X5.out); have J2_5 := Lib.hid (H2.out.ext X5.out); clear ob5; have m6 : True := trivial)
    | (have z := m6; clear z m6; go_at_call 23; refine (encode_lit A2 c2 n2 m _ HQ E2 J2_5 T2 (G.ext X5.out)).mono ?_; rintro e w6 ⟨x6, yA, yn, yc, rfl, ob6⟩; have yO := Lib.hid ob6; have X6 := Lib.hid (X5.out.trans x6); have J1_6 := Lib.hid (H1.out.ext X6.out); have J2_6 := Lib.hid (H2.out.ext X6.out); clear ob6; have m7 : True := trivial)
    | (have z := m7; clear z m7; go_at_call 13; refine (known_true _ (G.ext X6.out)).mono ?_; rintro e w7 ⟨rfl, x7⟩; have X7 := Lib.hid (X6.out.trans x7); have m8 : True := trivial)
    | fail)
  go_ret
  exact ⟨rfl, X7.out⟩
include G E1 E2 E3 H1 H2 H3 T1 T2 in
set_option maxRecDepth 100000 in
set_option maxHeartbeats 2000000 in
theorem order_m_z_z_10 (s0 s : Int) (hs0 : IntKind.i64.wrap ((n1 : Int) + (n2 : Int)) = s0) (hs : IntKind.i64.wrap (s0 + (n3 : Int)) = s) (hlt : ¬ 4000 < s) (k : Int) (hk : (k != 0) = true) (HV1 : Hid (cmpR l m = -1)) (HV2 : Hid (cmpR m l = 1)) (HV3 : Hid (cmpR m o = 0)) (HV4 : Hid (cmpR l o = 0)) (HK : Hid (checkR l = k)) (HQ : Hid (checkR m = 0)) :
    Calls Tryd.prog 6 #[.slice A1 n1 c1, .slice A2 n2 c2, .slice A3 n3 c3] w fun e w' => e = .returned (.bool true) ∧ Ext w w' := by
  have m1 : True := trivial
  go_enter Tryd.func6, Tryd.ntmps6
  go_wp2_with (first
    | (have z := m1; clear z m1; go_at_call 14; refine (rowCmp_lit A1 A2 c1 c2 n1 n2 l m _ HV1 E1 E2 H1 H2).mono ?_; rintro e w1 ⟨rfl, x1⟩; have X1 := Lib.hid (x1); have J1_1 := Lib.hid (H1.out.ext X1.out); have J2_1 := Lib.hid (H2.out.ext X1.out); have J3_1 := Lib.hid (H3.out.ext X1.out); have m2 : True := trivial)
    | (have z := m2; clear z m2; go_at_call 14; refine (rowCmp_lit A2 A1 c2 c1 n2 n1 m l _ HV2 E2 E1 J2_1 J1_1).mono ?_; rintro e w2 ⟨rfl, x2⟩; have X2 := Lib.hid (X1.out.trans x2); have J1_2 := Lib.hid (H1.out.ext X2.out); have J2_2 := Lib.hid (H2.out.ext X2.out); have J3_2 := Lib.hid (H3.out.ext X2.out); have m3 : True := trivial)
    | (have z := m3; clear z m3; go_at_call 14; refine (rowCmp_lit A2 A3 c2 c3 n2 n3 m o _ HV3 E2 E3 J2_2 J3_2).mono ?_; rintro e w3 ⟨rfl, x3⟩; have X3 := Lib.hid (X2.out.trans x3); have J1_3 := Lib.hid (H1.out.ext X3.out); have J2_3 := Lib.hid (H2.out.ext X3.out); have J3_3 := Lib.hid (H3.out.ext X3.out); have m4 : True := trivial)
    | (have z := m4; clear z m4; go_at_call 14; refine (rowCmp_lit A1 A3 c1 c3 n1 n3 l o _ HV4 E1 E3 J1_3 J3_3).mono ?_; rintro e w4 ⟨rfl, x4⟩; have X4 := Lib.hid (X3.out.trans x4); have J1_4 := Lib.hid (H1.out.ext X4.out); have J2_4 := Lib.hid (H2.out.ext X4.out); have J3_4 := Lib.hid (H3.out.ext X4.out); have m5 : True := trivial)
    | (have z := m5; clear z m5; go_at_call 23; refine (encode_lit A1 c1 n1 l _ HK E1 J1_4 T1 (G.ext X4.out)).mono ?_; rintro e w5 ⟨x5, xA, xn, xc, rfl, ob5⟩; have xO := Lib.hid ob5; have X5 := Lib.hid (X4.out.trans x5); have J1_5 := Lib.hid (H1.out.ext X5.out); have J2_5 := Lib.hid (H2.out.ext X5.out); clear ob5; have m6 : True := trivial)
    | (have z := m6; clear z m6; go_at_call 23; refine (encode_ok A2 c2 n2 m _ HQ E2 J2_5 T2 (G.ext X5.out)).mono ?_; rintro e w6 ⟨x6, yA, yn, yc, rfl, ob6⟩; have yO := Lib.hid ob6; have X6 := Lib.hid (X5.out.trans x6); have J1_6 := Lib.hid (H1.out.ext X6.out); have J2_6 := Lib.hid (H2.out.ext X6.out); clear ob6; have m7 : True := trivial)
    | (have z := m7; clear z m7; go_at_call 13; refine (known_true _ (G.ext X6.out)).mono ?_; rintro e w7 ⟨rfl, x7⟩; have X7 := Lib.hid (X6.out.trans x7); have m8 : True := trivial)
    | fail)
  go_ret
  exact ⟨rfl, X7.out⟩
include G E1 E2 E3 H1 H2 H3 T1 T2 in
set_option maxRecDepth 100000 in
set_option maxHeartbeats 2000000 in
theorem order_m_z_z_11 (s0 s : Int) (hs0 : IntKind.i64.wrap ((n1 : Int) + (n2 : Int)) = s0) (hs : IntKind.i64.wrap (s0 + (n3 : Int)) = s) (hlt : ¬ 4000 < s) (k : Int) (hk : (k != 0) = true) (q : Int) (hq : (q != 0) = true) (HV1 : Hid (cmpR l m = -1)) (HV2 : Hid (cmpR m l = 1)) (HV3 : Hid (cmpR m o = 0)) (HV4 : Hid (cmpR l o = 0)) (HK : Hid (checkR l = k)) (HQ : Hid (checkR m = q)) :
    Calls Tryd.prog 6 #[.slice A1 n1 c1, .slice A2 n2 c2, .slice A3 n3 c3] w fun e w' => e = .returned (.bool true) ∧ Ext w w' := by
  have m1 : True := trivial
  go_enter Tryd.func6, Tryd.ntmps6
  go_wp2_with (first
    | (have z := m1; clear z m1; go_at_call 14; refine (rowCmp_lit A1 A2 c1 c2 n1 n2 l m _ HV1 E1 E2 H1 H2).mono ?_; rintro e w1 ⟨rfl, x1⟩; have X1 := Lib.hid (x1); have J1_1 := Lib.hid (H1.out.ext X1.out); have J2_1 := Lib.hid (H2.out.ext X1.out); have J3_1 := Lib.hid (H3.out.ext X1.out); have m2 : True := trivial)
    | (have z := m2; clear z m2; go_at_call 14; refine (rowCmp_lit A2 A1 c2 c1 n2 n1 m l _ HV2 E2 E1 J2_1 J1_1).mono ?_; rintro e w2 ⟨rfl, x2⟩; have X2 := Lib.hid (X1.out.trans x2); have J1_2 := Lib.hid (H1.out.ext X2.out); have J2_2 := Lib.hid (H2.out.ext X2.out); have J3_2 := Lib.hid (H3.out.ext X2.out); have m3 : True := trivial)
    | (have z := m3; clear z m3; go_at_call 14; refine (rowCmp_lit A2 A3 c2 c3 n2 n3 m o _ HV3 E2 E3 J2_2 J3_2).mono ?_; rintro e w3 ⟨rfl, x3⟩; have X3 := Lib.hid (X2.out.trans x3); have J1_3 := Lib.hid (H1.out.ext X3.out); have J2_3 := Lib.hid (H2.out.ext X3.out); have J3_3 := Lib.hid (H3.out.ext X3.out); have m4 : True := trivial)
    | (have z := m4; clear z m4; go_at_call 14; refine (rowCmp_lit A1 A3 c1 c3 n1 n3 l o _ HV4 E1 E3 J1_3 J3_3).mono ?_; rintro e w4 ⟨rfl, x4⟩; have X4 := Lib.hid (X3.out.trans x4); have J1_4 := Lib.hid (H1.out.ext X4.out); have J2_4 := Lib.hid (H2.out.ext X4.out); have J3_4 := Lib.hid (H3.out.ext X4.out); have m5 : True := trivial)
    | (have z := m5; clear z m5; go_at_call 23; refine (encode_lit A1 c1 n1 l _ HK E1 J1_4 T1 (G.ext X4.out)).mono ?_; rintro e w5 ⟨x5, xA, xn, xc, rfl, ob5⟩; have xO := Lib.hid ob5; have X5 := Lib.hid (X4.out.trans x5); have J1_5 := Lib.hid (H1.out.ext X5.out); have J2_5 := Lib.hid (H2.out.ext X5.out); clear ob5; have m6 : True := trivial)
    | (have z := m6; clear z m6; go_at_call 23; refine (encode_lit A2 c2 n2 m _ HQ E2 J2_5 T2 (G.ext X5.out)).mono ?_; rintro e w6 ⟨x6, yA, yn, yc, rfl, ob6⟩; have yO := Lib.hid ob6; have X6 := Lib.hid (X5.out.trans x6); have J1_6 := Lib.hid (H1.out.ext X6.out); have J2_6 := Lib.hid (H2.out.ext X6.out); clear ob6; have m7 : True := trivial)
    | (have z := m7; clear z m7; go_at_call 13; refine (known_true _ (G.ext X6.out)).mono ?_; rintro e w7 ⟨rfl, x7⟩; have X7 := Lib.hid (X6.out.trans x7); have m8 : True := trivial)
    | fail)
  go_ret
  exact ⟨rfl, X7.out⟩
include G E1 E2 E3 H1 H2 H3 T1 T2 in
set_option maxRecDepth 100000 in
set_option maxHeartbeats 2000000 in
theorem order_m_p_x_00 (s0 s : Int) (hs0 : IntKind.i64.wrap ((n1 : Int) + (n2 : Int)) = s0) (hs : IntKind.i64.wrap (s0 + (n3 : Int)) = s) (hlt : ¬ 4000 < s) (HV1 : Hid (cmpR l m = -1)) (HV2 : Hid (cmpR m l = 1)) (HV3 : Hid (cmpR m o = 1)) (HK : Hid (checkR l = 0)) (HQ : Hid (checkR m = 0)) :
    Calls Tryd.prog 6 #[.slice A1 n1 c1, .slice A2 n2 c2, .slice A3 n3 c3] w fun e w' => e = .returned (.bool true) ∧ Ext w w' := by
  have m1 : True := trivial
  go_enter Tryd.func6, Tryd.ntmps6
  go_wp2_with (first
    | (have z := m1; clear z m1; go_at_call 14; refine (rowCmp_lit A1 A2 c1 c2 n1 n2 l m _ HV1 E1 E2 H1 H2).mono ?_; rintro e w1 ⟨rfl, x1⟩; have X1 := Lib.hid (x1); have J1_1 := Lib.hid (H1.out.ext X1.out); have J2_1 := Lib.hid (H2.out.ext X1.out); have J3_1 := Lib.hid (H3.out.ext X1.out); have m2 : True := trivial)
    | (have z := m2; clear z m2; go_at_call 14; refine (rowCmp_lit A2 A1 c2 c1 n2 n1 m l _ HV2 E2 E1 J2_1 J1_1).mono ?_; rintro e w2 ⟨rfl, x2⟩; have X2 := Lib.hid (X1.out.trans x2); have J1_2 := Lib.hid (H1.out.ext X2.out); have J2_2 := Lib.hid (H2.out.ext X2.out); have J3_2 := Lib.hid (H3.out.ext X2.out); have m3 : True := trivial)
    | (have z := m3; clear z m3; go_at_call 14; refine (rowCmp_lit A2 A3 c2 c3 n2 n3 m o _ HV3 E2 E3 J2_2 J3_2).mono ?_; rintro e w3 ⟨rfl, x3⟩; have X3 := Lib.hid (X2.out.trans x3); have J1_3 := Lib.hid (H1.out.ext X3.out); have J2_3 := Lib.hid (H2.out.ext X3.out); have J3_3 := Lib.hid (H3.out.ext X3.out); have m4 : True := trivial)
    | (have z := m4; clear z m4; go_at_call 23; refine (encode_ok A1 c1 n1 l _ HK E1 J1_3 T1 (G.ext X3.out)).mono ?_; rintro e w4 ⟨x4, xA, xn, xc, rfl, ob4⟩; have xO := Lib.hid ob4; have X4 := Lib.hid (X3.out.trans x4); have J1_4 := Lib.hid (H1.out.ext X4.out); have J2_4 := Lib.hid (H2.out.ext X4.out); clear ob4; have m5 : True := trivial)
    | (have z := m5; clear z m5; go_at_call 23; refine (encode_ok A2 c2 n2 m _ HQ E2 J2_4 T2 (G.ext X4.out)).mono ?_; rintro e w5 ⟨x5, yA, yn, yc, rfl, ob5⟩; have yO := Lib.hid ob5; have X5 := Lib.hid (X4.out.trans x5); have J1_5 := Lib.hid (H1.out.ext X5.out); have J2_5 := Lib.hid (H2.out.ext X5.out); clear ob5; have m6 : True := trivial)
    | (have z := m6; clear z m6; go_at_call 13; refine (known_true _ (G.ext X5.out)).mono ?_; rintro e w6 ⟨rfl, x6⟩; have X6 := Lib.hid (X5.out.trans x6); have m7 : True := trivial)
    | (go_at_call 24; refine (lawBytes_any (-1) xA yA xc yc xn yn (keyT l) (keyT m) _ (Lib.hid (key_cmp T1.out T2.out HK.out HQ.out HV1.out)) (Lib.hid (by have := xO.out; exact this.len)) (Lib.hid (by have := yO.out; exact this.len)) (Lib.hid (by have := xO.out; exact (this.bs.ext x5).ext x6)) (Lib.hid (by have := yO.out; exact this.bs.ext x6))).mono ?_; rintro e w7 ⟨rfl, x7⟩; have X7 := Lib.hid (X6.out.trans x7))
    | fail)
  go_ret
  exact ⟨rfl, X7.out⟩
include G E1 E2 E3 H1 H2 H3 T1 T2 in
set_option maxRecDepth 100000 in
set_option maxHeartbeats 2000000 in
theorem order_m_p_x_01 (s0 s : Int) (hs0 : IntKind.i64.wrap ((n1 : Int) + (n2 : Int)) = s0) (hs : IntKind.i64.wrap (s0 + (n3 : Int)) = s) (hlt : ¬ 4000 < s) (q : Int) (hq : (q != 0) = true) (HV1 : Hid (cmpR l m = -1)) (HV2 : Hid (cmpR m l = 1)) (HV3 : Hid (cmpR m o = 1)) (HK : Hid (checkR l = 0)) (HQ : Hid (checkR m = q)) :
    Calls Tryd.prog 6 #[.slice A1 n1 c1, .slice A2 n2 c2, .slice A3 n3 c3] w fun e w' => e = .returned (.bool true) ∧ Ext w w' := by
  have m1 : True := trivial
  go_enter Tryd.func6, Tryd.ntmps6
  go_wp2_with (first
    | (have z := m1; clear z m1; go_at_call 14; refine (rowCmp_lit A1 A2 c1 c2 n1 n2 l m _ HV1 E1 E2 H1 H2).mono ?_; rintro e w1 ⟨rfl, x1⟩; have X1 := Lib.hid (x1); have J1_1 := Lib.hid (H1.out.ext X1.out); have J2_1 := Lib.hid (H2.out.ext X1.out); have J3_1 := Lib.hid (H3.out.ext X1.out); have m2 : True := trivial)
    | (have z := m2; clear z m2; go_at_call 14; refine (rowCmp_lit A2 A1 c2 c1 n2 n1 m l _ HV2 E2 E1 J2_1 J1_1).mono ?_; rintro e w2 ⟨rfl, x2⟩; have X2 := Lib.hid (X1.out.trans x2); have J1_2 := Lib.hid (H1.out.ext X2.out); have J2_2 := Lib.hid (H2.out.ext X2.out); have J3_2 := Lib.hid (H3.out.ext X2.out); have m3 : True := trivial)
    | (have z := m3; clear z m3; go_at_call 14; refine (rowCmp_lit A2 A3 c2 c3 n2 n3 m o _ HV3 E2 E3 J2_2 J3_2).mono ?_; rintro e w3 ⟨rfl, x3⟩; have X3 := Lib.hid (X2.out.trans x3); have J1_3 := Lib.hid (H1.out.ext X3.out); have J2_3 := Lib.hid (H2.out.ext X3.out); have J3_3 := Lib.hid (H3.out.ext X3.out); have m4 : True := trivial)
    | (have z := m4; clear z m4; go_at_call 23; refine (encode_ok A1 c1 n1 l _ HK E1 J1_3 T1 (G.ext X3.out)).mono ?_; rintro e w4 ⟨x4, xA, xn, xc, rfl, ob4⟩; have xO := Lib.hid ob4; have X4 := Lib.hid (X3.out.trans x4); have J1_4 := Lib.hid (H1.out.ext X4.out); have J2_4 := Lib.hid (H2.out.ext X4.out); clear ob4; have m5 : True := trivial)
    | (have z := m5; clear z m5; go_at_call 23; refine (encode_lit A2 c2 n2 m _ HQ E2 J2_4 T2 (G.ext X4.out)).mono ?_; rintro e w5 ⟨x5, yA, yn, yc, rfl, ob5⟩; have yO := Lib.hid ob5; have X5 := Lib.hid (X4.out.trans x5); have J1_5 := Lib.hid (H1.out.ext X5.out); have J2_5 := Lib.hid (H2.out.ext X5.out); clear ob5; have m6 : True := trivial)
    | (have z := m6; clear z m6; go_at_call 13; refine (known_true _ (G.ext X5.out)).mono ?_; rintro e w6 ⟨rfl, x6⟩; have X6 := Lib.hid (X5.out.trans x6); have m7 : True := trivial)
    | fail)
  go_ret
  exact ⟨rfl, X6.out⟩
include G E1 E2 E3 H1 H2 H3 T1 T2 in
set_option maxRecDepth 100000 in
set_option maxHeartbeats 2000000 in
theorem order_m_p_x_10 (s0 s : Int) (hs0 : IntKind.i64.wrap ((n1 : Int) + (n2 : Int)) = s0) (hs : IntKind.i64.wrap (s0 + (n3 : Int)) = s) (hlt : ¬ 4000 < s) (k : Int) (hk : (k != 0) = true) (HV1 : Hid (cmpR l m = -1)) (HV2 : Hid (cmpR m l = 1)) (HV3 : Hid (cmpR m o = 1)) (HK : Hid (checkR l = k)) (HQ : Hid (checkR m = 0)) :
    Calls Tryd.prog 6 #[.slice A1 n1 c1, .slice A2 n2 c2, .slice A3 n3 c3] w fun e w' => e = .returned (.bool true) ∧ Ext w w' := by
  have m1 : True := trivial
  go_enter Tryd.func6, Tryd.ntmps6
  go_wp2_with (first
    | (have z := m1; clear z m1; go_at_call 14; refine (rowCmp_lit A1 A2 c1 c2 n1 n2 l m _ HV1 E1 E2 H1 H2).mono ?_; rintro e w1 ⟨rfl, x1⟩; have X1 := Lib.hid (x1); have J1_1 := Lib.hid (H1.out.ext X1.out); have J2_1 := Lib.hid (H2.out.ext X1.out); have J3_1 := Lib.hid (H3.out.ext X1.out); have m2 : True := trivial)
    | (have z := m2; clear z m2; go_at_call 14; refine (rowCmp_lit A2 A1 c2 c1 n2 n1 m l _ HV2 E2 E1 J2_1 J1_1).mono ?_; rintro e w2 ⟨rfl, x2⟩; have X2 := Lib.hid (X1.out.trans x2); have J1_2 := Lib.hid (H1.out.ext X2.out); have J2_2 := Lib.hid (H2.out.ext X2.out); have J3_2 := Lib.hid (H3.out.ext X2.out); have m3 : True := trivial)
    | (have z := m3; clear z m3; go_at_call 14; refine (rowCmp_lit A2 A3 c2 c3 n2 n3 m o _ HV3 E2 E3 J2_2 J3_2).mono ?_; rintro e w3 ⟨rfl, x3⟩; have X3 := Lib.hid (X2.out.trans x3); have J1_3 := Lib.hid (H1.out.ext X3.out); have J2_3 := Lib.hid (H2.out.ext X3.out); have J3_3 := Lib.hid (H3.out.ext X3.out); have m4 : True := trivial)
    | (have z := m4; clear z m4; go_at_call 23; refine (encode_lit A1 c1 n1 l _ HK E1 J1_3 T1 (G.ext X3.out)).mono ?_; rintro e w4 ⟨x4, xA, xn, xc, rfl, ob4⟩; have xO := Lib.hid ob4; have X4 := Lib.hid (X3.out.trans x4); have J1_4 := Lib.hid (H1.out.ext X4.out); have J2_4 := Lib.hid (H2.out.ext X4.out); clear ob4; have m5 : True := trivial)
    | (have z := m5; clear z m5; go_at_call 23; refine (encode_ok A2 c2 n2 m _ HQ E2 J2_4 T2 (G.ext X4.out)).mono ?_; rintro e w5 ⟨x5, yA, yn, yc, rfl, ob5⟩; have yO := Lib.hid ob5; have X5 := Lib.hid (X4.out.trans x5); have J1_5 := Lib.hid (H1.out.ext X5.out); have J2_5 := Lib.hid (H2.out.ext X5.out); clear ob5; have m6 : True := trivial)
    | (have z := m6; clear z m6; go_at_call 13; refine (known_true _ (G.ext X5.out)).mono ?_; rintro e w6 ⟨rfl, x6⟩; have X6 := Lib.hid (X5.out.trans x6); have m7 : True := trivial)
    | fail)
  go_ret
  exact ⟨rfl, X6.out⟩
include G E1 E2 E3 H1 H2 H3 T1 T2 in
set_option maxRecDepth 100000 in
set_option maxHeartbeats 2000000 in
theorem order_m_p_x_11 (s0 s : Int) (hs0 : IntKind.i64.wrap ((n1 : Int) + (n2 : Int)) = s0) (hs : IntKind.i64.wrap (s0 + (n3 : Int)) = s) (hlt : ¬ 4000 < s) (k : Int) (hk : (k != 0) = true) (q : Int) (hq : (q != 0) = true) (HV1 : Hid (cmpR l m = -1)) (HV2 : Hid (cmpR m l = 1)) (HV3 : Hid (cmpR m o = 1)) (HK : Hid (checkR l = k)) (HQ : Hid (checkR m = q)) :
    Calls Tryd.prog 6 #[.slice A1 n1 c1, .slice A2 n2 c2, .slice A3 n3 c3] w fun e w' => e = .returned (.bool true) ∧ Ext w w' := by
  have m1 : True := trivial
  go_enter Tryd.func6, Tryd.ntmps6
  go_wp2_with (first
    | (have z := m1; clear z m1; go_at_call 14; refine (rowCmp_lit A1 A2 c1 c2 n1 n2 l m _ HV1 E1 E2 H1 H2).mono ?_; rintro e w1 ⟨rfl, x1⟩; have X1 := Lib.hid (x1); have J1_1 := Lib.hid (H1.out.ext X1.out); have J2_1 := Lib.hid (H2.out.ext X1.out); have J3_1 := Lib.hid (H3.out.ext X1.out); have m2 : True := trivial)
    | (have z := m2; clear z m2; go_at_call 14; refine (rowCmp_lit A2 A1 c2 c1 n2 n1 m l _ HV2 E2 E1 J2_1 J1_1).mono ?_; rintro e w2 ⟨rfl, x2⟩; have X2 := Lib.hid (X1.out.trans x2); have J1_2 := Lib.hid (H1.out.ext X2.out); have J2_2 := Lib.hid (H2.out.ext X2.out); have J3_2 := Lib.hid (H3.out.ext X2.out); have m3 : True := trivial)
    | (have z := m3; clear z m3; go_at_call 14; refine (rowCmp_lit A2 A3 c2 c3 n2 n3 m o _ HV3 E2 E3 J2_2 J3_2).mono ?_; rintro e w3 ⟨rfl, x3⟩; have X3 := Lib.hid (X2.out.trans x3); have J1_3 := Lib.hid (H1.out.ext X3.out); have J2_3 := Lib.hid (H2.out.ext X3.out); have J3_3 := Lib.hid (H3.out.ext X3.out); have m4 : True := trivial)
    | (have z := m4; clear z m4; go_at_call 23; refine (encode_lit A1 c1 n1 l _ HK E1 J1_3 T1 (G.ext X3.out)).mono ?_; rintro e w4 ⟨x4, xA, xn, xc, rfl, ob4⟩; have xO := Lib.hid ob4; have X4 := Lib.hid (X3.out.trans x4); have J1_4 := Lib.hid (H1.out.ext X4.out); have J2_4 := Lib.hid (H2.out.ext X4.out); clear ob4; have m5 : True := trivial)
    | (have z := m5; clear z m5; go_at_call 23; refine (encode_lit A2 c2 n2 m _ HQ E2 J2_4 T2 (G.ext X4.out)).mono ?_; rintro e w5 ⟨x5, yA, yn, yc, rfl, ob5⟩; have yO := Lib.hid ob5; have X5 := Lib.hid (X4.out.trans x5); have J1_5 := Lib.hid (H1.out.ext X5.out); have J2_5 := Lib.hid (H2.out.ext X5.out); clear ob5; have m6 : True := trivial)
    | (have z := m6; clear z m6; go_at_call 13; refine (known_true _ (G.ext X5.out)).mono ?_; rintro e w6 ⟨rfl, x6⟩; have X6 := Lib.hid (X5.out.trans x6); have m7 : True := trivial)
    | fail)
  go_ret
  exact ⟨rfl, X6.out⟩
include G E1 E2 E3 H1 H2 H3 T1 T2 in
set_option maxRecDepth 100000 in
set_option maxHeartbeats 2000000 in
theorem order_z_m_m_00 (s0 s : Int) (hs0 : IntKind.i64.wrap ((n1 : Int) + (n2 : Int)) = s0) (hs : IntKind.i64.wrap (s0 + (n3 : Int)) = s) (hlt : ¬ 4000 < s) (HV1 : Hid (cmpR l m = 0)) (HV2 : Hid (cmpR m l = 0)) (HV3 : Hid (cmpR m o = -1)) (HV4 : Hid (cmpR l o = -1)) (HK : Hid (checkR l = 0)) (HQ : Hid (checkR m = 0)) :
    Calls Tryd.prog 6 #[.slice A1 n1 c1, .slice A2 n2 c2, .slice A3 n3 c3] w fun e w' => e = .returned (.bool true) ∧ Ext w w' := by
  have m1 : True := trivial
  go_enter Tryd.func6, Tryd.ntmps6
  go_wp2_with (first
    | (have z := m1; clear z m1; go_at_call 14; refine (rowCmp_lit A1 A2 c1 c2 n1 n2 l m _ HV1 E1 E2 H1 H2).mono ?_; rintro e w1 ⟨rfl, x1⟩; have X1 := Lib.hid (x1); have J1_1 := Lib.hid (H1.out.ext X1.out); have J2_1 := Lib.hid (H2.out.ext X1.out); have J3_1 := Lib.hid (H3.out.ext X1.out); have m2 : True := trivial)
    | (have z := m2; clear z m2; go_at_call 14; refine (rowCmp_lit A2 A1 c2 c1 n2 n1 m l _ HV2 E2 E1 J2_1 J1_1).mono ?_; rintro e w2 ⟨rfl, x2⟩; have X2 := Lib.hid (X1.out.trans x2); have J1_2 := Lib.hid (H1.out.ext X2.out); have J2_2 := Lib.hid (H2.out.ext X2.out); have J3_2 := Lib.hid (H3.out.ext X2.out); have m3 : True := trivial)
    | (have z := m3; clear z m3; go_at_call 14; refine (rowCmp_lit A2 A3 c2 c3 n2 n3 m o _ HV3 E2 E3 J2_2 J3_2).mono ?_; rintro e w3 ⟨rfl, x3⟩; have X3 := Lib.hid (X2.out.trans x3); have J1_3 := Lib.hid (H1.out.ext X3.out); have J2_3 := Lib.hid (H2.out.ext X3.out); have J3_3 := Lib.hid (H3.out.ext X3.out); have m4 : True := trivial)
    | (have z := m4; clear z m4; go_at_call 14; refine (rowCmp_lit A1 A3 c1 c3 n1 n3 l o _ HV4 E1 E3 J1_3 J3_3).mono ?_; rintro e w4 ⟨rfl, x4⟩; have X4 := Lib.hid (X3.out.trans x4); have J1_4 := Lib.hid (H1.out.ext X4.out); have J2_4 := Lib.hid (H2.out.ext X4.out); have J3_4 := Lib.hid (H3.out.ext X4.out); have m5 : True := trivial)
    | (have z := m5; clear z m5; go_at_call 23; refine (encode_ok A1 c1 n1 l _ HK E1 J1_4 T1 (G.ext X4.out)).mono ?_; rintro e w5 ⟨x5, xA, xn, xc, rfl, ob5⟩; have xO := Lib.hid ob5; have X5 := Lib.hid (X4.out.trans x5); have J1_5 := Lib.hid (H1.out.ext X5.out); have J2_5 := Lib.hid (H2.out.ext X5.out); clear ob5; have m6 : True := trivial)
    | (have z := m6; clear z m6; go_at_call 23; refine (encode_ok A2 c2 n2 m _ HQ E2 J2_5 T2 (G.ext X5.out)).mono ?_; rintro e w6 ⟨x6, yA, yn, yc, rfl, ob6⟩; have yO := Lib.hid ob6; have X6 := Lib.hid (X5.out.trans x6); have J1_6 := Lib.hid (H1.out.ext X6.out); have J2_6 := Lib.hid (H2.out.ext X6.out); clear ob6; have m7 : True := trivial)
    | (have z := m7; clear z m7; go_at_call 13; refine (known_true _ (G.ext X6.out)).mono ?_; rintro e w7 ⟨rfl, x7⟩; have X7 := Lib.hid (X6.out.trans x7); have m8 : True := trivial)
    | (go_at_call 24; refine (lawBytes_any (0) xA yA xc yc xn yn (keyT l) (keyT m) _ (Lib.hid (key_cmp T1.out T2.out HK.out HQ.out HV1.out)) (Lib.hid (by have := xO.out; exact this.len)) (Lib.hid (by have := yO.out; exact this.len)) (Lib.hid (by have := xO.out; exact (this.bs.ext x6).ext x7)) (Lib.hid (by have := yO.out; exact this.bs.ext x7))).mono ?_; rintro e w8 ⟨rfl, x8⟩; have X8 := Lib.hid (X7.out.trans x8))
    | fail)
  go_ret
  exact ⟨rfl, X8.out⟩
include G E1 E2 E3 H1 H2 H3 T1 T2 in
set_option maxRecDepth 100000 in
set_option maxHeartbeats 2000000 in
theorem order_z_m_m_01 (s0 s : Int) (hs0 : IntKind.i64.wrap ((n1 : Int) + (n2 : Int)) = s0) (hs : IntKind.i64.wrap (s0 + (n3 : Int)) = s) (hlt : ¬ 4000 < s) (q : Int) (hq : (q != 0) = true) (HV1 : Hid (cmpR l m = 0)) (HV2 : Hid (cmpR m l = 0)) (HV3 : Hid (cmpR m o = -1)) (HV4 : Hid (cmpR l o = -1)) (HK : Hid (checkR l = 0)) (HQ : Hid (checkR m = q)) :
    Calls Tryd.prog 6 #[.slice A1 n1 c1, .slice A2 n2 c2, .slice A3 n3 c3] w fun e w' => e = .returned (.bool true) ∧ Ext w w' := by
  have m1 : True := trivial
  go_enter Tryd.func6, Tryd.ntmps6
  go_wp2_with (first
    | (have z := m1; clear z m1; go_at_call 14; refine (rowCmp_lit A1 A2 c1 c2 n1 n2 l m _ HV1 E1 E2 H1 H2).mono ?_; rintro e w1 ⟨rfl, x1⟩; have X1 := Lib.hid (x1); have J1_1 := Lib.hid (H1.out.ext X1.out); have J2_1 := Lib.hid (H2.out.ext X1.out); have J3_1 := Lib.hid (H3.out.ext X1.out); have m2 : True := trivial)
    | (have z := m2; clear z m2; go_at_call 14; refine (rowCmp_lit A2 A1 c2 c1 n2 n1 m l _ HV2 E2 E1 J2_1 J1_1).mono ?_; rintro e w2 ⟨rfl, x2⟩; have X2 := Lib.hid (X1.out.trans x2); have J1_2 := Lib.hid (H1.out.ext X2.out); have J2_2 := Lib.hid (H2.out.ext X2.out); have J3_2 := Lib.hid (H3.out.ext X2.out); have m3 : True := trivial)
    | (have z := m3; clear z m3; go_at_call 14; refine (rowCmp_lit A2 A3 c2 c3 n2 n3 m o _ HV3 E2 E3 J2_2 J3_2).mono ?_; rintro e w3 ⟨rfl, x3⟩; have X3 := Lib.hid (X2.out.trans x3); have J1_3 := Lib.hid (H1.out.ext X3.out); have J2_3 := Lib.hid (H2.out.ext X3.out); have J3_3 := Lib.hid (H3.out.ext X3.out); have m4 : True := trivial)
    | (have z := m4; clear z m4; go_at_call 14; refine (rowCmp_lit A1 A3 c1 c3 n1 n3 l o _ HV4 E1 E3 J1_3 J3_3).mono ?_; rintro e w4 ⟨rfl, x4⟩; have X4 := Lib.hid (X3.out.trans x4); have J1_4 := Lib.hid (H1.out.ext X4.out); have J2_4 := Lib.hid (H2.out.ext X4.out); have J3_4 := Lib.hid (H3.out.ext X4.out); have m5 : True := trivial)
    | (have z := m5; clear z m5; go_at_call 23; refine (encode_ok A1 c1 n1 l _ HK E1 J1_4 T1 (G.ext X4.out)).mono ?_; rintro e w5 ⟨x5, xA, xn, xc, rfl, ob5⟩; have xO := Lib.hid ob5; have X5 := Lib.hid (X4.out.trans x5); have J1_5 := Lib.hid (H1.out.ext X5.out); have J2_5 := Lib.hid (H2.out.ext X5.out); clear ob5; have m6 : True := trivial)
    | (have z := m6; clear z m6; go_at_call 23; refine (encode_lit A2 c2 n2 m _ HQ E2 J2_5 T2 (G.ext X5.out)).mono ?_; rintro e w6 ⟨x6, yA, yn, yc, rfl, ob6⟩; have yO := Lib.hid ob6; have X6 := Lib.hid (X5.out.trans x6); have J1_6 := Lib.hid (H1.out.ext X6.out); have J2_6 := Lib.hid (H2.out.ext X6.out); clear ob6; have m7 : True := trivial)
    | (have z := m7; clear z m7; go_at_call 13; refine (known_true _ (G.ext X6.out)).mono ?_; rintro e w7 ⟨rfl, x7⟩; have X7 := Lib.hid (X6.out.trans x7); have m8 : True := trivial)
    | fail)
  go_ret
  exact ⟨rfl, X7.out⟩
include G E1 E2 E3 H1 H2 H3 T1 T2 in
set_option maxRecDepth 100000 in
set_option maxHeartbeats 2000000 in
theorem order_z_m_m_10 (s0 s : Int) (hs0 : IntKind.i64.wrap ((n1 : Int) + (n2 : Int)) = s0) (hs : IntKind.i64.wrap (s0 + (n3 : Int)) = s) (hlt : ¬ 4000 < s) (k : Int) (hk : (k != 0) = true) (HV1 : Hid (cmpR l m = 0)) (HV2 : Hid (cmpR m l = 0)) (HV3 : Hid (cmpR m o = -1)) (HV4 : Hid (cmpR l o = -1)) (HK : Hid (checkR l = k)) (HQ : Hid (checkR m = 0)) :
    Calls Tryd.prog 6 #[.slice A1 n1 c1, .slice A2 n2 c2, .slice A3 n3 c3] w fun e w' => e = .returned (.bool true) ∧ Ext w w' := by
  have m1 : True := trivial
  go_enter Tryd.func6, Tryd.ntmps6
  go_wp2_with (first
    | (have z := m1; clear z m1; go_at_call 14; refine (rowCmp_lit A1 A2 c1 c2 n1 n2 l m _ HV1 E1 E2 H1 H2).mono ?_; rintro e w1 ⟨rfl, x1⟩; have X1 := Lib.hid (x1); have J1_1 := Lib.hid (H1.out.ext X1.out); have J2_1 := Lib.hid (H2.out.ext X1.out); have J3_1 := Lib.hid (H3.out.ext X1.out); have m2 : True := trivial)
    | (have z := m2; clear z m2; go_at_call 14; refine (rowCmp_lit A2 A1 c2 c1 n2 n1 m l _ HV2 E2 E1 J2_1 J1_1).mono ?_; rintro e w2 ⟨rfl, x2⟩; have X2 := Lib.hid (X1.out.trans x2); have J1_2 := Lib.hid (H1.out.ext X2.out); have J2_2 := Lib.hid (H2.out.ext X2.out); have J3_2 := Lib.hid (H3.out.ext X2.out); have m3 : True := trivial)
    | (have z := m3; clear z m3; go_at_call 14; refine (rowCmp_lit A2 A3 c2 c3 n2 n3 m o _ HV3 E2 E3 J2_2 J3_2).mono ?_; rintro e w3 ⟨rfl, x3⟩; have X3 := Lib.hid (X2.out.trans x3); have J1_3 := Lib.hid (H1.out.ext X3.out); have J2_3 := Lib.hid (H2.out.ext X3.out); have J3_3 := Lib.hid (H3.out.ext X3.out); have m4 : True := trivial)
    | (have z := m4; clear z m4; go_at_call 14; refine (rowCmp_lit A1 A3 c1 c3 n1 n3 l o _ HV4 E1 E3 J1_3 J3_3).mono ?_; rintro e w4 ⟨rfl, x4⟩; have X4 := Lib.hid (X3.out.trans x4); have J1_4 := Lib.hid (H1.out.ext X4.out); have J2_4 := Lib.hid (H2.out.ext X4.out); have J3_4 := Lib.hid (H3.out.ext X4.out); have m5 : True := trivial)
    | (have z := m5; clear z m5; go_at_call 23; refine (encode_lit A1 c1 n1 l _ HK E1 J1_4 T1 (G.ext X4.out)).mono ?_; rintro e w5 ⟨x5, xA, xn, xc, rfl, ob5⟩; have xO := Lib.hid ob5; have X5 := Lib.hid (X4.out.trans x5); have J1_5 := Lib.hid (H1.out.ext X5.out); have J2_5 := Lib.hid (H2.out.ext X5.out); clear ob5; have m6 : True := trivial)
    | (have z := m6; clear z m6; go_at_call 23; refine (encode_ok A2 c2 n2 m _ HQ E2 J2_5 T2 (G.ext X5.out)).mono ?_; rintro e w6 ⟨x6, yA, yn, yc, rfl, ob6⟩; have yO := Lib.hid ob6; have X6 := Lib.hid (X5.out.trans x6); have J1_6 := Lib.hid (H1.out.ext X6.out); have J2_6 := Lib.hid (H2.out.ext X6.out); clear ob6; have m7 : True := trivial)
    | (have z := m7; clear z m7; go_at_call 13; refine (known_true _ (G.ext X6.out)).mono ?_; rintro e w7 ⟨rfl, x7⟩; have X7 := Lib.hid (X6.out.trans x7); have m8 : True := trivial)
    | fail)
  go_ret
  exact ⟨rfl, X7.out⟩
include G E1 E2 E3 H1 H2 H3 T1 T2 in
set_option maxRecDepth 100000 in
set_option maxHeartbeats 2000000 in
theorem order_z_m_m_11 (s0 s : Int) (hs0 : IntKind.i64.wrap ((n1 : Int) + (n2 : Int)) = s0) (hs : IntKind.i64.wrap (s0 + (n3 : Int)) = s) (hlt : ¬ 4000 < s) (k : Int) (hk : (k != 0) = true) (q : Int) (hq : (q != 0) = true) (HV1 : Hid (cmpR l m = 0)) (HV2 : Hid (cmpR m l = 0)) (HV3 : Hid (cmpR m o = -1)) (HV4 : Hid (cmpR l o = -1)) (HK : Hid (checkR l = k)) (HQ : Hid (checkR m = q)) :
    Calls Tryd.prog 6 #[.slice A1 n1 c1, .slice A2 n2 c2, .slice A3 n3 c3] w fun e w' => e = .returned (.bool true) ∧ Ext w w' := by
  have m1 : True := trivial
  go_enter Tryd.func6, Tryd.ntmps6
  go_wp2_with (first
    | (have z := m1; clear z m1; go_at_call 14; refine (rowCmp_lit A1 A2 c1 c2 n1 n2 l m _ HV1 E1 E2 H1 H2).mono ?_; rintro e w1 ⟨rfl, x1⟩; have X1 := Lib.hid (x1); have J1_1 := Lib.hid (H1.out.ext X1.out); have J2_1 := Lib.hid (H2.out.ext X1.out); have J3_1 := Lib.hid (H3.out.ext X1.out); have m2 : True := trivial)
    | (have z := m2; clear z m2; go_at_call 14; refine (rowCmp_lit A2 A1 c2 c1 n2 n1 m l _ HV2 E2 E1 J2_1 J1_1).mono ?_; rintro e w2 ⟨rfl, x2⟩; have X2 := Lib.hid (X1.out.trans x2); have J1_2 := Lib.hid (H1.out.ext X2.out); have J2_2 := Lib.hid (H2.out.ext X2.out); have J3_2 := Lib.hid (H3.out.ext X2.out); have m3 : True := trivial)
    | (have z := m3; clear z m3; go_at_call 14; refine (rowCmp_lit A2 A3 c2 c3 n2 n3 m o _ HV3 E2 E3 J2_2 J3_2).mono ?_; rintro e w3 ⟨rfl, x3⟩; have X3 := Lib.hid (X2.out.trans x3); have J1_3 := Lib.hid (H1.out.ext X3.out); have J2_3 := Lib.hid (H2.out.ext X3.out); have J3_3 := Lib.hid (H3.out.ext X3.out); have m4 : True := trivial)
    | (have z := m4; clear z m4; go_at_call 14; refine (rowCmp_lit A1 A3 c1 c3 n1 n3 l o _ HV4 E1 E3 J1_3 J3_3).mono ?_; rintro e w4 ⟨rfl, x4⟩; have X4 := Lib.hid (X3.out.trans x4); have J1_4 := Lib.hid (H1.out.ext X4.out); have J2_4 := Lib.hid (H2.out.ext X4.out); have J3_4 := Lib.hid (H3.out.ext X4.out); have m5 : True := trivial)
    | (have z := m5; clear z m5; go_at_call 23; refine (encode_lit A1 c1 n1 l _ HK E1 J1_4 T1 (G.ext X4.out)).mono ?_; rintro e w5 ⟨x5, xA, xn, xc, rfl, ob5⟩; have xO := Lib.hid ob5; have X5 := Lib.hid (X4.out.trans x5); have J1_5 := Lib.hid (H1.out.ext X5.out); have J2_5 := Lib.hid (H2.out.ext X5.out); clear ob5; have m6 : True := trivial)
    | (have z := m6; clear z m6; go_at_call 23; refine (encode_lit A2 c2 n2 m _ HQ E2 J2_5 T2 (G.ext X5.out)).mono ?_; rintro e w6 ⟨x6, yA, yn, yc, rfl, ob6⟩; have yO := Lib.hid ob6; have X6 := Lib.hid (X5.out.trans x6); have J1_6 := Lib.hid (H1.out.ext X6.out); have J2_6 := Lib.hid (H2.out.ext X6.out); clear ob6; have m7 : True := trivial)
    | (have z := m7; clear z m7; go_at_call 13; refine (known_true _ (G.ext X6.out)).mono ?_; rintro e w7 ⟨rfl, x7⟩; have X7 := Lib.hid (X6.out.trans x7); have m8 : True := trivial)
    | fail)
  go_ret
  exact ⟨rfl, X7.out⟩
include G E1 E2 E3 H1 H2 H3 T1 T2 in
set_option maxRecDepth 100000 in
set_option maxHeartbeats 2000000 in
theorem order_z_m_z_00 (s0 s : Int) (hs0 : IntKind.i64.wrap ((n1 : Int) + (n2 : Int)) = s0) (hs : IntKind.i64.wrap (s0 + (n3 : Int)) = s) (hlt : ¬ 4000 < s) (HV1 : Hid (cmpR l m = 0)) (HV2 : Hid (cmpR m l = 0)) (HV3 : Hid (cmpR m o = -1)) (HV4 : Hid (cmpR l o = 0)) (HK : Hid (checkR l = 0)) (HQ : Hid (checkR m = 0)) :
    Calls Tryd.prog 6 #[.slice A1 n1 c1, .slice A2 n2 c2, .slice A3 n3 c3] w fun e w' => e = .returned (.bool true) ∧ Ext w w' := by
  have m1 : True := trivial
  go_enter Tryd.func6, Tryd.ntmps6
  go_wp2_with (first
    | (have z := m1; clear z m1; go_at_call 14; refine (rowCmp_lit A1 A2 c1 c2 n1 n2 l m _ HV1 E1 E2 H1 H2).mono ?_; rintro e w1 ⟨rfl, x1⟩; have X1 := Lib.hid (x1); have J1_1 := Lib.hid (H1.out.ext X1.out); have J2_1 := Lib.hid (H2.out.ext X1.out); have J3_1 := Lib.hid (H3.out.ext X1.out); have m2 : True := trivial)
    | (have z := m2; clear z m2; go_at_call 14; refine (rowCmp_lit A2 A1 c2 c1 n2 n1 m l _ HV2 E2 E1 J2_1 J1_1).mono ?_; rintro e w2 ⟨rfl, x2⟩; have X2 := Lib.hid (X1.out.trans x2); have J1_2 := Lib.hid (H1.out.ext X2.out); have J2_2 := Lib.hid (H2.out.ext X2.out); have J3_2 := Lib.hid (H3.out.ext X2.out); have m3 : True := trivial)
    | (have z := m3; clear z m3; go_at_call 14; refine (rowCmp_lit A2 A3 c2 c3 n2 n3 m o _ HV3 E2 E3 J2_2 J3_2).mono ?_; rintro e w3 ⟨rfl, x3⟩; have X3 := Lib.hid (X2.out.trans x3); have J1_3 := Lib.hid (H1.out.ext X3.out); have J2_3 := Lib.hid (H2.out.ext X3.out); have J3_3 := Lib.hid (H3.out.ext X3.out); have m4 : True := trivial)
    | (have z := m4; clear z m4; go_at_call 14; refine (rowCmp_lit A1 A3 c1 c3 n1 n3 l o _ HV4 E1 E3 J1_3 J3_3).mono ?_; rintro e w4 ⟨rfl, x4⟩; have X4 := Lib.hid (X3.out.trans x4); have J1_4 := Lib.hid (H1.out.ext X4.out); have J2_4 := Lib.hid (H2.out.ext X4.out); have J3_4 := Lib.hid (H3.out.ext X4.out); have m5 : True := trivial)
    | (have z := m5; clear z m5; go_at_call 23; refine (encode_ok A1 c1 n1 l _ HK E1 J1_4 T1 (G.ext X4.out)).mono ?_; rintro e w5 ⟨x5, xA, xn, xc, rfl, ob5⟩; have xO := Lib.hid ob5; have X5 := Lib.hid (X4.out.trans x5); have J1_5 := Lib.hid (H1.out.ext X5.out); have J2_5 := Lib.hid (H2.out.ext X5.out); clear ob5; have m6 : True := trivial)
    | (have z := m6; clear z m6; go_at_call 23; refine (encode_ok A2 c2 n2 m _ HQ E2 J2_5 T2 (G.ext X5.out)).mono ?_; rintro e w6 ⟨x6, yA, yn, yc, rfl, ob6⟩; have yO := Lib.hid ob6; have X6 := Lib.hid (X5.out.trans x6); have J1_6 := Lib.hid (H1.out.ext X6.out); have J2_6 := Lib.hid (H2.out.ext X6.out); clear ob6; have m7 : True := trivial)
    | (have z := m7; clear z m7; go_at_call 13; refine (known_true _ (G.ext X6.out)).mono ?_; rintro e w7 ⟨rfl, x7⟩; have X7 := Lib.hid (X6.out.trans x7); have m8 : True := trivial)
    | (go_at_call 24; refine (lawBytes_any (0) xA yA xc yc xn yn (keyT l) (keyT m) _ (Lib.hid (key_cmp T1.out T2.out HK.out HQ.out HV1.out)) (Lib.hid (by have := xO.out; exact this.len)) (Lib.hid (by have := yO.out; exact this.len)) (Lib.hid (by have := xO.out; exact (this.bs.ext x6).ext x7)) (Lib.hid (by have := yO.out; exact this.bs.ext x7))).mono ?_; rintro e w8 ⟨rfl, x8⟩; have X8 := Lib.hid (X7.out.trans x8))
    | fail)
  go_ret
  exact ⟨rfl, X8.out⟩
include G E1 E2 E3 H1 H2 H3 T1 T2 in
set_option maxRecDepth 100000 in
set_option maxHeartbeats 2000000 in
theorem order_z_m_z_01 (s0 s : Int) (hs0 : IntKind.i64.wrap ((n1 : Int) + (n2 : Int)) = s0) (hs : IntKind.i64.wrap (s0 + (n3 : Int)) = s) (hlt : ¬ 4000 < s) (q : Int) (hq : (q != 0) = true) (HV1 : Hid (cmpR l m = 0)) (HV2 : Hid (cmpR m l = 0)) (HV3 : Hid (cmpR m o = -1)) (HV4 : Hid (cmpR l o = 0)) (HK : Hid (checkR l = 0)) (HQ : Hid (checkR m = q)) :
    Calls Tryd.prog 6 #[.slice A1 n1 c1, .slice A2 n2 c2, .slice A3 n3 c3] w fun e w' => e = .returned (.bool true) ∧ Ext w w' := by
  have m1 : True := trivial
  go_enter Tryd.func6, Tryd.ntmps6
  go_wp2_with (first
    | (have z := m1; clear z m1; go_at_call 14; refine (rowCmp_lit A1 A2 c1 c2 n1 n2 l m _ HV1 E1 E2 H1 H2).mono ?_; rintro e w1 ⟨rfl, x1⟩; have X1 := Lib.hid (x1); have J1_1 := Lib.hid (H1.out.ext X1.out); have J2_1 := Lib.hid (H2.out.ext X1.out); have J3_1 := Lib.hid (H3.out.ext X1.out); have m2 : True := trivial)
    | (have z := m2; clear z m2; go_at_call 14; refine (rowCmp_lit A2 A1 c2 c1 n2 n1 m l _ HV2 E2 E1 J2_1 J1_1).mono ?_; rintro e w2 ⟨rfl, x2⟩; have X2 := Lib.hid (X1.out.trans x2); have J1_2 := Lib.hid (H1.out.ext X2.out); have J2_2 := Lib.hid (H2.out.ext X2.out); have J3_2 := Lib.hid (H3.out.ext X2.out); have m3 : True := trivial)
    | (have z := m3; clear z m3; go_at_call 14; refine (rowCmp_lit A2 A3 c2 c3 n2 n3 m o _ HV3 E2 E3 J2_2 J3_2).mono ?_; rintro e w3 ⟨rfl, x3⟩; have X3 := Lib.hid (X2.out.trans x3); have J1_3 := Lib.hid (H1.out.ext X3.out); have J2_3 := Lib.hid (H2.out.ext X3.out); have J3_3 := Lib.hid (H3.out.ext X3.out); have m4 : True := trivial)
    | (have z := m4; clear z m4; go_at_call 14; refine (rowCmp_lit A1 A3 c1 c3 n1 n3 l o _ HV4 E1 E3 J1_3 J3_3).mono ?_; rintro e w4 ⟨rfl, x4⟩; have X4 := Lib.hid (X3.out.trans x4); have J1_4 := Lib.hid (H1.out.ext X4.out); have J2_4 := Lib.hid (H2.out.ext X4.out); have J3_4 := Lib.hid (H3.out.ext X4.out); have m5 : True := trivial)
    | (have z := m5; clear z m5; go_at_call 23; refine (encode_ok A1 c1 n1 l _ HK E1 J1_4 T1 (G.ext X4.out)).mono ?_; rintro e w5 ⟨x5, xA, xn, xc, rfl, ob5⟩; have xO := Lib.hid ob5; have X5 := Lib.hid (X4.out.trans x5); have J1_5 := Lib.hid (H1.out.ext X5.out); have J2_5 := Lib.hid (H2.out.ext X5.out); clear ob5; have m6 : True := trivial)
    | (have z := m6; clear z m6; go_at_call 23; refine (encode_lit A2 c2 n2 m _ HQ E2 J2_5 T2 (G.ext X5.out)).mono ?_; rintro e w6 ⟨x6, yA, yn, yc, rfl, ob6⟩; have yO := Lib.hid ob6; have X6 := Lib.hid (X5.out.trans x6); have J1_6 := Lib.hid (H1.out.ext X6.out); have J2_6 := Lib.hid (H2.out.ext X6.out); clear ob6; have m7 : True := trivial)
    | (have z := m7; clear z m7; go_at_call 13; refine (known_true _ (G.ext X6.out)).mono ?_; rintro e w7 ⟨rfl, x7⟩; have X7 := Lib.hid (X6.out.trans x7); have m8 : True := trivial)
    | fail)
  go_ret
  exact ⟨rfl, X7.out⟩
include G E1 E2 E3 H1 H2 H3 T1 T2 in
set_option maxRecDepth 100000 in
set_option maxHeartbeats 2000000 in
theorem order_z_m_z_10 (s0 s : Int) (hs0 : IntKind.i64.wrap ((n1 : Int) + (n2 : Int)) = s0) (hs : IntKind.i64.wrap (s0 + (n3 : Int)) = s) (hlt : ¬ 4000 < s) (k : Int) (hk : (k != 0) = true) (HV1 : Hid (cmpR l m = 0)) (HV2 : Hid (cmpR m l = 0)) (HV3 : Hid (cmpR m o = -1)) (HV4 : Hid (cmpR l o = 0)) (HK : Hid (checkR l = k)) (HQ : Hid (checkR m = 0)) :
    Calls Tryd.prog 6 #[.slice A1 n1 c1, .slice A2 n2 c2, .slice A3 n3 c3] w fun e w' => e = .returned (.bool true) ∧ Ext w w' := by
  have m1 : True := trivial
  go_enter Tryd.func6, Tryd.ntmps6
  go_wp2_with (first
    | (have z := m1; clear z m1; go_at_call 14; refine (rowCmp_lit A1 A2 c1 c2 n1 n2 l m _ HV1 E1 E2 H1 H2).mono ?_; rintro e w1 ⟨rfl, x1⟩; have X1 := Lib.hid (x1); have J1_1 := Lib.hid (H1.out.ext X1.out); have J2_1 := Lib.hid (H2.out.ext X1.out); have J3_1 := Lib.hid (H3.out.ext X1.out); have m2 : True := trivial)
    | (have z := m2; clear z m2; go_at_call 14; refine (rowCmp_lit A2 A1 c2 c1 n2 n1 m l _ HV2 E2 E1 J2_1 J1_1).mono ?_; rintro e w2 ⟨rfl, x2⟩; have X2 := Lib.hid (X1.out.trans x2); have J1_2 := Lib.hid (H1.out.ext X2.out); have J2_2 := Lib.hid (H2.out.ext X2.out); have J3_2 := Lib.hid (H3.out.ext X2.out); have m3 : True := trivial)
    | (have z := m3; clear z m3; go_at_call 14; refine (rowCmp_lit A2 A3 c2 c3 n2 n3 m o _ HV3 E2 E3 J2_2 J3_2).mono ?_; rintro e w3 ⟨rfl, x3⟩; have X3 := Lib.hid (X2.out.trans x3); have J1_3 := Lib.hid (H1.out.ext X3.out); have J2_3 := Lib.hid (H2.out.ext X3.out); have J3_3 := Lib.hid (H3.out.ext X3.out); have m4 : True := trivial)
    | (have z := m4; clear z m4; go_at_call 14; refine (rowCmp_lit A1 A3 c1 c3 n1 n3 l o _ HV4 E1 E3 J1_3 J3_3).mono ?_; rintro e w4 ⟨rfl, x4⟩; have X4 := Lib.hid (X3.out.trans x4); have J1_4 := Lib.hid (H1.out.ext X4.out); have J2_4 := Lib.hid (H2.out.ext X4.out); have J3_4 := Lib.hid (H3.out.ext X4.out); have m5 : True := trivial)
    | (have z := m5; clear z m5; go_at_call 23; refine (encode_lit A1 c1 n1 l _ HK E1 J1_4 T1 (G.ext X4.out)).mono ?_; rintro e w5 ⟨x5, xA, xn, xc, rfl, ob5⟩; have xO := Lib.hid ob5; have X5 := Lib.hid (X4.out.trans x5); have J1_5 := Lib.hid (H1.out.ext X5.out); have J2_5 := Lib.hid (H2.out.ext X5.out); clear ob5; have m6 : True := trivial)
    | (have z := m6; clear z m6; go_at_call 23; refine (encode_ok A2 c2 n2 m _ HQ E2 J2_5 T2 (G.ext X5.out)).mono ?_; rintro e w6 ⟨x6, yA, yn, yc, rfl, ob6⟩; have yO := Lib.hid ob6; have X6 := Lib.hid (X5.out.trans x6); have J1_6 := Lib.hid (H1.out.ext X6.out); have J2_6 := Lib.hid (H2.out.ext X6.out); clear ob6; have m7 : True := trivial)
    | (have z := m7; clear z m7; go_at_call 13; refine (known_true _ (G.ext X6.out)).mono ?_; rintro e w7 ⟨rfl, x7⟩; have X7 := Lib.hid (X6.out.trans x7); have m8 : True := trivial)
    | fail)
  go_ret
  exact ⟨rfl, X7.out⟩
include G E1 E2 E3 H1 H2 H3 T1 T2 in
set_option maxRecDepth 100000 in
set_option maxHeartbeats 2000000 in
theorem order_z_m_z_11 (s0 s : Int) (hs0 : IntKind.i64.wrap ((n1 : Int) + (n2 : Int)) = s0) (hs : IntKind.i64.wrap (s0 + (n3 : Int)) = s) (hlt : ¬ 4000 < s) (k : Int) (hk : (k != 0) = true) (q : Int) (hq : (q != 0) = true) (HV1 : Hid (cmpR l m = 0)) (HV2 : Hid (cmpR m l = 0)) (HV3 : Hid (cmpR m o = -1)) (HV4 : Hid (cmpR l o = 0)) (HK : Hid (checkR l = k)) (HQ : Hid (checkR m = q)) :
    Calls Tryd.prog 6 #[.slice A1 n1 c1, .slice A2 n2 c2, .slice A3 n3 c3] w fun e w' => e = .returned (.bool true) ∧ Ext w w' := by
  have m1 : True := trivial
  go_enter Tryd.func6, Tryd.ntmps6
  go_wp2_with (first
    | (have z := m1; clear z m1; go_at_call 14; refine (rowCmp_lit A1 A2 c1 c2 n1 n2 l m _ HV1 E1 E2 H1 H2).mono ?_; rintro e w1 ⟨rfl, x1⟩; have X1 := Lib.hid (x1); have J1_1 := Lib.hid (H1.out.ext X1.out); have J2_1 := Lib.hid (H2.out.ext X1.out); have J3_1 := Lib.hid (H3.out.ext X1.out); have m2 : True := trivial)
    | (have z := m2; clear z m2; go_at_call 14; refine (rowCmp_lit A2 A1 c2 c1 n2 n1 m l _ HV2 E2 E1 J2_1 J1_1).mono ?_; rintro e w2 ⟨rfl, x2⟩; have X2 := Lib.hid (X1.out.trans x2); have J1_2 := Lib.hid (H1.out.ext X2.out); have J2_2 := Lib.hid (H2.out.ext X2.out); have J3_2 := Lib.hid (H3.out.ext X2.out); have m3 : True := trivial)
    | (have z := m3; clear z m3; go_at_call 14; refine (rowCmp_lit A2 A3 c2 c3 n2 n3 m o _ HV3 E2 E3 J2_2 J3_2).mono ?_; rintro e w3 ⟨rfl, x3⟩; have X3 := Lib.hid (X2.out.trans x3); have J1_3 := Lib.hid (H1.out.ext X3.out); have J2_3 := Lib.hid (H2.out.ext X3.out); have J3_3 := Lib.hid (H3.out.ext X3.out); have m4 : True := trivial)
    | (have z := m4; clear z m4; go_at_call 14; refine (rowCmp_lit A1 A3 c1 c3 n1 n3 l o _ HV4 E1 E3 J1_3 J3_3).mono ?_; rintro e w4 ⟨rfl, x4⟩; have X4 := Lib.hid (X3.out.trans x4); have J1_4 := Lib.hid (H1.out.ext X4.out); have J2_4 := Lib.hid (H2.out.ext X4.out); have J3_4 := Lib.hid (H3.out.ext X4.out); have m5 : True := trivial)
    | (have z := m5; clear z m5; go_at_call 23; refine (encode_lit A1 c1 n1 l _ HK E1 J1_4 T1 (G.ext X4.out)).mono ?_; rintro e w5 ⟨x5, xA, xn, xc, rfl, ob5⟩; have xO := Lib.hid ob5; have X5 := Lib.hid (X4.out.trans x5); have J1_5 := Lib.hid (H1.out.ext X5.out); have J2_5 := Lib.hid (H2.out.ext X5.out); clear ob5; have m6 : True := trivial)
    | (have z := m6; clear z m6; go_at_call 23; refine (encode_lit A2 c2 n2 m _ HQ E2 J2_5 T2 (G.ext X5.out)).mono ?_; rintro e w6 ⟨x6, yA, yn, yc, rfl, ob6⟩; have yO := Lib.hid ob6; have X6 := Lib.hid (X5.out.trans x6); have J1_6 := Lib.hid (H1.out.ext X6.out); have J2_6 := Lib.hid (H2.out.ext X6.out); clear ob6; have m7 : True := trivial)
    | (have z := m7; clear z m7; go_at_call 13; refine (known_true _ (G.ext X6.out)).mono ?_; rintro e w7 ⟨rfl, x7⟩; have X7 := Lib.hid (X6.out.trans x7); have m8 : True := trivial)
    | fail)
  go_ret
  exact ⟨rfl, X7.out⟩
include G E1 E2 E3 H1 H2 H3 T1 T2 in
set_option maxRecDepth 100000 in
set_option maxHeartbeats 2000000 in
theorem order_z_z_m_00 (s0 s : Int) (hs0 : IntKind.i64.wrap ((n1 : Int) + (n2 : Int)) = s0) (hs : IntKind.i64.wrap (s0 + (n3 : Int)) = s) (hlt : ¬ 4000 < s) (HV1 : Hid (cmpR l m = 0)) (HV2 : Hid (cmpR m l = 0)) (HV3 : Hid (cmpR m o = 0)) (HV4 : Hid (cmpR l o = -1)) (HK : Hid (checkR l = 0)) (HQ : Hid (checkR m = 0)) :
    Calls Tryd.prog 6 #[.slice A1 n1 c1, .slice A2 n2 c2, .slice A3 n3 c3] w fun e w' => e = .returned (.bool true) ∧ Ext w w' := by
  have m1 : True := trivial
  go_enter Tryd.func6, Tryd.ntmps6
  go_wp2_with (first
    | (have z := m1; clear z m1; go_at_call 14; refine (rowCmp_lit A1 A2 c1 c2 n1 n2 l m _ HV1 E1 E2 H1 H2).mono ?_; rintro e w1 ⟨rfl, x1⟩; have X1 := Lib.hid (x1); have J1_1 := Lib.hid (H1.out.ext X1.out); have J2_1 := Lib.hid (H2.out.ext X1.out); have J3_1 := Lib.hid (H3.out.ext X1.out); have m2 : True := trivial)
    | (have z := m2; clear z m2; go_at_call 14; refine (rowCmp_lit A2 A1 c2 c1 n2 n1 m l _ HV2 E2 E1 J2_1 J1_1).mono ?_; rintro e w2 ⟨rfl, x2⟩; have X2 := Lib.hid (X1.out.trans x2); have J1_2 := Lib.hid (H1.out.ext X2.out); have J2_2 := Lib.hid (H2.out.ext X2.out); have J3_2 := Lib.hid (H3.out.ext X2.out); have m3 : True := trivial)
    | (have z := m3; clear z m3; go_at_call 14; refine (rowCmp_lit A2 A3 c2 c3 n2 n3 m o _ HV3 E2 E3 J2_2 J3_2).mono ?_; rintro e w3 ⟨rfl, x3⟩; have X3 := Lib.hid (X2.out.trans x3); have J1_3 := Lib.hid (H1.out.ext X3.out); have J2_3 := Lib.hid (H2.out.ext X3.out); have J3_3 := Lib.hid (H3.out.ext X3.out); have m4 : True := trivial)
    | (have z := m4; clear z m4; go_at_call 14; refine (rowCmp_lit A1 A3 c1 c3 n1 n3 l o _ HV4 E1 E3 J1_3 J3_3).mono ?_; rintro e w4 ⟨rfl, x4⟩; have X4 := Lib.hid (X3.out.trans x4); have J1_4 := Lib.hid (H1.out.ext X4.out); have J2_4 := Lib.hid (H2.out.ext X4.out); have J3_4 := Lib.hid (H3.out.ext X4.out); have m5 : True := trivial)
    | (have z := m5; clear z m5; go_at_call 23; refine (encode_ok A1 c1 n1 l _ HK E1 J1_4 T1 (G.ext X4.out)).mono ?_; rintro e w5 ⟨x5, xA, xn, xc, rfl, ob5⟩; have xO := Lib.hid ob5; have X5 := Lib.hid (X4.out.trans x5); have J1_5 := Lib.hid (H1.out.ext X5.out); have J2_5 := Lib.hid (H2.out.ext X5.out); clear ob5; have m6 : True := trivial)
    | (have z := m6; clear z m6; go_at_call 23; refine (encode_ok A2 c2 n2 m _ HQ E2 J2_5 T2 (G.ext X5.out)).mono ?_; rintro e w6 ⟨x6, yA, yn, yc, rfl, ob6⟩; have yO := Lib.hid ob6; have X6 := Lib.hid (X5.out.trans x6); have J1_6 := Lib.hid (H1.out.ext X6.out); have J2_6 := Lib.hid (H2.out.ext X6.out); clear ob6; have m7 : True := trivial)
    | (have z := m7; clear z m7; go_at_call 13; refine (known_true _ (G.ext X6.out)).mono ?_; rintro e w7 ⟨rfl, x7⟩; have X7 := Lib.hid (X6.out.trans x7); have m8 : True := trivial)
    | (go_at_call 24; refine (lawBytes_any (0) xA yA xc yc xn yn (keyT l) (keyT m) _ (Lib.hid (key_cmp T1.out T2.out HK.out HQ.out HV1.out)) (Lib.hid (by have := xO.out; exact this.len)) (Lib.hid (by have := yO.out; exact this.len)) (Lib.hid (by have := xO.out; exact (this.bs.ext x6).ext x7)) (Lib.hid (by have := yO.out; exact this.bs.ext x7))).mono ?_; rintro e w8 ⟨rfl, x8⟩; have X8 := Lib.hid (X7.out.trans x8))
    | fail)
  go_ret
  exact ⟨rfl, X8.out⟩
include G E1 E2 E3 H1 H2 H3 T1 T2 in
set_option maxRecDepth 100000 in
set_option maxHeartbeats 2000000 in
theorem order_z_z_m_01 (s0 s : Int) (hs0 : IntKind.i64.wrap ((n1 : Int) + (n2 : Int)) = s0) (hs : IntKind.i64.wrap (s0 + (n3 : Int)) = s) (hlt : ¬ 4000 < s) (q : Int) (hq : (q != 0) = true) (HV1 : Hid (cmpR l m = 0)) (HV2 : Hid (cmpR m l = 0)) (HV3 : Hid (cmpR m o = 0)) (HV4 : Hid (cmpR l o = -1)) (HK : Hid (checkR l = 0)) (HQ : Hid (checkR m = q)) :
    Calls Tryd.prog 6 #[.slice A1 n1 c1, .slice A2 n2 c2, .slice A3 n3 c3] w fun e w' => e = .returned (.bool true) ∧ Ext w w' := by
  have m1 : True := trivial
  go_enter Tryd.func6, Tryd.ntmps6
  go_wp2_with (first
    | (have z := m1; clear z m1; go_at_call 14; refine (rowCmp_lit A1 A2 c1 c2 n1 n2 l m _ HV1 E1 E2 H1 H2).mono ?_; rintro e w1 ⟨rfl, x1⟩; have X1 := Lib.hid (x1); have J1_1 := Lib.hid (H1.out.ext X1.out); have J2_1 := Lib.hid (H2.out.ext X1.out); have J3_1 := Lib.hid (H3.out.ext X1.out); have m2 : True := trivial)
    | (have z := m2; clear z m2; go_at_call 14; refine (rowCmp_lit A2 A1 c2 c1 n2 n1 m l _ HV2 E2 E1 J2_1 J1_1).mono ?_; rintro e w2 ⟨rfl, x2⟩; have X2 := Lib.hid (X1.out.trans x2); have J1_2 := Lib.hid (H1.out.ext X2.out); have J2_2 := Lib.hid (H2.out.ext X2.out); have J3_2 := Lib.hid (H3.out.ext X2.out); have m3 : True := trivial)
    | (have z := m3; clear z m3; go_at_call 14; refine (rowCmp_lit A2 A3 c2 c3 n2 n3 m o _ HV3 E2 E3 J2_2 J3_2).mono ?_; rintro e w3 ⟨rfl, x3⟩; have X3 := Lib.hid (X2.out.trans x3); have J1_3 := Lib.hid (H1.out.ext X3.out); have J2_3 := Lib.hid (H2.out.ext X3.out); have J3_3 := Lib.hid (H3.out.ext X3.out); have m4 : True := trivial)
    | (have z := m4; clear z m4; go_at_call 14; refine (rowCmp_lit A1 A3 c1 c3 n1 n3 l o _ HV4 E1 E3 J1_3 J3_3).mono ?_; rintro e w4 ⟨rfl, x4⟩; have X4 := Lib.hid (X3.out.trans x4); have J1_4 := Lib.hid (H1.out.ext X4.out); have J2_4 := Lib.hid (H2.out.ext X4.out); have J3_4 := Lib.hid (H3.out.ext X4.out); have m5 : True := trivial)
    | (have z := m5; clear z m5; go_at_call 23; refine (encode_ok A1 c1 n1 l _ HK E1 J1_4 T1 (G.ext X4.out)).mono ?_; rintro e w5 ⟨x5, xA, xn, xc, rfl, ob5⟩; have xO := Lib.hid ob5; have X5 := Lib.hid (X4.out.trans x5); have J1_5 := Lib.hid (H1.out.ext X5.out); have J2_5 := Lib.hid (H2.out.ext X5.out); clear ob5; have m6 : True := trivial)
    | (have z := m6; clear z m6; go_at_call 23; refine (encode_lit A2 c2 n2 m _ HQ E2 J2_5 T2 (G.ext X5.out)).mono ?_; rintro e w6 ⟨x6, yA, yn, yc, rfl, ob6⟩; have yO := Lib.hid ob6; have X6 := Lib.hid (X5.out.trans x6); have J1_6 := Lib.hid (H1.out.ext X6.out); have J2_6 := Lib.hid (H2.out.ext X6.out); clear ob6; have m7 : True := trivial)
    | (have z := m7; clear z m7; go_at_call 13; refine (known_true _ (G.ext X6.out)).mono ?_; rintro e w7 ⟨rfl, x7⟩; have X7 := Lib.hid (X6.out.trans x7); have m8 : True := trivial)
    | fail)
  go_ret
  exact ⟨rfl, X7.out⟩
include G E1 E2 E3 H1 H2 H3 T1 T2 in
set_option maxRecDepth 100000 in
set_option maxHeartbeats 2000000 in
theorem order_z_z_m_10 (s0 s : Int) (hs0 : IntKind.i64.wrap ((n1 : Int) + (n2 : Int)) = s0) (hs : IntKind.i64.wrap (s0 + (n3 : Int)) = s) (hlt : ¬ 4000 < s) (k : Int) (hk : (k != 0) = true) (HV1 : Hid (cmpR l m = 0)) (HV2 : Hid (cmpR m l = 0)) (HV3 : Hid (cmpR m o = 0)) (HV4 : Hid (cmpR l o = -1)) (HK : Hid (checkR l = k)) (HQ : Hid (checkR m = 0)) :
    Calls Tryd.prog 6 #[.slice A1 n1 c1, .slice A2 n2 c2, .slice A3 n3 c3] w fun e w' => e = .returned (.bool true) ∧ Ext w w' := by
  have m1 : True := trivial
  go_enter Tryd.func6, Tryd.ntmps6
  go_wp2_with (first
    | (have z := m1; clear z m1; go_at_call 14; refine (rowCmp_lit A1 A2 c1 c2 n1 n2 l m _ HV1 E1 E2 H1 H2).mono ?_; rintro e w1 ⟨rfl, x1⟩; have X1 := Lib.hid (x1); have J1_1 := Lib.hid (H1.out.ext X1.out); have J2_1 := Lib.hid (H2.out.ext X1.out); have J3_1 := Lib.hid (H3.out.ext X1.out); have m2 : True := trivial)
    | (have z := m2; clear z m2; go_at_call 14; refine (rowCmp_lit A2 A1 c2 c1 n2 n1 m l _ HV2 E2 E1 J2_1 J1_1).mono ?_; rintro e w2 ⟨rfl, x2⟩; have X2 := Lib.hid (X1.out.trans x2); have J1_2 := Lib.hid (H1.out.ext X2.out); have J2_2 := Lib.hid (H2.out.ext X2.out); have J3_2 := Lib.hid (H3.out.ext X2.out); have m3 : True := trivial)
    | (have z := m3; clear z m3; go_at_call 14; refine (rowCmp_lit A2 A3 c2 c3 n2 n3 m o _ HV3 E2 E3 J2_2 J3_2).mono ?_; rintro e w3 ⟨rfl, x3⟩; have X3 := Lib.hid (X2.out.trans x3); have J1_3 := Lib.hid (H1.out.ext X3.out); have J2_3 := Lib.hid (H2.out.ext X3.out); have J3_3 := Lib.hid (H3.out.ext X3.out); have m4 : True := trivial)
    | (have z := m4; clear z m4; go_at_call 14; refine (rowCmp_lit A1 A3 c1 c3 n1 n3 l o _ HV4 E1 E3 J1_3 J3_3).mono ?_; rintro e w4 ⟨rfl, x4⟩; have X4 := Lib.hid (X3.out.trans x4); have J1_4 := Lib.hid (H1.out.ext X4.out); have J2_4 := Lib.hid (H2.out.ext X4.out); have J3_4 := Lib.hid (H3.out.ext X4.out); have m5 : True := trivial)
    | (have z := m5; clear z m5; go_at_call 23; refine (encode_lit A1 c1 n1 l _ HK E1 J1_4 T1 (G.ext X4.out)).mono ?_; rintro e w5 ⟨x5, xA, xn, xc, rfl, ob5⟩; have xO := Lib.hid ob5; have X5 := Lib.hid (X4.out.trans x5); have J1_5 := Lib.hid (H1.out.ext X5.out); have J2_5 := Lib.hid (H2.out.ext X5.out); clear ob5; have m6 : True := trivial)
    | (have z := m6; clear z m6; go_at_call 23; refine (encode_ok A2 c2 n2 m _ HQ E2 J2_5 T2 (G.ext X5.out)).mono ?_; rintro e w6 ⟨x6, yA, yn, yc, rfl, ob6⟩; have yO := Lib.hid ob6; have X6 := Lib.hid (X5.out.trans x6); have J1_6 := Lib.hid (H1.out.ext X6.out); have J2_6 := Lib.hid (H2.out.ext X6.out); clear ob6; have m7 : True := trivial)
    | (have z := m7; clear z m7; go_at_call 13; refine (known_true _ (G.ext X6.out)).mono ?_; rintro e w7 ⟨rfl, x7⟩; have X7 := Lib.hid (X6.out.trans x7); have m8 : True := trivial)
    | fail)
  go_ret
  exact ⟨rfl, X7.out⟩
include G E1 E2 E3 H1 H2 H3 T1 T2 in
set_option maxRecDepth 100000 in
set_option maxHeartbeats 2000000 in
theorem order_z_z_m_11 (s0 s : Int) (hs0 : IntKind.i64.wrap ((n1 : Int) + (n2 : Int)) = s0) (hs : IntKind.i64.wrap (s0 + (n3 : Int)) = s) (hlt : ¬ 4000 < s) (k : Int) (hk : (k != 0) = true) (q : Int) (hq : (q != 0) = true) (HV1 : Hid (cmpR l m = 0)) (HV2 : Hid (cmpR m l = 0)) (HV3 : Hid (cmpR m o = 0)) (HV4 : Hid (cmpR l o = -1)) (HK : Hid (checkR l = k)) (HQ : Hid (checkR m = q)) :
    Calls Tryd.prog 6 #[.slice A1 n1 c1, .slice A2 n2 c2, .slice A3 n3 c3] w fun e w' => e = .returned (.bool true) ∧ Ext w w' := by
  have m1 : True := trivial
  go_enter Tryd.func6, Tryd.ntmps6
  go_wp2_with (first
    | (have z := m1; clear z m1; go_at_call 14; refine (rowCmp_lit A1 A2 c1 c2 n1 n2 l m _ HV1 E1 E2 H1 H2).mono ?_; rintro e w1 ⟨rfl, x1⟩; have X1 := Lib.hid (x1); have J1_1 := Lib.hid (H1.out.ext X1.out); have J2_1 := Lib.hid (H2.out.ext X1.out); have J3_1 := Lib.hid (H3.out.ext X1.out); have m2 : True := trivial)
    | (have z := m2; clear z m2; go_at_call 14; refine (rowCmp_lit A2 A1 c2 c1 n2 n1 m l _ HV2 E2 E1 J2_1 J1_1).mono ?_; rintro e w2 ⟨rfl, x2⟩; have X2 := Lib.hid (X1.out.trans x2); have J1_2 := Lib.hid (H1.out.ext X2.out); have J2_2 := Lib.hid (H2.out.ext X2.out); have J3_2 := Lib.hid (H3.out.ext X2.out); have m3 : True := trivial)
    | (have z := m3; clear z m3; go_at_call 14; refine (rowCmp_lit A2 A3 c2 c3 n2 n3 m o _ HV3 E2 E3 J2_2 J3_2).mono ?_; rintro e w3 ⟨rfl, x3⟩; have X3 := Lib.hid (X2.out.trans x3); have J1_3 := Lib.hid (H1.out.ext X3.out); have J2_3 := Lib.hid (H2.out.ext X3.out); have J3_3 := Lib.hid (H3.out.ext X3.out); have m4 : True := trivial)
    | (have z := m4; clear z m4; go_at_call 14; refine (rowCmp_lit A1 A3 c1 c3 n1 n3 l o _ HV4 E1 E3 J1_3 J3_3).mono ?_; rintro e w4 ⟨rfl, x4⟩; have X4 := Lib.hid (X3.out.trans x4); have J1_4 := Lib.hid (H1.out.ext X4.out); have J2_4 := Lib.hid (H2.out.ext X4.out); have J3_4 := Lib.hid (H3.out.ext X4.out); have m5 : True := trivial)
    | (have z := m5; clear z m5; go_at_call 23; refine (encode_lit A1 c1 n1 l _ HK E1 J1_4 T1 (G.ext X4.out)).mono ?_; rintro e w5 ⟨x5, xA, xn, xc, rfl, ob5⟩; have xO := Lib.hid ob5; have X5 := Lib.hid (X4.out.trans x5); have J1_5 := Lib.hid (H1.out.ext X5.out); have J2_5 := Lib.hid (H2.out.ext X5.out); clear ob5; have m6 : True := trivial)
    | (have z := m6; clear z m6; go_at_call 23; refine (encode_lit A2 c2 n2 m _ HQ E2 J2_5 T2 (G.ext X5.out)).mono ?_; rintro e w6 ⟨x6, yA, yn, yc, rfl, ob6⟩; have yO := Lib.hid ob6; have X6 := Lib.hid (X5.out.trans x6); have J1_6 := Lib.hid (H1.out.ext X6.out); have J2_6 := Lib.hid (H2.out.ext X6.out); clear ob6; have m7 : True := trivial)
    | (have z := m7; clear z m7; go_at_call 13; refine (known_true _ (G.ext X6.out)).mono ?_; rintro e w7 ⟨rfl, x7⟩; have X7 := Lib.hid (X6.out.trans x7); have m8 : True := trivial)
    | fail)
  go_ret
  exact ⟨rfl, X7.out⟩
include G E1 E2 E3 H1 H2 H3 T1 T2 in
set_option maxRecDepth 100000 in
set_option maxHeartbeats 2000000 in
theorem order_z_z_z_00 (s0 s : Int) (hs0 : IntKind.i64.wrap ((n1 : Int) + (n2 : Int)) = s0) (hs : IntKind.i64.wrap (s0 + (n3 : Int)) = s) (hlt : ¬ 4000 < s) (HV1 : Hid (cmpR l m = 0)) (HV2 : Hid (cmpR m l = 0)) (HV3 : Hid (cmpR m o = 0)) (HV4 : Hid (cmpR l o = 0)) (HK : Hid (checkR l = 0)) (HQ : Hid (checkR m = 0)) :
    Calls Tryd.prog 6 #[.slice A1 n1 c1, .slice A2 n2 c2, .slice A3 n3 c3] w fun e w' => e = .returned (.bool true) ∧ Ext w w' := by
  have m1 : True := trivial
  go_enter Tryd.func6, Tryd.ntmps6
  go_wp2_with (first
    | (have z := m1; clear z m1; go_at_call 14; refine (rowCmp_lit A1 A2 c1 c2 n1 n2 l m _ HV1 E1 E2 H1 H2).mono ?_; rintro e w1 ⟨rfl, x1⟩; have X1 := Lib.hid (x1); have J1_1 := Lib.hid (H1.out.ext X1.out); have J2_1 := Lib.hid (H2.out.ext X1.out); have J3_1 := Lib.hid (H3.out.ext X1.out); have m2 : True := trivial)
    | (have z := m2; clear z m2; go_at_call 14; refine (rowCmp_lit A2 A1 c2 c1 n2 n1 m l _ HV2 E2 E1 J2_1 J1_1).mono ?_; rintro e w2 ⟨rfl, x2⟩; have X2 := Lib.hid (X1.out.trans x2); have J1_2 := Lib.hid (H1.out.ext X2.out); have J2_2 := Lib.hid (H2.out.ext X2.out); have J3_2 := Lib.hid (H3.out.ext X2.out); have m3 : True := trivial)
    | (have z := m3; clear z m3; go_at_call 14; refine (rowCmp_lit A2 A3 c2 c3 n2 n3 m o _ HV3 E2 E3 J2_2 J3_2).mono ?_; rintro e w3 ⟨rfl, x3⟩; have X3 := Lib.hid (X2.out.trans x3); have J1_3 := Lib.hid (H1.out.ext X3.out); have J2_3 := Lib.hid (H2.out.ext X3.out); have J3_3 := Lib.hid (H3.out.ext X3.out); have m4 : True := trivial)
    | (have z := m4; clear z m4; go_at_call 14; refine (rowCmp_lit A1 A3 c1 c3 n1 n3 l o _ HV4 E1 E3 J1_3 J3_3).mono ?_; rintro e w4 ⟨rfl, x4⟩; have X4 := Lib.hid (X3.out.trans x4); have J1_4 := Lib.hid (H1.out.ext X4.out); have J2_4 := Lib.hid (H2.out.ext X4.out); have J3_4 := Lib.hid (H3.out.ext X4.out); have m5 : True := trivial)
    | (have z := m5; clear z m5; go_at_call 23; refine (encode_ok A1 c1 n1 l _ HK E1 J1_4 T1 (G.ext X4.out)).mono ?_; rintro e w5 ⟨x5, xA, xn, xc, rfl, ob5⟩; have xO := Lib.hid ob5; have X5 := Lib.hid (X4.out.trans x5); have J1_5 := Lib.hid (H1.out.ext X5.out); have J2_5 := Lib.hid (H2.out.ext X5.out); clear ob5; have m6 : True := trivial)
    | (have z := m6; clear z m6; go_at_call 23; refine (encode_ok A2 c2 n2 m _ HQ E2 J2_5 T2 (G.ext X5.out)).mono ?_; rintro e w6 ⟨x6, yA, yn, yc, rfl, ob6⟩; have yO := Lib.hid ob6; have X6 := Lib.hid (X5.out.trans x6); have J1_6 := Lib.hid (H1.out.ext X6.out); have J2_6 := Lib.hid (H2.out.ext X6.out); clear ob6; have m7 : True := trivial)
    | (have z := m7; clear z m7; go_at_call 13; refine (known_true _ (G.ext X6.out)).mono ?_; rintro e w7 ⟨rfl, x7⟩; have X7 := Lib.hid (X6.out.trans x7); have m8 : True := trivial)
    | (go_at_call 24; refine (lawBytes_any (0) xA yA xc yc xn yn (keyT l) (keyT m) _ (Lib.hid (key_cmp T1.out T2.out HK.out HQ.out HV1.out)) (Lib.hid (by have := xO.out; exact this.len)) (Lib.hid (by have := yO.out; exact this.len)) (Lib.hid (by have := xO.out; exact (this.bs.ext x6).ext x7)) (Lib.hid (by have := yO.out; exact this.bs.ext x7))).mono ?_; rintro e w8 ⟨rfl, x8⟩; have X8 := Lib.hid (X7.out.trans x8))
    | fail)
  go_ret
  exact ⟨rfl, X8.out⟩
include G E1 E2 E3 H1 H2 H3 T1 T2 in
set_option maxRecDepth 100000 in
set_option maxHeartbeats 2000000 in
theorem order_z_z_z_01 (s0 s : Int) (hs0 : IntKind.i64.wrap ((n1 : Int) + (n2 : Int)) = s0) (hs : IntKind.i64.wrap (s0 + (n3 : Int)) = s) (hlt : ¬ 4000 < s) (q : Int) (hq : (q != 0) = true) (HV1 : Hid (cmpR l m = 0)) (HV2 : Hid (cmpR m l = 0)) (HV3 : Hid (cmpR m o = 0)) (HV4 : Hid (cmpR l o = 0)) (HK : Hid (checkR l = 0)) (HQ : Hid (checkR m = q)) :
    Calls Tryd.prog 6 #[.slice A1 n1 c1, .slice A2 n2 c2, .slice A3 n3 c3] w fun e w' => e = .returned (.bool true) ∧ Ext w w' := by
  have m1 : True := trivial
  go_enter Tryd.func6, Tryd.ntmps6
  go_wp2_with (first
    | (have z := m1; clear z m1; go_at_call 14; refine (rowCmp_lit A1 A2 c1 c2 n1 n2 l m _ HV1 E1 E2 H1 H2).mono ?_; rintro e w1 ⟨rfl, x1⟩; have X1 := Lib.hid (x1); have J1_1 := Lib.hid (H1.out.ext X1.out); have J2_1 := Lib.hid (H2.out.ext X1.out); have J3_1 := Lib.hid (H3.out.ext X1.out); have m2 : True := trivial)
    | (have z := m2; clear z m2; go_at_call 14; refine (rowCmp_lit A2 A1 c2 c1 n2 n1 m l _ HV2 E2 E1 J2_1 J1_1).mono ?_; rintro e w2 ⟨rfl, x2⟩; have X2 := Lib.hid (X1.out.trans x2); have J1_2 := Lib.hid (H1.out.ext X2.out); have J2_2 := Lib.hid (H2.out.ext X2.out); have J3_2 := Lib.hid (H3.out.ext X2.out); have m3 : True := trivial)
    | (have z := m3; clear z m3; go_at_call 14; refine (rowCmp_lit A2 A3 c2 c3 n2 n3 m o _ HV3 E2 E3 J2_2 J3_2).mono ?_; rintro e w3 ⟨rfl, x3⟩; have X3 := Lib.hid (X2.out.trans x3); have J1_3 := Lib.hid (H1.out.ext X3.out); have J2_3 := Lib.hid (H2.out.ext X3.out); have J3_3 := Lib.hid (H3.out.ext X3.out); have m4 : True := trivial)
    | (have z := m4; clear z m4; go_at_call 14; refine (rowCmp_lit A1 A3 c1 c3 n1 n3 l o _ HV4 E1 E3 J1_3 J3_3).mono ?_; rintro e w4 ⟨rfl, x4⟩; have X4 := Lib.hid (X3.out.trans x4); have J1_4 := Lib.hid (H1.out.ext X4.out); have J2_4 := Lib.hid (H2.out.ext X4.out); have J3_4 := Lib.hid (H3.out.ext X4.out); have m5 : True := trivial)
    | (have z := m5; clear z m5; go_at_call 23; refine (encode_ok A1 c1 n1 l _ HK E1 J1_4 T1 (G.ext X4.out)).mono ?_; rintro e w5 ⟨x5, xA, xn, xc, rfl, ob5⟩; have xO := Lib.hid ob5; have X5 := Lib.hid (X4.out.trans x5); have J1_5 := Lib.hid (H1.out.ext X5.out); have J2_5 := Lib.hid (H2.out.ext X5.out); clear ob5; have m6 : True := trivial)
    | (have z := m6; clear z m6; go_at_call 23; refine (encode_lit A2 c2 n2 m _ HQ E2 J2_5 T2 (G.ext X5.out)).mono ?_; rintro e w6 ⟨x6, yA, yn, yc, rfl, ob6⟩; have yO := Lib.hid ob6; have X6 := Lib.hid (X5.out.trans x6); have J1_6 := Lib.hid (H1.out.ext X6.out); have J2_6 := Lib.hid (H2.out.ext X6.out); clear ob6; have m7 : True := trivial)
    | (have z := m7; clear z m7; go_at_call 13; refine (known_true _ (G.ext X6.out)).mono ?_; rintro e w7 ⟨rfl, x7⟩; have X7 := Lib.hid (X6.out.trans x7); have m8 : True := trivial)
    | fail)
  go_ret
  exact ⟨rfl, X7.out⟩
include G E1 E2 E3 H1 H2 H3 T1 T2 in
set_option maxRecDepth 100000 in
set_option maxHeartbeats 2000000 in
theorem order_z_z_z_10 (s0 s : Int) (hs0 : IntKind.i64.wrap ((n1 : Int) + (n2 : Int)) = s0) (hs : IntKind.i64.wrap (s0 + (n3 : Int)) = s) (hlt : ¬ 4000 < s) (k : Int) (hk : (k != 0) = true) (HV1 : Hid (cmpR l m = 0)) (HV2 : Hid (cmpR m l = 0)) (HV3 : Hid (cmpR m o = 0)) (HV4 : Hid (cmpR l o = 0)) (HK : Hid (checkR l = k)) (HQ : Hid (checkR m = 0)) :
    Calls Tryd.prog 6 #[.slice A1 n1 c1, .slice A2 n2 c2, .slice A3 n3 c3] w fun e w' => e = .returned (.bool true) ∧ Ext w w' := by
  have m1 : True := trivial
  go_enter Tryd.func6, Tryd.ntmps6
  go_wp2_with (first
    | (have z := m1; clear z m1; go_at_call 14; refine (rowCmp_lit A1 A2 c1 c2 n1 n2 l m _ HV1 E1 E2 H1 H2).mono ?_; rintro e w1 ⟨rfl, x1⟩; have X1 := Lib.hid (x1); have J1_1 := Lib.hid (H1.out.ext X1.out); have J2_1 := Lib.hid (H2.out.ext X1.out); have J3_1 := Lib.hid (H3.out.ext X1.out); have m2 : True := trivial)
    | (have z := m2; clear z m2; go_at_call 14; refine (rowCmp_lit A2 A1 c2 c1 n2 n1 m l _ HV2 E2 E1 J2_1 J1_1).mono ?_; rintro e w2 ⟨rfl, x2⟩; have X2 := Lib.hid (X1.out.trans x2); have J1_2 := Lib.hid (H1.out.ext X2.out); have J2_2 := Lib.hid (H2.out.ext X2.out); have J3_2 := Lib.hid (H3.out.ext X2.out); have m3 : True := trivial)
    | (have z := m3; clear z m3; go_at_call 14; refine (rowCmp_lit A2 A3 c2 c3 n2 n3 m o _ HV3 E2 E3 J2_2 J3_2).mono ?_; rintro e w3 ⟨rfl, x3⟩; have X3 := Lib.hid (X2.out.trans x3); have J1_3 := Lib.hid (H1.out.ext X3.out); have J2_3 := Lib.hid (H2.out.ext X3.out); have J3_3 := Lib.hid (H3.out.ext X3.out); have m4 : True := trivial)
    | (have z := m4; clear z m4; go_at_call 14; refine (rowCmp_lit A1 A3 c1 c3 n1 n3 l o _ HV4 E1 E3 J1_3 J3_3).mono ?_; rintro e w4 ⟨rfl, x4⟩; have X4 := Lib.hid (X3.out.trans x4); have J1_4 := Lib.hid (H1.out.ext X4.out); have J2_4 := Lib.hid (H2.out.ext X4.out); have J3_4 := Lib.hid (H3.out.ext X4.out); have m5 : True := trivial)
    | (have z := m5; clear z m5; go_at_call 23; refine (encode_lit A1 c1 n1 l _ HK E1 J1_4 T1 (G.ext X4.out)).mono ?_; rintro e w5 ⟨x5, xA, xn, xc, rfl, ob5⟩; have xO := Lib.hid ob5; have X5 := Lib.hid (X4.out.trans x5); have J1_5 := Lib.hid (H1.out.ext X5.out); have J2_5 := Lib.hid (H2.out.ext X5.out); clear ob5; have m6 : True := trivial)
    | (have z := m6; clear z m6; go_at_call 23; refine (encode_ok A2 c2 n2 m _ HQ E2 J2_5 T2 (G.ext X5.out)).mono ?_; rintro e w6 ⟨x6, yA, yn, yc, rfl, ob6⟩; have yO := Lib.hid ob6; have X6 := Lib.hid (X5.out.trans x6); have J1_6 := Lib.hid (H1.out.ext X6.out); have J2_6 := Lib.hid (H2.out.ext X6.out); clear ob6; have m7 : True := trivial)
    | (have z := m7; clear z m7; go_at_call 13; refine (known_true _ (G.ext X6.out)).mono ?_; rintro e w7 ⟨rfl, x7⟩; have X7 := Lib.hid (X6.out.trans x7); have m8 : True := trivial)
    | fail)
  go_ret
  exact ⟨rfl, X7.out⟩
include G E1 E2 E3 H1 H2 H3 T1 T2 in
set_option maxRecDepth 100000 in
set_option maxHeartbeats 2000000 in
theorem order_z_z_z_11 (s0 s : Int) (hs0 : IntKind.i64.wrap ((n1 : Int) + (n2 : Int)) = s0) (hs : IntKind.i64.wrap (s0 + (n3 : Int)) = s) (hlt : ¬ 4000 < s) (k : Int) (hk : (k != 0) = true) (q : Int) (hq : (q != 0) = true) (HV1 : Hid (cmpR l m = 0)) (HV2 : Hid (cmpR m l = 0)) (HV3 : Hid (cmpR m o = 0)) (HV4 : Hid (cmpR l o = 0)) (HK : Hid (checkR l = k)) (HQ : Hid (checkR m = q)) :
    Calls Tryd.prog 6 #[.slice A1 n1 c1, .slice A2 n2 c2, .slice A3 n3 c3] w fun e w' => e = .returned (.bool true) ∧ Ext w w' := by
  have m1 : True := trivial
  go_enter Tryd.func6, Tryd.ntmps6
  go_wp2_with (first
    | (have z := m1; clear z m1; go_at_call 14; refine (rowCmp_lit A1 A2 c1 c2 n1 n2 l m _ HV1 E1 E2 H1 H2).mono ?_; rintro e w1 ⟨rfl, x1⟩; have X1 := Lib.hid (x1); have J1_1 := Lib.hid (H1.out.ext X1.out); have J2_1 := Lib.hid (H2.out.ext X1.out); have J3_1 := Lib.hid (H3.out.ext X1.out); have m2 : True := trivial)
    | (have z := m2; clear z m2; go_at_call 14; refine (rowCmp_lit A2 A1 c2 c1 n2 n1 m l _ HV2 E2 E1 J2_1 J1_1).mono ?_; rintro e w2 ⟨rfl, x2⟩; have X2 := Lib.hid (X1.out.trans x2); have J1_2 := Lib.hid (H1.out.ext X2.out); have J2_2 := Lib.hid (H2.out.ext X2.out); have J3_2 := Lib.hid (H3.out.ext X2.out); have m3 : True := trivial)
    | (have z := m3; clear z m3; go_at_call 14; refine (rowCmp_lit A2 A3 c2 c3 n2 n3 m o _ HV3 E2 E3 J2_2 J3_2).mono ?_; rintro e w3 ⟨rfl, x3⟩; have X3 := Lib.hid (X2.out.trans x3); have J1_3 := Lib.hid (H1.out.ext X3.out); have J2_3 := Lib.hid (H2.out.ext X3.out); have J3_3 := Lib.hid (H3.out.ext X3.out); have m4 : True := trivial)
    | (have z := m4; clear z m4; go_at_call 14; refine (rowCmp_lit A1 A3 c1 c3 n1 n3 l o _ HV4 E1 E3 J1_3 J3_3).mono ?_; rintro e w4 ⟨rfl, x4⟩; have X4 := Lib.hid (X3.out.trans x4); have J1_4 := Lib.hid (H1.out.ext X4.out); have J2_4 := Lib.hid (H2.out.ext X4.out); have J3_4 := Lib.hid (H3.out.ext X4.out); have m5 : True := trivial)
    | (have z := m5; clear z m5; go_at_call 23; refine (encode_lit A1 c1 n1 l _ HK E1 J1_4 T1 (G.ext X4.out)).mono ?_; rintro e w5 ⟨x5, xA, xn, xc, rfl, ob5⟩; have xO := Lib.hid ob5; have X5 := Lib.hid (X4.out.trans x5); have J1_5 := Lib.hid (H1.out.ext X5.out); have J2_5 := Lib.hid (H2.out.ext X5.out); clear ob5; have m6 : True := trivial)
    | (have z := m6; clear z m6; go_at_call 23; refine (encode_lit A2 c2 n2 m _ HQ E2 J2_5 T2 (G.ext X5.out)).mono ?_; rintro e w6 ⟨x6, yA, yn, yc, rfl, ob6⟩; have yO := Lib.hid ob6; have X6 := Lib.hid (X5.out.trans x6); have J1_6 := Lib.hid (H1.out.ext X6.out); have J2_6 := Lib.hid (H2.out.ext X6.out); clear ob6; have m7 : True := trivial)
    | (have z := m7; clear z m7; go_at_call 13; refine (known_true _ (G.ext X6.out)).mono ?_; rintro e w7 ⟨rfl, x7⟩; have X7 := Lib.hid (X6.out.trans x7); have m8 : True := trivial)
    | fail)
  go_ret
  exact ⟨rfl, X7.out⟩
include G E1 E2 E3 H1 H2 H3 T1 T2 in
set_option maxRecDepth 100000 in
set_option maxHeartbeats 2000000 in
theorem order_z_p_x_00 (s0 s : Int) (hs0 : IntKind.i64.wrap ((n1 : Int) + (n2 : Int)) = s0) (hs : IntKind.i64.wrap (s0 + (n3 : Int)) = s) (hlt : ¬ 4000 < s) (HV1 : Hid (cmpR l m = 0)) (HV2 : Hid (cmpR m l = 0)) (HV3 : Hid (cmpR m o = 1)) (HK : Hid (checkR l = 0)) (HQ : Hid (checkR m = 0)) :
    Calls Tryd.prog 6 #[.slice A1 n1 c1, .slice A2 n2 c2, .slice A3 n3 c3] w fun e w' => e = .returned (.bool true) ∧ Ext w w' := by
  have m1 : True := trivial
  go_enter Tryd.func6, Tryd.ntmps6
  go_wp2_with (first
    | (have z := m1; clear z m1; go_at_call 14; refine (rowCmp_lit A1 A2 c1 c2 n1 n2 l m _ HV1 E1 E2 H1 H2).mono ?_; rintro e w1 ⟨rfl, x1⟩; have X1 := Lib.hid (x1); have J1_1 := Lib.hid (H1.out.ext X1.out); have J2_1 := Lib.hid (H2.out.ext X1.out); have J3_1 := Lib.hid (H3.out.ext X1.out); have m2 : True := trivial)
    | (have z := m2; clear z m2; go_at_call 14; refine (rowCmp_lit A2 A1 c2 c1 n2 n1 m l _ HV2 E2 E1 J2_1 J1_1).mono ?_; rintro e w2 ⟨rfl, x2⟩; have X2 := Lib.hid (X1.out.trans x2); have J1_2 := Lib.hid (H1.out.ext X2.out); have J2_2 := Lib.hid (H2.out.ext X2.out); have J3_2 := Lib.hid (H3.out.ext X2.out); have m3 : True := trivial)
    | (have z := m3; clear z m3; go_at_call 14; refine (rowCmp_lit A2 A3 c2 c3 n2 n3 m o _ HV3 E2 E3 J2_2 J3_2).mono ?_; rintro e w3 ⟨rfl, x3⟩; have X3 := Lib.hid (X2.out.trans x3); have J1_3 := Lib.hid (H1.out.ext X3.out); have J2_3 := Lib.hid (H2.out.ext X3.out); have J3_3 := Lib.hid (H3.out.ext X3.out); have m4 : True := trivial)
    | (have z := m4; clear z m4; go_at_call 23; refine (encode_ok A1 c1 n1 l _ HK E1 J1_3 T1 (G.ext X3.out)).mono ?_; rintro e w4 ⟨x4, xA, xn, xc, rfl, ob4⟩; have xO := Lib.hid ob4; have X4 := Lib.hid (X3.out.trans x4); have J1_4 := Lib.hid (H1.out.ext X4.out); have J2_4 := Lib.hid (H2.out.ext X4.out); clear ob4; have m5 : True := trivial)
    | (have z := m5; clear z m5; go_at_call 23; refine (encode_ok A2 c2 n2 m _ HQ E2 J2_4 T2 (G.ext X4.out)).mono ?_; rintro e w5 ⟨x5, yA, yn, yc, rfl, ob5⟩; have yO := Lib.hid ob5; have X5 := Lib.hid (X4.out.trans x5); have J1_5 := Lib.hid (H1.out.ext X5.out); have J2_5 := Lib.hid (H2.out.ext X5.out); clear ob5; have m6 : True := trivial)
    | (have z := m6; clear z m6; go_at_call 13; refine (known_true _ (G.ext X5.out)).mono ?_; rintro e w6 ⟨rfl, x6⟩; have X6 := Lib.hid (X5.out.trans x6); have m7 : True := trivial)
    | (go_at_call 24; refine (lawBytes_any (0) xA yA xc yc xn yn (keyT l) (keyT m) _ (Lib.hid (key_cmp T1.out T2.out HK.out HQ.out HV1.out)) (Lib.hid (by have := xO.out; exact this.len)) (Lib.hid (by have := yO.out; exact this.len)) (Lib.hid (by have := xO.out; exact (this.bs.ext x5).ext x6)) (Lib.hid (by have := yO.out; exact this.bs.ext x6))).mono ?_; rintro e w7 ⟨rfl, x7⟩; have X7 := Lib.hid (X6.out.trans x7))
    | fail)
  go_ret
  exact ⟨rfl, X7.out⟩
include G E1 E2 E3 H1 H2 H3 T1 T2 in
set_option maxRecDepth 100000 in
set_option maxHeartbeats 2000000 in
theorem order_z_p_x_01 (s0 s : Int) (hs0 : IntKind.i64.wrap ((n1 : Int) + (n2 : Int)) = s0) (hs : IntKind.i64.wrap (s0 + (n3 : Int)) = s) (hlt : ¬ 4000 < s) (q : Int) (hq : (q != 0) = true) (HV1 : Hid (cmpR l m = 0)) (HV2 : Hid (cmpR m l = 0)) (HV3 : Hid (cmpR m o = 1)) (HK : Hid (checkR l = 0)) (HQ : Hid (checkR m = q)) :
    Calls Tryd.prog 6 #[.slice A1 n1 c1, .slice A2 n2 c2, .slice A3 n3 c3] w fun e w' => e = .returned (.bool true) ∧ Ext w w' := by
  have m1 : True := trivial
  go_enter Tryd.func6, Tryd.ntmps6
  go_wp2_with (first
    | (have z := m1; clear z m1; go_at_call 14; refine (rowCmp_lit A1 A2 c1 c2 n1 n2 l m _ HV1 E1 E2 H1 H2).mono ?_; rintro e w1 ⟨rfl, x1⟩; have X1 := Lib.hid (x1); have J1_1 := Lib.hid (H1.out.ext X1.out); have J2_1 := Lib.hid (H2.out.ext X1.out); have J3_1 := Lib.hid (H3.out.ext X1.out); have m2 : True := trivial)
    | (have z := m2; clear z m2; go_at_call 14; refine (rowCmp_lit A2 A1 c2 c1 n2 n1 m l _ HV2 E2 E1 J2_1 J1_1).mono ?_; rintro e w2 ⟨rfl, x2⟩; have X2 := Lib.hid (X1.out.trans x2); have J1_2 := Lib.hid (H1.out.ext X2.out); have J2_2 := Lib.hid (H2.out.ext X2.out); have J3_2 := Lib.hid (H3.out.ext X2.out); have m3 : True := trivial)
    | (have z := m3; clear z m3; go_at_call 14; refine (rowCmp_lit A2 A3 c2 c3 n2 n3 m o _ HV3 E2 E3 J2_2 J3_2).mono ?_; rintro e w3 ⟨rfl, x3⟩; have X3 := Lib.hid (X2.out.trans x3); have J1_3 := Lib.hid (H1.out.ext X3.out); have J2_3 := Lib.hid (H2.out.ext X3.out); have J3_3 := Lib.hid (H3.out.ext X3.out); have m4 : True := trivial)
    | (have z := m4; clear z m4; go_at_call 23; refine (encode_ok A1 c1 n1 l _ HK E1 J1_3 T1 (G.ext X3.out)).mono ?_; rintro e w4 ⟨x4, xA, xn, xc, rfl, ob4⟩; have xO := Lib.hid ob4; have X4 := Lib.hid (X3.out.trans x4); have J1_4 := Lib.hid (H1.out.ext X4.out); have J2_4 := Lib.hid (H2.out.ext X4.out); clear ob4; have m5 : True := trivial)
    | (have z := m5; clear z m5; go_at_call 23; refine (encode_lit A2 c2 n2 m _ HQ E2 J2_4 T2 (G.ext X4.out)).mono ?_; rintro e w5 ⟨x5, yA, yn, yc, rfl, ob5⟩; have yO := Lib.hid ob5; have X5 := Lib.hid (X4.out.trans x5); have J1_5 := Lib.hid (H1.out.ext X5.out); have J2_5 := Lib.hid (H2.out.ext X5.out); clear ob5; have m6 : True := trivial)
    | (have z := m6; clear z m6; go_at_call 13; refine (known_true _ (G.ext X5.out)).mono ?_; rintro e w6 ⟨rfl, x6⟩; have X6 := Lib.hid (X5.out.trans x6); have m7 : True := trivial)
    | fail)
  go_ret
  exact ⟨rfl, X6.out⟩
include G E1 E2 E3 H1 H2 H3 T1 T2 in
set_option maxRecDepth 100000 in
set_option maxHeartbeats 2000000 in
theorem order_z_p_x_10 (s0 s : Int) (hs0 : IntKind.i64.wrap ((n1 : Int) + (n2 : Int)) = s0) (hs : IntKind.i64.wrap (s0 + (n3 : Int)) = s) (hlt : ¬ 4000 < s) (k : Int) (hk : (k != 0) = true) (HV1 : Hid (cmpR l m = 0)) (HV2 : Hid (cmpR m l = 0)) (HV3 : Hid (cmpR m o = 1)) (HK : Hid (checkR l = k)) (HQ : Hid (checkR m = 0)) :
    Calls Tryd.prog 6 #[.slice A1 n1 c1, .slice A2 n2 c2, .slice A3 n3 c3] w fun e w' => e = .returned (.bool true) ∧ Ext w w' := by
  have m1 : True := trivial
  go_enter Tryd.func6, Tryd.ntmps6
  go_wp2_with (first
    | (have z := m1; clear z m1; go_at_call 14; refine (rowCmp_lit A1 A2 c1 c2 n1 n2 l m _ HV1 E1 E2 H1 H2).mono ?_; rintro e w1 ⟨rfl, x1⟩; have X1 := Lib.hid (x1); have J1_1 := Lib.hid (H1.out.ext X1.out); have J2_1 := Lib.hid (H2.out.ext X1.out); have J3_1 := Lib.hid (H3.out.ext X1.out); have m2 : True := trivial)
    | (have z := m2; clear z m2; go_at_call 14; refine (rowCmp_lit A2 A1 c2 c1 n2 n1 m l _ HV2 E2 E1 J2_1 J1_1).mono ?_; rintro e w2 ⟨rfl, x2⟩; have X2 := Lib.hid (X1.out.trans x2); have J1_2 := Lib.hid (H1.out.ext X2.out); have J2_2 := Lib.hid (H2.out.ext X2.out); have J3_2 := Lib.hid (H3.out.ext X2.out); have m3 : True := trivial)
    | (have z := m3; clear z m3; go_at_call 14; refine (rowCmp_lit A2 A3 c2 c3 n2 n3 m o _ HV3 E2 E3 J2_2 J3_2).mono ?_; rintro e w3 ⟨rfl, x3⟩; have X3 := Lib.hid (X2.out.trans x3); have J1_3 := Lib.hid (H1.out.ext X3.out); have J2_3 := Lib.hid (H2.out.ext X3.out); have J3_3 := Lib.hid (H3.out.ext X3.out); have m4 : True := trivial)
    | (have z := m4; clear z m4; go_at_call 23; refine (encode_lit A1 c1 n1 l _ HK E1 J1_3 T1 (G.ext X3.out)).mono ?_; rintro e w4 ⟨x4, xA, xn, xc, rfl, ob4⟩; have xO := Lib.hid ob4; have X4 := Lib.hid (X3.out.trans x4); have J1_4 := Lib.hid (H1.out.ext X4.out); have J2_4 := Lib.hid (H2.out.ext X4.out); clear ob4; have m5 : True := trivial)
    | (have z := m5; clear z m5; go_at_call 23; refine (encode_ok A2 c2 n2 m _ HQ E2 J2_4 T2 (G.ext X4.out)).mono ?_; rintro e w5 ⟨x5, yA, yn, yc, rfl, ob5⟩; have yO := Lib.hid ob5; have X5 := Lib.hid (X4.out.trans x5); have J1_5 := Lib.hid (H1.out.ext X5.out); have J2_5 := Lib.hid (H2.out.ext X5.out); clear ob5; have m6 : True := trivial)
    | (have z := m6; clear z m6; go_at_call 13; refine (known_true _ (G.ext X5.out)).mono ?_; rintro e w6 ⟨rfl, x6⟩; have X6 := Lib.hid (X5.out.trans x6); have m7 : True := trivial)
    | fail)
  go_ret
  exact ⟨rfl, X6.out⟩
include G E1 E2 E3 H1 H2 H3 T1 T2 in
set_option maxRecDepth 100000 in
set_option maxHeartbeats 2000000 in
theorem order_z_p_x_11 (s0 s : Int) (hs0 : IntKind.i64.wrap ((n1 : Int) + (n2 : Int)) = s0) (hs : IntKind.i64.wrap (s0 + (n3 : Int)) = s) (hlt : ¬ 4000 < s) (k : Int) (hk : (k != 0) = true) (q : Int) (hq : (q != 0) = true) (HV1 : Hid (cmpR l m = 0)) (HV2 : Hid (cmpR m l = 0)) (HV3 : Hid (cmpR m o = 1)) (HK : Hid (checkR l = k)) (HQ : Hid (checkR m = q)) :
    Calls Tryd.prog 6 #[.slice A1 n1 c1, .slice A2 n2 c2, .slice A3 n3 c3] w fun e w' => e = .returned (.bool true) ∧ Ext w w' := by
  have m1 : True := trivial
  go_enter Tryd.func6, Tryd.ntmps6
  go_wp2_with (first
    | (have z := m1; clear z m1; go_at_call 14; refine (rowCmp_lit A1 A2 c1 c2 n1 n2 l m _ HV1 E1 E2 H1 H2).mono ?_; rintro e w1 ⟨rfl, x1⟩; have X1 := Lib.hid (x1); have J1_1 := Lib.hid (H1.out.ext X1.out); have J2_1 := Lib.hid (H2.out.ext X1.out); have J3_1 := Lib.hid (H3.out.ext X1.out); have m2 : True := trivial)
    | (have z := m2; clear z m2; go_at_call 14; refine (rowCmp_lit A2 A1 c2 c1 n2 n1 m l _ HV2 E2 E1 J2_1 J1_1).mono ?_; rintro e w2 ⟨rfl, x2⟩; have X2 := Lib.hid (X1.out.trans x2); have J1_2 := Lib.hid (H1.out.ext X2.out); have J2_2 := Lib.hid (H2.out.ext X2.out); have J3_2 := Lib.hid (H3.out.ext X2.out); have m3 : True := trivial)
    | (have z := m3; clear z m3; go_at_call 14; refine (rowCmp_lit A2 A3 c2 c3 n2 n3 m o _ HV3 E2 E3 J2_2 J3_2).mono ?_; rintro e w3 ⟨rfl, x3⟩; have X3 := Lib.hid (X2.out.trans x3); have J1_3 := Lib.hid (H1.out.ext X3.out); have J2_3 := Lib.hid (H2.out.ext X3.out); have J3_3 := Lib.hid (H3.out.ext X3.out); have m4 : True := trivial)
    | (have z := m4; clear z m4; go_at_call 23; refine (encode_lit A1 c1 n1 l _ HK E1 J1_3 T1 (G.ext X3.out)).mono ?_; rintro e w4 ⟨x4, xA, xn, xc, rfl, ob4⟩; have xO := Lib.hid ob4; have X4 := Lib.hid (X3.out.trans x4); have J1_4 := Lib.hid (H1.out.ext X4.out); have J2_4 := Lib.hid (H2.out.ext X4.out); clear ob4; have m5 : True := trivial)
    | (have z := m5; clear z m5; go_at_call 23; refine (encode_lit A2 c2 n2 m _ HQ E2 J2_4 T2 (G.ext X4.out)).mono ?_; rintro e w5 ⟨x5, yA, yn, yc, rfl, ob5⟩; have yO := Lib.hid ob5; have X5 := Lib.hid (X4.out.trans x5); have J1_5 := Lib.hid (H1.out.ext X5.out); have J2_5 := Lib.hid (H2.out.ext X5.out); clear ob5; have m6 : True := trivial)
    | (have z := m6; clear z m6; go_at_call 13; refine (known_true _ (G.ext X5.out)).mono ?_; rintro e w6 ⟨rfl, x6⟩; have X6 := Lib.hid (X5.out.trans x6); have m7 : True := trivial)
    | fail)
  go_ret
  exact ⟨rfl, X6.out⟩
include G E1 E2 H1 H2 H3 T1 T2 in
set_option maxRecDepth 100000 in
set_option maxHeartbeats 2000000 in
theorem order_p_x_x_00 (s0 s : Int) (hs0 : IntKind.i64.wrap ((n1 : Int) + (n2 : Int)) = s0) (hs : IntKind.i64.wrap (s0 + (n3 : Int)) = s) (hlt : ¬ 4000 < s) (HV1 : Hid (cmpR l m = 1)) (HV2 : Hid (cmpR m l = -1)) (HK : Hid (checkR l = 0)) (HQ : Hid (checkR m = 0)) :
    Calls Tryd.prog 6 #[.slice A1 n1 c1, .slice A2 n2 c2, .slice A3 n3 c3] w fun e w' => e = .returned (.bool true) ∧ Ext w w' := by
  have m1 : True := trivial
  go_enter Tryd.func6, Tryd.ntmps6
  go_wp2_with (first
    | (have z := m1; clear z m1; go_at_call 14; refine (rowCmp_lit A1 A2 c1 c2 n1 n2 l m _ HV1 E1 E2 H1 H2).mono ?_; rintro e w1 ⟨rfl, x1⟩; have X1 := Lib.hid (x1); have J1_1 := Lib.hid (H1.out.ext X1.out); have J2_1 := Lib.hid (H2.out.ext X1.out); have J3_1 := Lib.hid (H3.out.ext X1.out); have m2 : True := trivial)
    | (have z := m2; clear z m2; go_at_call 14; refine (rowCmp_lit A2 A1 c2 c1 n2 n1 m l _ HV2 E2 E1 J2_1 J1_1).mono ?_; rintro e w2 ⟨rfl, x2⟩; have X2 := Lib.hid (X1.out.trans x2); have J1_2 := Lib.hid (H1.out.ext X2.out); have J2_2 := Lib.hid (H2.out.ext X2.out); have J3_2 := Lib.hid (H3.out.ext X2.out); have m3 : True := trivial)
    | (have z := m3; clear z m3; go_at_call 23; refine (encode_ok A1 c1 n1 l _ HK E1 J1_2 T1 (G.ext X2.out)).mono ?_; rintro e w3 ⟨x3, xA, xn, xc, rfl, ob3⟩; have xO := Lib.hid ob3; have X3 := Lib.hid (X2.out.trans x3); have J1_3 := Lib.hid (H1.out.ext X3.out); have J2_3 := Lib.hid (H2.out.ext X3.out); clear ob3; have m4 : True := trivial)
    | (have z := m4; clear z m4; go_at_call 23; refine (encode_ok A2 c2 n2 m _ HQ E2 J2_3 T2 (G.ext X3.out)).mono ?_; rintro e w4 ⟨x4, yA, yn, yc, rfl, ob4⟩; have yO := Lib.hid ob4; have X4 := Lib.hid (X3.out.trans x4); have J1_4 := Lib.hid (H1.out.ext X4.out); have J2_4 := Lib.hid (H2.out.ext X4.out); clear ob4; have m5 : True := trivial)
    | (have z := m5; clear z m5; go_at_call 13; refine (known_true _ (G.ext X4.out)).mono ?_; rintro e w5 ⟨rfl, x5⟩; have X5 := Lib.hid (X4.out.trans x5); have m6 : True := trivial)
    | (go_at_call 24; refine (lawBytes_any (1) xA yA xc yc xn yn (keyT l) (keyT m) _ (Lib.hid (key_cmp T1.out T2.out HK.out HQ.out HV1.out)) (Lib.hid (by have := xO.out; exact this.len)) (Lib.hid (by have := yO.out; exact this.len)) (Lib.hid (by have := xO.out; exact (this.bs.ext x4).ext x5)) (Lib.hid (by have := yO.out; exact this.bs.ext x5))).mono ?_; rintro e w6 ⟨rfl, x6⟩; have X6 := Lib.hid (X5.out.trans x6))
    | fail)
  go_ret
  exact ⟨rfl, X6.out⟩
include G E1 E2 H1 H2 H3 T1 T2 in
set_option maxRecDepth 100000 in
set_option maxHeartbeats 2000000 in
theorem order_p_x_x_01 (s0 s : Int) (hs0 : IntKind.i64.wrap ((n1 : Int) + (n2 : Int)) = s0) (hs : IntKind.i64.wrap (s0 + (n3 : Int)) = s) (hlt : ¬ 4000 < s) (q : Int) (hq : (q != 0) = true) (HV1 : Hid (cmpR l m = 1)) (HV2 : Hid (cmpR m l = -1)) (HK : Hid (checkR l = 0)) (HQ : Hid (checkR m = q)) :
    Calls Tryd.prog 6 #[.slice A1 n1 c1, .slice A2 n2 c2, .slice A3 n3 c3] w fun e w' => e = .returned (.bool true) ∧ Ext w w' := by
  have m1 : True := trivial
  go_enter Tryd.func6, Tryd.ntmps6
  go_wp2_with (first
    | (have z := m1; clear z m1; go_at_call 14; refine (rowCmp_lit A1 A2 c1 c2 n1 n2 l m _ HV1 E1 E2 H1 H2).mono ?_; rintro e w1 ⟨rfl, x1⟩; have X1 := Lib.hid (x1); have J1_1 := Lib.hid (H1.out.ext X1.out); have J2_1 := Lib.hid (H2.out.ext X1.out); have J3_1 := Lib.hid (H3.out.ext X1.out); have m2 : True := trivial)
    | (have z := m2; clear z m2; go_at_call 14; refine (rowCmp_lit A2 A1 c2 c1 n2 n1 m l _ HV2 E2 E1 J2_1 J1_1).mono ?_; rintro e w2 ⟨rfl, x2⟩; have X2 := Lib.hid (X1.out.trans x2); have J1_2 := Lib.hid (H1.out.ext X2.out); have J2_2 := Lib.hid (H2.out.ext X2.out); have J3_2 := Lib.hid (H3.out.ext X2.out); have m3 : True := trivial)
    | (have z := m3; clear z m3; go_at_call 23; refine (encode_ok A1 c1 n1 l _ HK E1 J1_2 T1 (G.ext X2.out)).mono ?_; rintro e w3 ⟨x3, xA, xn, xc, rfl, ob3⟩; have xO := Lib.hid ob3; have X3 := Lib.hid (X2.out.trans x3); have J1_3 := Lib.hid (H1.out.ext X3.out); have J2_3 := Lib.hid (H2.out.ext X3.out); clear ob3; have m4 : True := trivial)
    | (have z := m4; clear z m4; go_at_call 23; refine (encode_lit A2 c2 n2 m _ HQ E2 J2_3 T2 (G.ext X3.out)).mono ?_; rintro e w4 ⟨x4, yA, yn, yc, rfl, ob4⟩; have yO := Lib.hid ob4; have X4 := Lib.hid (X3.out.trans x4); have J1_4 := Lib.hid (H1.out.ext X4.out); have J2_4 := Lib.hid (H2.out.ext X4.out); clear ob4; have m5 : True := trivial)
    | (have z := m5; clear z m5; go_at_call 13; refine (known_true _ (G.ext X4.out)).mono ?_; rintro e w5 ⟨rfl, x5⟩; have X5 := Lib.hid (X4.out.trans x5); have m6 : True := trivial)
    | fail)
  go_ret
  exact ⟨rfl, X5.out⟩
include G E1 E2 H1 H2 H3 T1 T2 in
set_option maxRecDepth 100000 in
set_option maxHeartbeats 2000000 in
theorem order_p_x_x_10 (s0 s : Int) (hs0 : IntKind.i64.wrap ((n1 : Int) + (n2 : Int)) = s0) (hs : IntKind.i64.wrap (s0 + (n3 : Int)) = s) (hlt : ¬ 4000 < s) (k : Int) (hk : (k != 0) = true) (HV1 : Hid (cmpR l m = 1)) (HV2 : Hid (cmpR m l = -1)) (HK : Hid (checkR l = k)) (HQ : Hid (checkR m = 0)) :
    Calls Tryd.prog 6 #[.slice A1 n1 c1, .slice A2 n2 c2, .slice A3 n3 c3] w fun e w' => e = .returned (.bool true) ∧ Ext w w' := by
  have m1 : True := trivial
  go_enter Tryd.func6, Tryd.ntmps6
  go_wp2_with (first
    | (have z := m1; clear z m1; go_at_call 14; refine (rowCmp_lit A1 A2 c1 c2 n1 n2 l m _ HV1 E1 E2 H1 H2).mono ?_; rintro e w1 ⟨rfl, x1⟩; have X1 := Lib.hid (x1); have J1_1 := Lib.hid (H1.out.ext X1.out); have J2_1 := Lib.hid (H2.out.ext X1.out); have J3_1 := Lib.hid (H3.out.ext X1.out); have m2 : True := trivial)
    | (have z := m2; clear z m2; go_at_call 14; refine (rowCmp_lit A2 A1 c2 c1 n2 n1 m l _ HV2 E2 E1 J2_1 J1_1).mono ?_; rintro e w2 ⟨rfl, x2⟩; have X2 := Lib.hid (X1.out.trans x2); have J1_2 := Lib.hid (H1.out.ext X2.out); have J2_2 := Lib.hid (H2.out.ext X2.out); have J3_2 := Lib.hid (H3.out.ext X2.out); have m3 : True := trivial)
    | (have z := m3; clear z m3; go_at_call 23; refine (encode_lit A1 c1 n1 l _ HK E1 J1_2 T1 (G.ext X2.out)).mono ?_; rintro e w3 ⟨x3, xA, xn, xc, rfl, ob3⟩; have xO := Lib.hid ob3; have X3 := Lib.hid (X2.out.trans x3); have J1_3 := Lib.hid (H1.out.ext X3.out); have J2_3 := Lib.hid (H2.out.ext X3.out); clear ob3; have m4 : True := trivial)
    | (have z := m4; clear z m4; go_at_call 23; refine (encode_ok A2 c2 n2 m _ HQ E2 J2_3 T2 (G.ext X3.out)).mono ?_; rintro e w4 ⟨x4, yA, yn, yc, rfl, ob4⟩; have yO := Lib.hid ob4; have X4 := Lib.hid (X3.out.trans x4); have J1_4 := Lib.hid (H1.out.ext X4.out); have J2_4 := Lib.hid (H2.out.ext X4.out); clear ob4; have m5 : True := trivial)
    | (have z := m5; clear z m5; go_at_call 13; refine (known_true _ (G.ext X4.out)).mono ?_; rintro e w5 ⟨rfl, x5⟩; have X5 := Lib.hid (X4.out.trans x5); have m6 : True := trivial)
    | fail)
  go_ret
  exact ⟨rfl, X5.out⟩
include G E1 E2 H1 H2 H3 T1 T2 in
set_option maxRecDepth 100000 in
set_option maxHeartbeats 2000000 in
theorem order_p_x_x_11 (s0 s : Int) (hs0 : IntKind.i64.wrap ((n1 : Int) + (n2 : Int)) = s0) (hs : IntKind.i64.wrap (s0 + (n3 : Int)) = s) (hlt : ¬ 4000 < s) (k : Int) (hk : (k != 0) = true) (q : Int) (hq : (q != 0) = true) (HV1 : Hid (cmpR l m = 1)) (HV2 : Hid (cmpR m l = -1)) (HK : Hid (checkR l = k)) (HQ : Hid (checkR m = q)) :
    Calls Tryd.prog 6 #[.slice A1 n1 c1, .slice A2 n2 c2, .slice A3 n3 c3] w fun e w' => e = .returned (.bool true) ∧ Ext w w' := by
  have m1 : True := trivial
  go_enter Tryd.func6, Tryd.ntmps6
  go_wp2_with (first
    | (have z := m1; clear z m1; go_at_call 14; refine (rowCmp_lit A1 A2 c1 c2 n1 n2 l m _ HV1 E1 E2 H1 H2).mono ?_; rintro e w1 ⟨rfl, x1⟩; have X1 := Lib.hid (x1); have J1_1 := Lib.hid (H1.out.ext X1.out); have J2_1 := Lib.hid (H2.out.ext X1.out); have J3_1 := Lib.hid (H3.out.ext X1.out); have m2 : True := trivial)
    | (have z := m2; clear z m2; go_at_call 14; refine (rowCmp_lit A2 A1 c2 c1 n2 n1 m l _ HV2 E2 E1 J2_1 J1_1).mono ?_; rintro e w2 ⟨rfl, x2⟩; have X2 := Lib.hid (X1.out.trans x2); have J1_2 := Lib.hid (H1.out.ext X2.out); have J2_2 := Lib.hid (H2.out.ext X2.out); have J3_2 := Lib.hid (H3.out.ext X2.out); have m3 : True := trivial)
    | (have z := m3; clear z m3; go_at_call 23; refine (encode_lit A1 c1 n1 l _ HK E1 J1_2 T1 (G.ext X2.out)).mono ?_; rintro e w3 ⟨x3, xA, xn, xc, rfl, ob3⟩; have xO := Lib.hid ob3; have X3 := Lib.hid (X2.out.trans x3); have J1_3 := Lib.hid (H1.out.ext X3.out); have J2_3 := Lib.hid (H2.out.ext X3.out); clear ob3; have m4 : True := trivial)
    | (have z := m4; clear z m4; go_at_call 23; refine (encode_lit A2 c2 n2 m _ HQ E2 J2_3 T2 (G.ext X3.out)).mono ?_; rintro e w4 ⟨x4, yA, yn, yc, rfl, ob4⟩; have yO := Lib.hid ob4; have X4 := Lib.hid (X3.out.trans x4); have J1_4 := Lib.hid (H1.out.ext X4.out); have J2_4 := Lib.hid (H2.out.ext X4.out); clear ob4; have m5 : True := trivial)
    | (have z := m5; clear z m5; go_at_call 13; refine (known_true _ (G.ext X4.out)).mono ?_; rintro e w5 ⟨rfl, x5⟩; have X5 := Lib.hid (X4.out.trans x5); have m6 : True := trivial)
    | fail)
  go_ret
  exact ⟨rfl, X5.out⟩
end
theorem roworder_any (A1 A2 A3 : Option Addr) (c1 c2 c3 : Nat) (l m o : List Dat) (w : World) (h1 : Rw w A1 c1 l) (h2 : Rw w A2 c2 m) (h3 : Rw w A3 c3 o) (t1 : RwOk l) (t2 : RwOk m) (G : Good w) :
    Calls Tryd.prog 6 #[.slice A1 l.length c1, .slice A2 m.length c2, .slice A3 o.length c3] w fun e w' => e = .returned (.bool true) ∧ Ext w w' := by
  by_cases hlt : 4000 < IntKind.i64.wrap (IntKind.i64.wrap ((l.length : Int) + (m.length : Int)) + (o.length : Int))
  · exact order_long A1 A2 A3 c1 c2 c3 l.length m.length o.length w _ _ rfl rfl hlt
  have H1 := Lib.hid h1
  have H2 := Lib.hid h2
  have H3 := Lib.hid h3
  have T1 := Lib.hid t1
  have T2 := Lib.hid t2
  have tr := cmpR_trans l m o
  have main : ∀ a b c : Int, cmpR l m = a → cmpR m o = b → cmpR l o = c → Calls Tryd.prog 6 #[.slice A1 l.length c1, .slice A2 m.length c2, .slice A3 o.length c3] w fun e w' => e = .returned (.bool true) ∧ Ext w w' := by
    intro a b c ha hb hc
    have va := cmpR_vals l m
    have vb := cmpR_vals m o
    have vc := cmpR_vals l o
    have hba : cmpR m l = -a := by rw [cmpR_neg, ha]
    rw [ha] at va tr
    rw [hb] at vb tr
    rw [hc] at vc tr
    have w3 : ¬ (a ≤ 0 ∧ b ≤ 0 ∧ 0 < c) := fun ⟨q1, q2, q3⟩ => by have := tr q1 q2; omega
    by_cases hk : checkR l = 0
    · by_cases hq : checkR m = 0
      · rcases va with rfl | rfl | rfl
        · rcases vb with rfl | rfl | rfl
          · rcases vc with rfl | rfl | rfl
            · exact order_m_m_m_00 A1 A2 A3 c1 c2 c3 _ _ _ l m o w (Lib.hid rfl) (Lib.hid rfl) (Lib.hid rfl) H1 H2 H3 T1 T2 G _ _ rfl rfl hlt (Lib.hid ha) (Lib.hid hba) (Lib.hid hb) (Lib.hid hc) (Lib.hid hk) (Lib.hid hq)
            · exact order_m_m_z_00 A1 A2 A3 c1 c2 c3 _ _ _ l m o w (Lib.hid rfl) (Lib.hid rfl) (Lib.hid rfl) H1 H2 H3 T1 T2 G _ _ rfl rfl hlt (Lib.hid ha) (Lib.hid hba) (Lib.hid hb) (Lib.hid hc) (Lib.hid hk) (Lib.hid hq)
            · exact absurd ⟨by decide, by decide, by decide⟩ w3
          · rcases vc with rfl | rfl | rfl
            · exact order_m_z_m_00 A1 A2 A3 c1 c2 c3 _ _ _ l m o w (Lib.hid rfl) (Lib.hid rfl) (Lib.hid rfl) H1 H2 H3 T1 T2 G _ _ rfl rfl hlt (Lib.hid ha) (Lib.hid hba) (Lib.hid hb) (Lib.hid hc) (Lib.hid hk) (Lib.hid hq)
            · exact order_m_z_z_00 A1 A2 A3 c1 c2 c3 _ _ _ l m o w (Lib.hid rfl) (Lib.hid rfl) (Lib.hid rfl) H1 H2 H3 T1 T2 G _ _ rfl rfl hlt (Lib.hid ha) (Lib.hid hba) (Lib.hid hb) (Lib.hid hc) (Lib.hid hk) (Lib.hid hq)
            · exact absurd ⟨by decide, by decide, by decide⟩ w3
          · exact order_m_p_x_00 A1 A2 A3 c1 c2 c3 _ _ _ l m o w (Lib.hid rfl) (Lib.hid rfl) (Lib.hid rfl) H1 H2 H3 T1 T2 G _ _ rfl rfl hlt (Lib.hid ha) (Lib.hid hba) (Lib.hid hb) (Lib.hid hk) (Lib.hid hq)
        · rcases vb with rfl | rfl | rfl
          · rcases vc with rfl | rfl | rfl
            · exact order_z_m_m_00 A1 A2 A3 c1 c2 c3 _ _ _ l m o w (Lib.hid rfl) (Lib.hid rfl) (Lib.hid rfl) H1 H2 H3 T1 T2 G _ _ rfl rfl hlt (Lib.hid ha) (Lib.hid hba) (Lib.hid hb) (Lib.hid hc) (Lib.hid hk) (Lib.hid hq)
            · exact order_z_m_z_00 A1 A2 A3 c1 c2 c3 _ _ _ l m o w (Lib.hid rfl) (Lib.hid rfl) (Lib.hid rfl) H1 H2 H3 T1 T2 G _ _ rfl rfl hlt (Lib.hid ha) (Lib.hid hba) (Lib.hid hb) (Lib.hid hc) (Lib.hid hk) (Lib.hid hq)
            · exact absurd ⟨by decide, by decide, by decide⟩ w3
          · rcases vc with rfl | rfl | rfl
            · exact order_z_z_m_00 A1 A2 A3 c1 c2 c3 _ _ _ l m o w (Lib.hid rfl) (Lib.hid rfl) (Lib.hid rfl) H1 H2 H3 T1 T2 G _ _ rfl rfl hlt (Lib.hid ha) (Lib.hid hba) (Lib.hid hb) (Lib.hid hc) (Lib.hid hk) (Lib.hid hq)
            · exact order_z_z_z_00 A1 A2 A3 c1 c2 c3 _ _ _ l m o w (Lib.hid rfl) (Lib.hid rfl) (Lib.hid rfl) H1 H2 H3 T1 T2 G _ _ rfl rfl hlt (Lib.hid ha) (Lib.hid hba) (Lib.hid hb) (Lib.hid hc) (Lib.hid hk) (Lib.hid hq)
            · exact absurd ⟨by decide, by decide, by decide⟩ w3
          · exact order_z_p_x_00 A1 A2 A3 c1 c2 c3 _ _ _ l m o w (Lib.hid rfl) (Lib.hid rfl) (Lib.hid rfl) H1 H2 H3 T1 T2 G _ _ rfl rfl hlt (Lib.hid ha) (Lib.hid hba) (Lib.hid hb) (Lib.hid hk) (Lib.hid hq)
        · exact order_p_x_x_00 A1 A2 A3 c1 c2 c3 _ _ _ l m o w (Lib.hid rfl) (Lib.hid rfl) H1 H2 H3 T1 T2 G _ _ rfl rfl hlt (Lib.hid ha) (Lib.hid hba) (Lib.hid hk) (Lib.hid hq)
      · rcases va with rfl | rfl | rfl
        · rcases vb with rfl | rfl | rfl
          · rcases vc with rfl | rfl | rfl
            · exact order_m_m_m_01 A1 A2 A3 c1 c2 c3 _ _ _ l m o w (Lib.hid rfl) (Lib.hid rfl) (Lib.hid rfl) H1 H2 H3 T1 T2 G _ _ rfl rfl hlt _ (by simpa using hq) (Lib.hid ha) (Lib.hid hba) (Lib.hid hb) (Lib.hid hc) (Lib.hid hk) (Lib.hid rfl)
            · exact order_m_m_z_01 A1 A2 A3 c1 c2 c3 _ _ _ l m o w (Lib.hid rfl) (Lib.hid rfl) (Lib.hid rfl) H1 H2 H3 T1 T2 G _ _ rfl rfl hlt _ (by simpa using hq) (Lib.hid ha) (Lib.hid hba) (Lib.hid hb) (Lib.hid hc) (Lib.hid hk) (Lib.hid rfl)
            · exact absurd ⟨by decide, by decide, by decide⟩ w3
          · rcases vc with rfl | rfl | rfl
            · exact order_m_z_m_01 A1 A2 A3 c1 c2 c3 _ _ _ l m o w (Lib.hid rfl) (Lib.hid rfl) (Lib.hid rfl) H1 H2 H3 T1 T2 G _ _ rfl rfl hlt _ (by simpa using hq) (Lib.hid ha) (Lib.hid hba) (Lib.hid hb) (Lib.hid hc) (Lib.hid hk) (Lib.hid rfl)
            · exact order_m_z_z_01 A1 A2 A3 c1 c2 c3 _ _ _ l m o w (Lib.hid rfl) (Lib.hid rfl) (Lib.hid rfl) H1 H2 H3 T1 T2 G _ _ rfl rfl hlt _ (by simpa using hq) (Lib.hid ha) (Lib.hid hba) (Lib.hid hb) (Lib.hid hc) (Lib.hid hk) (Lib.hid rfl)
            · exact absurd ⟨by decide, by decide, by decide⟩ w3
          · exact order_m_p_x_01 A1 A2 A3 c1 c2 c3 _ _ _ l m o w (Lib.hid rfl) (Lib.hid rfl) (Lib.hid rfl) H1 H2 H3 T1 T2 G _ _ rfl rfl hlt _ (by simpa using hq) (Lib.hid ha) (Lib.hid hba) (Lib.hid hb) (Lib.hid hk) (Lib.hid rfl)
        · rcases vb with rfl | rfl | rfl
          · rcases vc with rfl | rfl | rfl
            · exact order_z_m_m_01 A1 A2 A3 c1 c2 c3 _ _ _ l m o w (Lib.hid rfl) (Lib.hid rfl) (Lib.hid rfl) H1 H2 H3 T1 T2 G _ _ rfl rfl hlt _ (by simpa using hq) (Lib.hid ha) (Lib.hid hba) (Lib.hid hb) (Lib.hid hc) (Lib.hid hk) (Lib.hid rfl)
            · exact order_z_m_z_01 A1 A2 A3 c1 c2 c3 _ _ _ l m o w (Lib.hid rfl) (Lib.hid rfl) (Lib.hid rfl) H1 H2 H3 T1 T2 G _ _ rfl rfl hlt _ (by simpa using hq) (Lib.hid ha) (Lib.hid hba) (Lib.hid hb) (Lib.hid hc) (Lib.hid hk) (Lib.hid rfl)
            · exact absurd ⟨by decide, by decide, by decide⟩ w3
          · rcases vc with rfl | rfl | rfl
            · exact order_z_z_m_01 A1 A2 A3 c1 c2 c3 _ _ _ l m o w (Lib.hid rfl) (Lib.hid rfl) (Lib.hid rfl) H1 H2 H3 T1 T2 G _ _ rfl rfl hlt _ (by simpa using hq) (Lib.hid ha) (Lib.hid hba) (Lib.hid hb) (Lib.hid hc) (Lib.hid hk) (Lib.hid rfl)
            · exact order_z_z_z_01 A1 A2 A3 c1 c2 c3 _ _ _ l m o w (Lib.hid rfl) (Lib.hid rfl) (Lib.hid rfl) H1 H2 H3 T1 T2 G _ _ rfl rfl hlt _ (by simpa using hq) (Lib.hid ha) (Lib.hid hba) (Lib.hid hb) (Lib.hid hc) (Lib.hid hk) (Lib.hid rfl)
            · exact absurd ⟨by decide, by decide, by decide⟩ w3
          · exact order_z_p_x_01 A1 A2 A3 c1 c2 c3 _ _ _ l m o w (Lib.hid rfl) (Lib.hid rfl) (Lib.hid rfl) H1 H2 H3 T1 T2 G _ _ rfl rfl hlt _ (by simpa using hq) (Lib.hid ha) (Lib.hid hba) (Lib.hid hb) (Lib.hid hk) (Lib.hid rfl)
        · exact order_p_x_x_01 A1 A2 A3 c1 c2 c3 _ _ _ l m o w (Lib.hid rfl) (Lib.hid rfl) H1 H2 H3 T1 T2 G _ _ rfl rfl hlt _ (by simpa using hq) (Lib.hid ha) (Lib.hid hba) (Lib.hid hk) (Lib.hid rfl)
    · by_cases hq : checkR m = 0
      · rcases va with rfl | rfl | rfl
        · rcases vb with rfl | rfl | rfl
          · rcases vc with rfl | rfl | rfl
            · exact order_m_m_m_10 A1 A2 A3 c1 c2 c3 _ _ _ l m o w (Lib.hid rfl) (Lib.hid rfl) (Lib.hid rfl) H1 H2 H3 T1 T2 G _ _ rfl rfl hlt _ (by simpa using hk) (Lib.hid ha) (Lib.hid hba) (Lib.hid hb) (Lib.hid hc) (Lib.hid rfl) (Lib.hid hq)
            · exact order_m_m_z_10 A1 A2 A3 c1 c2 c3 _ _ _ l m o w (Lib.hid rfl) (Lib.hid rfl) (Lib.hid rfl) H1 H2 H3 T1 T2 G _ _ rfl rfl hlt _ (by simpa using hk) (Lib.hid ha) (Lib.hid hba) (Lib.hid hb) (Lib.hid hc) (Lib.hid rfl) (Lib.hid hq)
            · exact absurd ⟨by decide, by decide, by decide⟩ w3
          · rcases vc with rfl | rfl | rfl
            · exact order_m_z_m_10 A1 A2 A3 c1 c2 c3 _ _ _ l m o w (Lib.hid rfl) (Lib.hid rfl) (Lib.hid rfl) H1 H2 H3 T1 T2 G _ _ rfl rfl hlt _ (by simpa using hk) (Lib.hid ha) (Lib.hid hba) (Lib.hid hb) (Lib.hid hc) (Lib.hid rfl) (Lib.hid hq)
            · exact order_m_z_z_10 A1 A2 A3 c1 c2 c3 _ _ _ l m o w (Lib.hid rfl) (Lib.hid rfl) (Lib.hid rfl) H1 H2 H3 T1 T2 G _ _ rfl rfl hlt _ (by simpa using hk) (Lib.hid ha) (Lib.hid hba) (Lib.hid hb) (Lib.hid hc) (Lib.hid rfl) (Lib.hid hq)
            · exact absurd ⟨by decide, by decide, by decide⟩ w3
          · exact order_m_p_x_10 A1 A2 A3 c1 c2 c3 _ _ _ l m o w (Lib.hid rfl) (Lib.hid rfl) (Lib.hid rfl) H1 H2 H3 T1 T2 G _ _ rfl rfl hlt _ (by simpa using hk) (Lib.hid ha) (Lib.hid hba) (Lib.hid hb) (Lib.hid rfl) (Lib.hid hq)
        · rcases vb with rfl | rfl | rfl
          · rcases vc with rfl | rfl | rfl
            · exact order_z_m_m_10 A1 A2 A3 c1 c2 c3 _ _ _ l m o w (Lib.hid rfl) (Lib.hid rfl) (Lib.hid rfl) H1 H2 H3 T1 T2 G _ _ rfl rfl hlt _ (by simpa using hk) (Lib.hid ha) (Lib.hid hba) (Lib.hid hb) (Lib.hid hc) (Lib.hid rfl) (Lib.hid hq)
            · exact order_z_m_z_10 A1 A2 A3 c1 c2 c3 _ _ _ l m o w (Lib.hid rfl) (Lib.hid rfl) (Lib.hid rfl) H1 H2 H3 T1 T2 G _ _ rfl rfl hlt _ (by simpa using hk) (Lib.hid ha) (Lib.hid hba) (Lib.hid hb) (Lib.hid hc) (Lib.hid rfl) (Lib.hid hq)
            · exact absurd ⟨by decide, by decide, by decide⟩ w3
          · rcases vc with rfl | rfl | rfl
            · exact order_z_z_m_10 A1 A2 A3 c1 c2 c3 _ _ _ l m o w (Lib.hid rfl) (Lib.hid rfl) (Lib.hid rfl) H1 H2 H3 T1 T2 G _ _ rfl rfl hlt _ (by simpa using hk) (Lib.hid ha) (Lib.hid hba) (Lib.hid hb) (Lib.hid hc) (Lib.hid rfl) (Lib.hid hq)
            · exact order_z_z_z_10 A1 A2 A3 c1 c2 c3 _ _ _ l m o w (Lib.hid rfl) (Lib.hid rfl) (Lib.hid rfl) H1 H2 H3 T1 T2 G _ _ rfl rfl hlt _ (by simpa using hk) (Lib.hid ha) (Lib.hid hba) (Lib.hid hb) (Lib.hid hc) (Lib.hid rfl) (Lib.hid hq)
            · exact absurd ⟨by decide, by decide, by decide⟩ w3
          · exact order_z_p_x_10 A1 A2 A3 c1 c2 c3 _ _ _ l m o w (Lib.hid rfl) (Lib.hid rfl) (Lib.hid rfl) H1 H2 H3 T1 T2 G _ _ rfl rfl hlt _ (by simpa using hk) (Lib.hid ha) (Lib.hid hba) (Lib.hid hb) (Lib.hid rfl) (Lib.hid hq)
        · exact order_p_x_x_10 A1 A2 A3 c1 c2 c3 _ _ _ l m o w (Lib.hid rfl) (Lib.hid rfl) H1 H2 H3 T1 T2 G _ _ rfl rfl hlt _ (by simpa using hk) (Lib.hid ha) (Lib.hid hba) (Lib.hid rfl) (Lib.hid hq)
      · rcases va with rfl | rfl | rfl
        · rcases vb with rfl | rfl | rfl
          · rcases vc with rfl | rfl | rfl
            · exact order_m_m_m_11 A1 A2 A3 c1 c2 c3 _ _ _ l m o w (Lib.hid rfl) (Lib.hid rfl) (Lib.hid rfl) H1 H2 H3 T1 T2 G _ _ rfl rfl hlt _ (by simpa using hk) _ (by simpa using hq) (Lib.hid ha) (Lib.hid hba) (Lib.hid hb) (Lib.hid hc) (Lib.hid rfl) (Lib.hid rfl)
            · exact order_m_m_z_11 A1 A2 A3 c1 c2 c3 _ _ _ l m o w (Lib.hid rfl) (Lib.hid rfl) (Lib.hid rfl) H1 H2 H3 T1 T2 G _ _ rfl rfl hlt _ (by simpa using hk) _ (by simpa using hq) (Lib.hid ha) (Lib.hid hba) (Lib.hid hb) (Lib.hid hc) (Lib.hid rfl) (Lib.hid rfl)
            · exact absurd ⟨by decide, by decide, by decide⟩ w3
          · rcases vc with rfl | rfl | rfl
            · exact order_m_z_m_11 A1 A2 A3 c1 c2 c3 _ _ _ l m o w (Lib.hid rfl) (Lib.hid rfl) (Lib.hid rfl) H1 H2 H3 T1 T2 G _ _ rfl rfl hlt _ (by simpa using hk) _ (by simpa using hq) (Lib.hid ha) (Lib.hid hba) (Lib.hid hb) (Lib.hid hc) (Lib.hid rfl) (Lib.hid rfl)
            · exact order_m_z_z_11 A1 A2 A3 c1 c2 c3 _ _ _ l m o w (Lib.hid rfl) (Lib.hid rfl) (Lib.hid rfl) H1 H2 H3 T1 T2 G _ _ rfl rfl hlt _ (by simpa using hk) _ (by simpa using hq) (Lib.hid ha) (Lib.hid hba) (Lib.hid hb) (Lib.hid hc) (Lib.hid rfl) (Lib.hid rfl)
            · exact absurd ⟨by decide, by decide, by decide⟩ w3
          · exact order_m_p_x_11 A1 A2 A3 c1 c2 c3 _ _ _ l m o w (Lib.hid rfl) (Lib.hid rfl) (Lib.hid rfl) H1 H2 H3 T1 T2 G _ _ rfl rfl hlt _ (by simpa using hk) _ (by simpa using hq) (Lib.hid ha) (Lib.hid hba) (Lib.hid hb) (Lib.hid rfl) (Lib.hid rfl)
        · rcases vb with rfl | rfl | rfl
          · rcases vc with rfl | rfl | rfl
            · exact order_z_m_m_11 A1 A2 A3 c1 c2 c3 _ _ _ l m o w (Lib.hid rfl) (Lib.hid rfl) (Lib.hid rfl) H1 H2 H3 T1 T2 G _ _ rfl rfl hlt _ (by simpa using hk) _ (by simpa using hq) (Lib.hid ha) (Lib.hid hba) (Lib.hid hb) (Lib.hid hc) (Lib.hid rfl) (Lib.hid rfl)
            · exact order_z_m_z_11 A1 A2 A3 c1 c2 c3 _ _ _ l m o w (Lib.hid rfl) (Lib.hid rfl) (Lib.hid rfl) H1 H2 H3 T1 T2 G _ _ rfl rfl hlt _ (by simpa using hk) _ (by simpa using hq) (Lib.hid ha) (Lib.hid hba) (Lib.hid hb) (Lib.hid hc) (Lib.hid rfl) (Lib.hid rfl)
            · exact absurd ⟨by decide, by decide, by decide⟩ w3
          · rcases vc with rfl | rfl | rfl
            · exact order_z_z_m_11 A1 A2 A3 c1 c2 c3 _ _ _ l m o w (Lib.hid rfl) (Lib.hid rfl) (Lib.hid rfl) H1 H2 H3 T1 T2 G _ _ rfl rfl hlt _ (by simpa using hk) _ (by simpa using hq) (Lib.hid ha) (Lib.hid hba) (Lib.hid hb) (Lib.hid hc) (Lib.hid rfl) (Lib.hid rfl)
            · exact order_z_z_z_11 A1 A2 A3 c1 c2 c3 _ _ _ l m o w (Lib.hid rfl) (Lib.hid rfl) (Lib.hid rfl) H1 H2 H3 T1 T2 G _ _ rfl rfl hlt _ (by simpa using hk) _ (by simpa using hq) (Lib.hid ha) (Lib.hid hba) (Lib.hid hb) (Lib.hid hc) (Lib.hid rfl) (Lib.hid rfl)
            · exact absurd ⟨by decide, by decide, by decide⟩ w3
          · exact order_z_p_x_11 A1 A2 A3 c1 c2 c3 _ _ _ l m o w (Lib.hid rfl) (Lib.hid rfl) (Lib.hid rfl) H1 H2 H3 T1 T2 G _ _ rfl rfl hlt _ (by simpa using hk) _ (by simpa using hq) (Lib.hid ha) (Lib.hid hba) (Lib.hid hb) (Lib.hid rfl) (Lib.hid rfl)
        · exact order_p_x_x_11 A1 A2 A3 c1 c2 c3 _ _ _ l m o w (Lib.hid rfl) (Lib.hid rfl) H1 H2 H3 T1 T2 G _ _ rfl rfl hlt _ (by simpa using hk) _ (by simpa using hq) (Lib.hid ha) (Lib.hid hba) (Lib.hid rfl) (Lib.hid rfl)
  exact main _ _ _ rfl rfl rfl
end Go.Proofs.YtngeioghihbkeaaDoor
