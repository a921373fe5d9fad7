/- RowBeginnings: the plain law, the walk. Conditions: the library's tables stand; the rows are as readings give them. -/
import Derived.Test.YtngeioghihbkeaaDoorRowOrdA
import Derived.Test.YtngeioghihbkeaaDoorRowClone
namespace Go.Proofs.YtngeioghihbkeaaDoor
open Go.RowKit

def OkR (l : List Dat) : Prop := ∀ d ∈ l, d.check = 0 ∧ InD d
theorem okR_of {l : List Dat} (h : checkR l = 0) (t : RwOk l) : OkR l := fun d hd => ⟨((checkR_ok l).1 h).2 d hd, t.int d hd⟩
theorem put_same {a b : Dat} (ha : a.check = 0 ∧ InD a) (hb : b.check = 0 ∧ InD b) {s t : List UInt8} (h : putT a ++ s = putT b ++ t) : a = b := by
  by_cases q : cmpD a b = 0
  · exact (cmpD_zero ha.1 hb.1).1 q
  · have e : lexB (putT a ++ s) (putT b ++ t) = 0 := by rw [h]; exact lexB_refl _
    rcases Int.lt_or_gt_of_ne q with q | q
    · rw [(put_lt ha.1 hb.1 ha.2 hb.2 q s t).1] at e
      exact absurd e (by decide)
    · have q' : cmpD b a < 0 := by rw [cmpD_neg]; omega
      rw [(put_lt hb.1 ha.1 hb.2 ha.2 q' t s).2.1] at e
      exact absurd e (by decide)
theorem key_ahead : ∀ l m : List Dat, OkR l → OkR m → (∃ t, keyT m = keyT l ++ t) → ∃ t, m = l ++ t
  | [], m, _, _, _ => ⟨m, rfl⟩
  | a :: l, [], hl, _, ⟨t, h⟩ => by
    have := congrArg List.length h
    unfold keyT at this
    rw [List.flatMap_cons, List.flatMap_nil, List.length_append, List.length_append] at this
    have hp := List.length_pos_iff.2 (put_ne (hl a (List.mem_cons_self ..)).1)
    rw [List.length_nil] at this
    omega
  | a :: l, b :: m, hl, hm, ⟨t, h⟩ => by
    unfold keyT at h
    rw [List.flatMap_cons, List.flatMap_cons, List.append_assoc] at h
    have e := put_same (hl a (List.mem_cons_self ..)) (hm b (List.mem_cons_self ..)) h.symm
    subst e
    obtain ⟨u, hu⟩ := key_ahead l m (fun d hd => hl d (List.mem_cons_of_mem _ hd)) (fun d hd => hm d (List.mem_cons_of_mem _ hd)) ⟨t, List.append_cancel_left h⟩
    exact ⟨u, by rw [hu]; rfl⟩
theorem cmpR_refl (l : List Dat) : cmpR l l = 0 := cmpC_tot.refl ⟨none, 0, l, 0⟩
theorem take_ahead {α : Type} {l m : List α} (h : l.length ≤ m.length) (e : l = m.take l.length) : ∃ t, m = l ++ t := ⟨m.drop l.length, by conv => lhs; rw [← List.take_append_drop l.length m, ← e]⟩
theorem ahead_take {α : Type} {l m : List α} (h : ∃ t, m = l ++ t) : l.length ≤ m.length ∧ m.take l.length = l := by
  obtain ⟨t, rfl⟩ := h
  exact ⟨by rw [List.length_append]; omega, List.take_left⟩
theorem ok_take {m : List Dat} (h : OkR m) (k : Nat) : OkR (m.take k) := fun d hd => h d (List.mem_of_mem_take hd)
/-- both begin so, or neither does -/
theorem ahead_both {l m : List Dat} (hl : OkR l) (hm : OkR m) : (l.length ≤ m.length ∧ cmpR l (m.take l.length) = 0) ↔ ((keyT l).length ≤ (keyT m).length ∧ lexB (keyT l) ((keyT m).take (keyT l).length) = 0) := by
  constructor
  · rintro ⟨h1, h2⟩
    obtain ⟨t, e⟩ := take_ahead h1 (row_zero _ _ hl (ok_take hm _) h2)
    have e2 : ∃ t, keyT m = keyT l ++ t := ⟨keyT t, by rw [e]; exact List.flatMap_append⟩
    obtain ⟨q1, q2⟩ := ahead_take e2
    exact ⟨q1, by rw [q2]; exact lexB_refl _⟩
  · rintro ⟨h1, h2⟩
    obtain ⟨q1, q2⟩ := ahead_take (key_ahead l m hl hm (take_ahead h1 (lexB_zero _ _ h2)))
    exact ⟨q1, by rw [q2]; exact cmpR_refl _⟩
theorem Rw.take {w : World} {A : Option Addr} {c k : Nat} {l : List Dat} (h : Rw w A c l) (hk : k ≤ l.length) : Rw w A c (l.take k) := by
  have := Sl.take h hk
  rw [rowC_take] at this
  unfold Rw
  rw [List.length_take, Nat.min_eq_left hk]
  exact this
theorem Bs.take {w : World} {A : Option Addr} {c k : Nat} {x : List UInt8} (h : Bs w A c x) (hk : k ≤ x.length) : Bs w A c (x.take k) := by
  have := Sl.take h hk
  unfold Bs
  rw [List.length_take, Nat.min_eq_left hk]
  have e : (Lib.byteCells x).take (k * 1) = Lib.byteCells (x.take k) := by
    unfold Lib.byteCells
    rw [Nat.mul_one, List.map_take]
  rw [e] at this
  exact this
theorem known_lit (w : World) (G : Hid (Good w)) : Calls Tryd.prog 13 #[] w fun e w' => e = .returned (.bool true) ∧ Ext w w' := known_true w G.out
section
variable (A1 A2 : Option Addr) (c1 c2 n1 n2 : Nat) (l m : List Dat) (w : World) (E1 : Hid (n1 = l.length)) (E2 : Hid (n2 = m.length)) (H1 : Hid (Rw w A1 c1 l)) (H2 : Hid (Rw w A2 c2 m)) (T1 : Hid (RwOk l)) (T2 : Hid (RwOk m)) (G : Good w)
include E1 H1 T1 G in
set_option maxRecDepth 100000 in
set_option maxHeartbeats 800000 in
theorem beg_a (k : Int) (hk : (k != 0) = true) (HK : Hid (checkR l = k)) : Calls Tryd.prog 7 #[.slice A1 n1 c1, .slice A2 n2 c2] w fun e w' => e = .returned (.bool true) ∧ Ext w w' := by
  go_enter Tryd.func7, Tryd.ntmps7
  go_wp2_with (first
    | (go_at_call 25; refine (rowCheck_lit A1 c1 n1 l _ HK E1 H1 (Lib.hid T1.out.txt) G).mono ?_; rintro e w1 ⟨rfl, x1⟩)
    | (go_at_call 13; refine (known_true _ (G.ext x1)).mono ?_; rintro e w2 ⟨rfl, x2⟩))
  go_ret
  exact ⟨rfl, x1.trans x2⟩
include E1 H1 T1 E2 H2 T2 G in
set_option maxRecDepth 100000 in
set_option maxHeartbeats 800000 in
theorem beg_b (k : Int) (hk : (k != 0) = true) (HK : Hid (checkR l = 0)) (HQ : Hid (checkR m = k)) : Calls Tryd.prog 7 #[.slice A1 n1 c1, .slice A2 n2 c2] w fun e w' => e = .returned (.bool true) ∧ Ext w w' := by
  have m1 : True := trivial
  go_enter Tryd.func7, Tryd.ntmps7
  go_wp2_with (first
    | (have z := m1; clear z m1; go_at_call 25; refine (rowCheck_lit A1 c1 n1 l _ HK E1 H1 (Lib.hid T1.out.txt) G).mono ?_; rintro e w1 ⟨rfl, x1⟩; have m2 : True := trivial)
    | (have z := m2; clear z m2; go_at_call 25; refine (rowCheck_lit A2 c2 n2 m _ HQ E2 (Lib.hid (H2.out.ext x1)) (Lib.hid T2.out.txt) (G.ext x1)).mono ?_; rintro e w2 ⟨rfl, x2⟩)
    | (go_at_call 13; refine (known_true _ (G.ext (x1.trans x2))).mono ?_; rintro e w3 ⟨rfl, x3⟩)
    | fail)
  go_ret
  exact ⟨rfl, (x1.trans x2).trans x3⟩
include E1 H1 T1 E2 H2 T2 G in
set_option maxRecDepth 100000 in
set_option maxHeartbeats 800000 in
theorem beg_c (HK : Hid (checkR l = 0)) (HQ : Hid (checkR m = 0)) (hlt : 32 < n1 + n2) (h1 : n1 ≤ 32) (h2 : n2 ≤ 32) : Calls Tryd.prog 7 #[.slice A1 n1 c1, .slice A2 n2 c2] w fun e w' => e = .returned (.bool true) ∧ Ext w w' := by
  have hw : IntKind.i64.wrap ((n1 : Int) + (n2 : Int)) = (n1 : Int) + (n2 : Int) := IntWalk.i64_in _ (by omega)
  have hw2 : ¬ (n1 : Int) + (n2 : Int) ≤ 32 := by omega
  have m1 : True := trivial
  go_enter Tryd.func7, Tryd.ntmps7
  go_wp2_with (first
    | (have z := m1; clear z m1; go_at_call 25; refine (rowCheck_lit A1 c1 n1 l _ HK E1 H1 (Lib.hid T1.out.txt) G).mono ?_; rintro e w1 ⟨rfl, x1⟩; have m2 : True := trivial)
    | (have z := m2; clear z m2; go_at_call 25; refine (rowCheck_lit A2 c2 n2 m _ HQ E2 (Lib.hid (H2.out.ext x1)) (Lib.hid T2.out.txt) (G.ext x1)).mono ?_; rintro e w2 ⟨rfl, x2⟩)
    | (go_at_call 13; refine (known_true _ (G.ext (x1.trans x2))).mono ?_; rintro e w3 ⟨rfl, x3⟩)
    | fail)
  go_ret
  exact ⟨rfl, (x1.trans x2).trans x3⟩
include E1 H1 T1 E2 H2 T2 G in
set_option maxRecDepth 100000 in
set_option maxHeartbeats 8000000 in
theorem beg_yes (HK : Hid (checkR l = 0)) (HQ : Hid (checkR m = 0)) (h32 : n1 + n2 ≤ 32) (kx ky : Nat) (HX : Hid (kx = (keyT l).length)) (HY : Hid (ky = (keyT m).length)) (hkx : kx ≤ 1000000) (hky : ky ≤ 1000000) (hle : n1 ≤ n2) (hlk : kx ≤ ky) (HV : Hid (cmpR l (m.take n1) = 0)) (HU : Hid (lexB (keyT l) ((keyT m).take kx) = 0)) : Calls Tryd.prog 7 #[.slice A1 n1 c1, .slice A2 n2 c2] w fun e w' => e = .returned (.bool true) ∧ Ext w w' := by
  have hw : IntKind.i64.wrap ((n1 : Int) + (n2 : Int)) = (n1 : Int) + (n2 : Int) := IntWalk.i64_in _ (by omega)
  have hw2 : (n1 : Int) + (n2 : Int) ≤ 32 := by omega
  have hle2 : decide ((n1 : Int) ≤ (n2 : Int)) = true := by simp; omega
  have hlk2 : decide ((kx : Int) ≤ (ky : Int)) = true := by simp; omega
  have HLS : Hid (checkR (l ++ m) = 0) := Lib.hid ((checkR_ok _).2 ⟨by rw [List.length_append, ← E1.out, ← E2.out]; exact h32, fun d hd => (List.mem_append.1 hd).elim (((checkR_ok l).1 HK.out).2 d) (((checkR_ok m).1 HQ.out).2 d)⟩)
  have HTS : Hid (RwOk (l ++ m)) := Lib.hid ⟨fun d hd => (List.mem_append.1 hd).elim (T1.out.txt d) (T2.out.txt d), fun d hd => (List.mem_append.1 hd).elim (T1.out.int d) (T2.out.int d)⟩
  have HES : Hid (n1 + n2 = (l ++ m).length) := Lib.hid (by rw [List.length_append, ← E1.out, ← E2.out])
  have HXY : Hid (lexB (keyT (l ++ m)) (keyT l ++ keyT m) = 0) := Lib.hid (by rw [show keyT (l ++ m) = keyT l ++ keyT m from List.flatMap_append]; exact lexB_refl _)
  have hnn1 : n1 ≤ 32 := by omega
  have hc2 : n2 ≤ c2 := by have := (Sl.cap H2.out).1; rw [← E2.out] at this; exact this
  have hnn2 : n2 ≤ 32 := by omega
  have m1 : True := trivial
  go_enter Tryd.func7, Tryd.ntmps7
  go_wp2_with (first
    | (have z := m1; clear z m1; go_at_call 25; go_loud (refine (rowCheck_lit A1 c1 n1 l _ HK E1 H1 (Lib.hid T1.out.txt) G).mono ?_; rintro e w1 ⟨rfl, x1⟩; have Ew_1 := Lib.hid (x1); have m2 : True := trivial))
    | (have z := m2; clear z m2; go_at_call 25; go_loud (refine (rowCheck_lit A2 c2 n2 m _ HQ E2 (Lib.hid (H2.out.ext Ew_1.out)) (Lib.hid T2.out.txt) (G.ext Ew_1.out)).mono ?_; rintro e w2 ⟨rfl, x2⟩; have Ew_2 := Lib.hid (Ew_1.out.trans x2); have m3 : True := trivial))
    | (have z := m3; clear z m3; go_at_call 23; go_loud (refine (encode_ok A1 c1 n1 l _ HK E1 (Lib.hid (H1.out.ext Ew_2.out)) T1 (G.ext Ew_2.out)).mono ?_; rintro e w3 ⟨x3, xA, xn, xc, rfl, ob3⟩; have Ew_3 := Lib.hid (Ew_2.out.trans x3); have hxn := HX.out.trans ob3.len.symm; subst hxn; have XB := Lib.hid ob3.bs; clear ob3; have m4 : True := trivial))
    | (have z := m4; clear z m4; go_at_call 23; go_loud (refine (encode_ok A2 c2 n2 m _ HQ E2 (Lib.hid (H2.out.ext Ew_3.out)) T2 (G.ext Ew_3.out)).mono ?_; rintro e w4 ⟨x4, yA, yn, yc, rfl, ob4⟩; have Ew_4 := Lib.hid (Ew_3.out.trans x4); have Ew3_4 := Lib.hid (x4); have hyn := HY.out.trans ob4.len.symm; subst hyn; have YB := Lib.hid ob4.bs; have hcy : ky ≤ yc := (by have := (Sl.cap ob4.bs).1; rw [← HY.out] at this; exact this); clear ob4; have m5 : True := trivial))
    | (at_builtin; have z := m5; clear z m5; go_loud (refine wpList_append_two _ elem_dat w4.heap.size _ _ rfl rfl none 0 0 [] rfl (Own.nil _ _ _ _) A1 n1 c1 (rowC l) rfl (by have := ((Lib.hid (H1.out.ext Ew_4.out))).out; unfold Rw at this; rw [← E1.out] at this; exact this) (rowC_one l) (by omega) (by decide) (Nat.le_refl _) ?_; intro sA sc w5 o5 g5 h5; clear h5; have Ew_5 := Lib.hid (Ew_4.out.grown g5 (fun k e => nomatch e)); have Ew3_5 := Lib.hid (Ew3_4.out.grown g5 (fun k e => nomatch e)); have Ew4_5 := Lib.hid ((Ext.refl w4).grown g5 (fun k e => nomatch e)); have SO := Lib.hid o5; clear o5 g5; have m6 : True := trivial))
    | (at_builtin; have z := m6; clear z m6; go_loud (refine wpList_append_two _ elem_dat w4.heap.size _ _ rfl rfl sA n1 sc ([] ++ rowC l) rfl (by have := SO.out; rw [Nat.zero_add] at this; exact this) A2 n2 c2 (rowC m) rfl (by have := ((Lib.hid (H2.out.ext Ew_5.out))).out; unfold Rw at this; rw [← E2.out] at this; exact this) (rowC_one m) (by omega) (by decide) Ew4_5.out.size ?_; intro tA tc w6 o6 g6 h6; clear h6; have Ew_6 := Lib.hid (Ew_5.out.grown g6 (fun k e => Nat.le_trans (Ew_4.out.size) (SO.out.lt k e).1)); have Ew3_6 := Lib.hid (Ew3_5.out.grown g6 (fun k e => Nat.le_trans (Ew3_4.out.size) (SO.out.lt k e).1)); have Ew4_6 := Lib.hid (Ew4_5.out.grown g6 (fun k e => Nat.le_trans (Nat.le_refl _) (SO.out.lt k e).1)); have SO2 : Hid (Rw w6 tA tc (l ++ m)) := Lib.hid (by have := o6.sl; rw [List.nil_append, ← rowC_append] at this; unfold Rw; rw [← HES.out]; exact this); clear o6 g6; have m7 : True := trivial))
    | (have z := m7; clear z m7; go_at_call 23; go_loud (refine (encode_ok tA tc (n1 + n2) (l ++ m) _ HLS HES SO2 HTS (G.ext Ew_6.out)).mono ?_; rintro e w7 ⟨x7, zA, zn, zc, rfl, ob7⟩; have Ew_7 := Lib.hid (Ew_6.out.trans x7); have Ew3_7 := Lib.hid (Ew3_6.out.trans x7); have Ew4_7 := Lib.hid (Ew4_6.out.trans x7); have HZN := Lib.hid ob7.len; have ZB := Lib.hid ob7.bs; clear ob7; have m8 : True := trivial))
    | (have z := m8; clear z m8; go_at_call 14; go_loud (refine (rowCmp_lit A1 A2 c1 c2 n1 n1 l (m.take n1) _ HV E1 (Lib.hid (by rw [List.length_take, ← E2.out]; omega)) (Lib.hid (H1.out.ext Ew_7.out)) (Lib.hid ((((Lib.hid (H2.out.ext Ew_7.out))).out).take (by rw [← E2.out]; exact hle)))).mono ?_; rintro e w8 ⟨rfl, x8⟩; have Ew_8 := Lib.hid (Ew_7.out.trans x8); have Ew3_8 := Lib.hid (Ew3_7.out.trans x8); have Ew4_8 := Lib.hid (Ew4_7.out.trans x8); have Ew7_8 := Lib.hid (x8); have m9 : True := trivial))
    | (have z := m9; clear z m9; go_at_call 24; go_loud (refine (lawBytes_any _ xA yA xc yc kx kx (keyT l) ((keyT m).take kx) _ HU HX (Lib.hid (by rw [List.length_take, ← HY.out]; omega)) (Lib.hid (XB.out.ext Ew3_8.out)) (Lib.hid ((((Lib.hid (YB.out.ext Ew4_8.out))).out).take (by rw [← HY.out]; exact hlk)))).mono ?_; rintro e w9 ⟨rfl, x9⟩; have Ew_9 := Lib.hid (Ew_8.out.trans x9); have Ew3_9 := Lib.hid (Ew3_8.out.trans x9); have Ew4_9 := Lib.hid (Ew4_8.out.trans x9); have Ew7_9 := Lib.hid (Ew7_8.out.trans x9); have m10 : True := trivial))
    | (at_builtin; have z := m10; clear z m10; go_loud (refine wpList_append_two _ elem_byte w9.heap.size _ _ rfl rfl none 0 0 [] rfl (Own.nil _ _ _ _) xA kx xc (Lib.byteCells (keyT l)) rfl (by have := ((Lib.hid (XB.out.ext Ew3_9.out))).out; unfold Bs at this; rw [← HX.out] at this; exact this) (bytes_oneCell _) (by omega) (by decide) (Nat.le_refl _) ?_; intro aA ac w10 o10 g10 h10; clear h10; have Ew_10 := Lib.hid (Ew_9.out.grown g10 (fun k e => nomatch e)); have Ew3_10 := Lib.hid (Ew3_9.out.grown g10 (fun k e => nomatch e)); have Ew4_10 := Lib.hid (Ew4_9.out.grown g10 (fun k e => nomatch e)); have Ew7_10 := Lib.hid (Ew7_9.out.grown g10 (fun k e => nomatch e)); have AO := Lib.hid o10; clear o10; have EB := Lib.hid ((Ext.refl w9).grown g10 (fun k e => nomatch e)); clear g10; have m11 : True := trivial))
    | (at_builtin; have z := m11; clear z m11; go_loud (refine wpList_append_two _ elem_byte w9.heap.size _ _ rfl rfl aA kx ac ([] ++ Lib.byteCells (keyT l)) rfl (by have := AO.out; rw [Nat.zero_add] at this; exact this) yA ky yc (Lib.byteCells (keyT m)) rfl (by have := ((Lib.hid (YB.out.ext Ew4_10.out))).out; unfold Bs at this; rw [← HY.out] at this; exact this) (bytes_oneCell _) (by omega) (by decide) EB.out.size ?_; intro bA bc w11 o11 g11 h11; clear h11; have Ew_11 := Lib.hid (Ew_10.out.grown g11 (fun k e => Nat.le_trans (Ew_9.out.size) (AO.out.lt k e).1)); have Ew3_11 := Lib.hid (Ew3_10.out.grown g11 (fun k e => Nat.le_trans (Ew3_9.out.size) (AO.out.lt k e).1)); have Ew4_11 := Lib.hid (Ew4_10.out.grown g11 (fun k e => Nat.le_trans (Ew4_9.out.size) (AO.out.lt k e).1)); have Ew7_11 := Lib.hid (Ew7_10.out.grown g11 (fun k e => Nat.le_trans (Ew7_9.out.size) (AO.out.lt k e).1)); have AB : Hid (Bs w11 bA bc (keyT l ++ keyT m)) := Lib.hid (by have := o11.sl; rw [List.nil_append, ← cells_append] at this; unfold Bs; rw [List.length_append, ← HX.out, ← HY.out]; exact this); clear o11 g11; have m12 : True := trivial))
    | (have z := m12; clear z m12; go_at_call 13; go_loud (refine (known_true _ (G.ext Ew_11.out)).mono ?_; rintro e w12 ⟨rfl, x12⟩; have Ew_12 := Lib.hid (Ew_11.out.trans x12); have Ew3_12 := Lib.hid (Ew3_11.out.trans x12); have Ew4_12 := Lib.hid (Ew4_11.out.trans x12); have Ew7_12 := Lib.hid (Ew7_11.out.trans x12); have Ew11_12 := Lib.hid (x12); have m13 : True := trivial))
    | (have z := m13; clear z m13; go_at_call 24; go_loud (refine (lawBytes_any 0 zA bA zc bc zn (kx + ky) (keyT (l ++ m)) (keyT l ++ keyT m) _ HXY HZN (Lib.hid (by rw [List.length_append, ← HX.out, ← HY.out])) (Lib.hid (ZB.out.ext Ew7_12.out)) (Lib.hid (AB.out.ext Ew11_12.out))).mono ?_; rintro e w13 ⟨rfl, x13⟩; have Ew_13 := Lib.hid (Ew_12.out.trans x13); have Ew3_13 := Lib.hid (Ew3_12.out.trans x13); have Ew4_13 := Lib.hid (Ew4_12.out.trans x13); have Ew7_13 := Lib.hid (Ew7_12.out.trans x13); have Ew11_13 := Lib.hid (Ew11_12.out.trans x13); have m14 : True := trivial))
    | fail)
  go_ret
  exact ⟨rfl, Ew_13.out⟩
include E1 H1 T1 E2 H2 T2 G in
set_option maxRecDepth 100000 in
set_option maxHeartbeats 8000000 in
theorem beg_vv (HK : Hid (checkR l = 0)) (HQ : Hid (checkR m = 0)) (h32 : n1 + n2 ≤ 32) (kx ky : Nat) (HX : Hid (kx = (keyT l).length)) (HY : Hid (ky = (keyT m).length)) (hkx : kx ≤ 1000000) (hky : ky ≤ 1000000) (hle : n1 ≤ n2) (hlk : kx ≤ ky) (v : Int) (hv : (v == 0) = false) (HV : Hid (cmpR l (m.take n1) = v)) (u : Int) (hu : (u == 0) = false) (HU : Hid (lexB (keyT l) ((keyT m).take kx) = u)) : Calls Tryd.prog 7 #[.slice A1 n1 c1, .slice A2 n2 c2] w fun e w' => e = .returned (.bool true) ∧ Ext w w' := by
  have hw : IntKind.i64.wrap ((n1 : Int) + (n2 : Int)) = (n1 : Int) + (n2 : Int) := IntWalk.i64_in _ (by omega)
  have hw2 : (n1 : Int) + (n2 : Int) ≤ 32 := by omega
  have hle2 : decide ((n1 : Int) ≤ (n2 : Int)) = true := by simp; omega
  have hlk2 : decide ((kx : Int) ≤ (ky : Int)) = true := by simp; omega
  have HLS : Hid (checkR (l ++ m) = 0) := Lib.hid ((checkR_ok _).2 ⟨by rw [List.length_append, ← E1.out, ← E2.out]; exact h32, fun d hd => (List.mem_append.1 hd).elim (((checkR_ok l).1 HK.out).2 d) (((checkR_ok m).1 HQ.out).2 d)⟩)
  have HTS : Hid (RwOk (l ++ m)) := Lib.hid ⟨fun d hd => (List.mem_append.1 hd).elim (T1.out.txt d) (T2.out.txt d), fun d hd => (List.mem_append.1 hd).elim (T1.out.int d) (T2.out.int d)⟩
  have HES : Hid (n1 + n2 = (l ++ m).length) := Lib.hid (by rw [List.length_append, ← E1.out, ← E2.out])
  have HXY : Hid (lexB (keyT (l ++ m)) (keyT l ++ keyT m) = 0) := Lib.hid (by rw [show keyT (l ++ m) = keyT l ++ keyT m from List.flatMap_append]; exact lexB_refl _)
  have hnn1 : n1 ≤ 32 := by omega
  have hc2 : n2 ≤ c2 := by have := (Sl.cap H2.out).1; rw [← E2.out] at this; exact this
  have hnn2 : n2 ≤ 32 := by omega
  have m1 : True := trivial
  go_enter Tryd.func7, Tryd.ntmps7
  go_wp2_with (first
    | (have z := m1; clear z m1; go_at_call 25; go_loud (refine (rowCheck_lit A1 c1 n1 l _ HK E1 H1 (Lib.hid T1.out.txt) G).mono ?_; rintro e w1 ⟨rfl, x1⟩; have Ew_1 := Lib.hid (x1); have m2 : True := trivial))
    | (have z := m2; clear z m2; go_at_call 25; go_loud (refine (rowCheck_lit A2 c2 n2 m _ HQ E2 (Lib.hid (H2.out.ext Ew_1.out)) (Lib.hid T2.out.txt) (G.ext Ew_1.out)).mono ?_; rintro e w2 ⟨rfl, x2⟩; have Ew_2 := Lib.hid (Ew_1.out.trans x2); have m3 : True := trivial))
    | (have z := m3; clear z m3; go_at_call 23; go_loud (refine (encode_ok A1 c1 n1 l _ HK E1 (Lib.hid (H1.out.ext Ew_2.out)) T1 (G.ext Ew_2.out)).mono ?_; rintro e w3 ⟨x3, xA, xn, xc, rfl, ob3⟩; have Ew_3 := Lib.hid (Ew_2.out.trans x3); have hxn := HX.out.trans ob3.len.symm; subst hxn; have XB := Lib.hid ob3.bs; clear ob3; have m4 : True := trivial))
    | (have z := m4; clear z m4; go_at_call 23; go_loud (refine (encode_ok A2 c2 n2 m _ HQ E2 (Lib.hid (H2.out.ext Ew_3.out)) T2 (G.ext Ew_3.out)).mono ?_; rintro e w4 ⟨x4, yA, yn, yc, rfl, ob4⟩; have Ew_4 := Lib.hid (Ew_3.out.trans x4); have Ew3_4 := Lib.hid (x4); have hyn := HY.out.trans ob4.len.symm; subst hyn; have YB := Lib.hid ob4.bs; have hcy : ky ≤ yc := (by have := (Sl.cap ob4.bs).1; rw [← HY.out] at this; exact this); clear ob4; have m5 : True := trivial))
    | (at_builtin; have z := m5; clear z m5; go_loud (refine wpList_append_two _ elem_dat w4.heap.size _ _ rfl rfl none 0 0 [] rfl (Own.nil _ _ _ _) A1 n1 c1 (rowC l) rfl (by have := ((Lib.hid (H1.out.ext Ew_4.out))).out; unfold Rw at this; rw [← E1.out] at this; exact this) (rowC_one l) (by omega) (by decide) (Nat.le_refl _) ?_; intro sA sc w5 o5 g5 h5; clear h5; have Ew_5 := Lib.hid (Ew_4.out.grown g5 (fun k e => nomatch e)); have Ew3_5 := Lib.hid (Ew3_4.out.grown g5 (fun k e => nomatch e)); have Ew4_5 := Lib.hid ((Ext.refl w4).grown g5 (fun k e => nomatch e)); have SO := Lib.hid o5; clear o5 g5; have m6 : True := trivial))
    | (at_builtin; have z := m6; clear z m6; go_loud (refine wpList_append_two _ elem_dat w4.heap.size _ _ rfl rfl sA n1 sc ([] ++ rowC l) rfl (by have := SO.out; rw [Nat.zero_add] at this; exact this) A2 n2 c2 (rowC m) rfl (by have := ((Lib.hid (H2.out.ext Ew_5.out))).out; unfold Rw at this; rw [← E2.out] at this; exact this) (rowC_one m) (by omega) (by decide) Ew4_5.out.size ?_; intro tA tc w6 o6 g6 h6; clear h6; have Ew_6 := Lib.hid (Ew_5.out.grown g6 (fun k e => Nat.le_trans (Ew_4.out.size) (SO.out.lt k e).1)); have Ew3_6 := Lib.hid (Ew3_5.out.grown g6 (fun k e => Nat.le_trans (Ew3_4.out.size) (SO.out.lt k e).1)); have Ew4_6 := Lib.hid (Ew4_5.out.grown g6 (fun k e => Nat.le_trans (Nat.le_refl _) (SO.out.lt k e).1)); have SO2 : Hid (Rw w6 tA tc (l ++ m)) := Lib.hid (by have := o6.sl; rw [List.nil_append, ← rowC_append] at this; unfold Rw; rw [← HES.out]; exact this); clear o6 g6; have m7 : True := trivial))
    | (have z := m7; clear z m7; go_at_call 23; go_loud (refine (encode_ok tA tc (n1 + n2) (l ++ m) _ HLS HES SO2 HTS (G.ext Ew_6.out)).mono ?_; rintro e w7 ⟨x7, zA, zn, zc, rfl, ob7⟩; have Ew_7 := Lib.hid (Ew_6.out.trans x7); have Ew3_7 := Lib.hid (Ew3_6.out.trans x7); have Ew4_7 := Lib.hid (Ew4_6.out.trans x7); have HZN := Lib.hid ob7.len; have ZB := Lib.hid ob7.bs; clear ob7; have m8 : True := trivial))
    | (have z := m8; clear z m8; go_at_call 14; go_loud (refine (rowCmp_lit A1 A2 c1 c2 n1 n1 l (m.take n1) _ HV E1 (Lib.hid (by rw [List.length_take, ← E2.out]; omega)) (Lib.hid (H1.out.ext Ew_7.out)) (Lib.hid ((((Lib.hid (H2.out.ext Ew_7.out))).out).take (by rw [← E2.out]; exact hle)))).mono ?_; rintro e w8 ⟨rfl, x8⟩; have Ew_8 := Lib.hid (Ew_7.out.trans x8); have Ew3_8 := Lib.hid (Ew3_7.out.trans x8); have Ew4_8 := Lib.hid (Ew4_7.out.trans x8); have Ew7_8 := Lib.hid (x8); have m9 : True := trivial))
    | (have z := m9; clear z m9; go_at_call 24; go_loud (refine (lawBytes_any _ xA yA xc yc kx kx (keyT l) ((keyT m).take kx) _ HU HX (Lib.hid (by rw [List.length_take, ← HY.out]; omega)) (Lib.hid (XB.out.ext Ew3_8.out)) (Lib.hid ((((Lib.hid (YB.out.ext Ew4_8.out))).out).take (by rw [← HY.out]; exact hlk)))).mono ?_; rintro e w9 ⟨rfl, x9⟩; have Ew_9 := Lib.hid (Ew_8.out.trans x9); have Ew3_9 := Lib.hid (Ew3_8.out.trans x9); have Ew4_9 := Lib.hid (Ew4_8.out.trans x9); have Ew7_9 := Lib.hid (Ew7_8.out.trans x9); have m10 : True := trivial))
    | (at_builtin; have z := m10; clear z m10; go_loud (refine wpList_append_two _ elem_byte w9.heap.size _ _ rfl rfl none 0 0 [] rfl (Own.nil _ _ _ _) xA kx xc (Lib.byteCells (keyT l)) rfl (by have := ((Lib.hid (XB.out.ext Ew3_9.out))).out; unfold Bs at this; rw [← HX.out] at this; exact this) (bytes_oneCell _) (by omega) (by decide) (Nat.le_refl _) ?_; intro aA ac w10 o10 g10 h10; clear h10; have Ew_10 := Lib.hid (Ew_9.out.grown g10 (fun k e => nomatch e)); have Ew3_10 := Lib.hid (Ew3_9.out.grown g10 (fun k e => nomatch e)); have Ew4_10 := Lib.hid (Ew4_9.out.grown g10 (fun k e => nomatch e)); have Ew7_10 := Lib.hid (Ew7_9.out.grown g10 (fun k e => nomatch e)); have AO := Lib.hid o10; clear o10; have EB := Lib.hid ((Ext.refl w9).grown g10 (fun k e => nomatch e)); clear g10; have m11 : True := trivial))
    | (at_builtin; have z := m11; clear z m11; go_loud (refine wpList_append_two _ elem_byte w9.heap.size _ _ rfl rfl aA kx ac ([] ++ Lib.byteCells (keyT l)) rfl (by have := AO.out; rw [Nat.zero_add] at this; exact this) yA ky yc (Lib.byteCells (keyT m)) rfl (by have := ((Lib.hid (YB.out.ext Ew4_10.out))).out; unfold Bs at this; rw [← HY.out] at this; exact this) (bytes_oneCell _) (by omega) (by decide) EB.out.size ?_; intro bA bc w11 o11 g11 h11; clear h11; have Ew_11 := Lib.hid (Ew_10.out.grown g11 (fun k e => Nat.le_trans (Ew_9.out.size) (AO.out.lt k e).1)); have Ew3_11 := Lib.hid (Ew3_10.out.grown g11 (fun k e => Nat.le_trans (Ew3_9.out.size) (AO.out.lt k e).1)); have Ew4_11 := Lib.hid (Ew4_10.out.grown g11 (fun k e => Nat.le_trans (Ew4_9.out.size) (AO.out.lt k e).1)); have Ew7_11 := Lib.hid (Ew7_10.out.grown g11 (fun k e => Nat.le_trans (Ew7_9.out.size) (AO.out.lt k e).1)); have AB : Hid (Bs w11 bA bc (keyT l ++ keyT m)) := Lib.hid (by have := o11.sl; rw [List.nil_append, ← cells_append] at this; unfold Bs; rw [List.length_append, ← HX.out, ← HY.out]; exact this); clear o11 g11; have m12 : True := trivial))
    | (have z := m12; clear z m12; go_at_call 13; go_loud (refine (known_true _ (G.ext Ew_11.out)).mono ?_; rintro e w12 ⟨rfl, x12⟩; have Ew_12 := Lib.hid (Ew_11.out.trans x12); have Ew3_12 := Lib.hid (Ew3_11.out.trans x12); have Ew4_12 := Lib.hid (Ew4_11.out.trans x12); have Ew7_12 := Lib.hid (Ew7_11.out.trans x12); have Ew11_12 := Lib.hid (x12); have m13 : True := trivial))
    | (have z := m13; clear z m13; go_at_call 24; go_loud (refine (lawBytes_any 0 zA bA zc bc zn (kx + ky) (keyT (l ++ m)) (keyT l ++ keyT m) _ HXY HZN (Lib.hid (by rw [List.length_append, ← HX.out, ← HY.out])) (Lib.hid (ZB.out.ext Ew7_12.out)) (Lib.hid (AB.out.ext Ew11_12.out))).mono ?_; rintro e w13 ⟨rfl, x13⟩; have Ew_13 := Lib.hid (Ew_12.out.trans x13); have Ew3_13 := Lib.hid (Ew3_12.out.trans x13); have Ew4_13 := Lib.hid (Ew4_12.out.trans x13); have Ew7_13 := Lib.hid (Ew7_12.out.trans x13); have Ew11_13 := Lib.hid (Ew11_12.out.trans x13); have m14 : True := trivial))
    | fail)
  go_ret
  exact ⟨rfl, Ew_13.out⟩
include E1 H1 T1 E2 H2 T2 G in
set_option maxRecDepth 100000 in
set_option maxHeartbeats 8000000 in
theorem beg_vn (HK : Hid (checkR l = 0)) (HQ : Hid (checkR m = 0)) (h32 : n1 + n2 ≤ 32) (kx ky : Nat) (HX : Hid (kx = (keyT l).length)) (HY : Hid (ky = (keyT m).length)) (hkx : kx ≤ 1000000) (hky : ky ≤ 1000000) (hle : n1 ≤ n2) (hlk : ¬ kx ≤ ky) (v : Int) (hv : (v == 0) = false) (HV : Hid (cmpR l (m.take n1) = v)) : Calls Tryd.prog 7 #[.slice A1 n1 c1, .slice A2 n2 c2] w fun e w' => e = .returned (.bool true) ∧ Ext w w' := by
  have hw : IntKind.i64.wrap ((n1 : Int) + (n2 : Int)) = (n1 : Int) + (n2 : Int) := IntWalk.i64_in _ (by omega)
  have hw2 : (n1 : Int) + (n2 : Int) ≤ 32 := by omega
  have hle2 : decide ((n1 : Int) ≤ (n2 : Int)) = true := by simp; omega
  have hlk2 : decide ((kx : Int) ≤ (ky : Int)) = false := by simp; omega
  have HLS : Hid (checkR (l ++ m) = 0) := Lib.hid ((checkR_ok _).2 ⟨by rw [List.length_append, ← E1.out, ← E2.out]; exact h32, fun d hd => (List.mem_append.1 hd).elim (((checkR_ok l).1 HK.out).2 d) (((checkR_ok m).1 HQ.out).2 d)⟩)
  have HTS : Hid (RwOk (l ++ m)) := Lib.hid ⟨fun d hd => (List.mem_append.1 hd).elim (T1.out.txt d) (T2.out.txt d), fun d hd => (List.mem_append.1 hd).elim (T1.out.int d) (T2.out.int d)⟩
  have HES : Hid (n1 + n2 = (l ++ m).length) := Lib.hid (by rw [List.length_append, ← E1.out, ← E2.out])
  have HXY : Hid (lexB (keyT (l ++ m)) (keyT l ++ keyT m) = 0) := Lib.hid (by rw [show keyT (l ++ m) = keyT l ++ keyT m from List.flatMap_append]; exact lexB_refl _)
  have hnn1 : n1 ≤ 32 := by omega
  have hc2 : n2 ≤ c2 := by have := (Sl.cap H2.out).1; rw [← E2.out] at this; exact this
  have hnn2 : n2 ≤ 32 := by omega
  have m1 : True := trivial
  go_enter Tryd.func7, Tryd.ntmps7
  go_wp2_with (first
    | (have z := m1; clear z m1; go_at_call 25; go_loud (refine (rowCheck_lit A1 c1 n1 l _ HK E1 H1 (Lib.hid T1.out.txt) G).mono ?_; rintro e w1 ⟨rfl, x1⟩; have Ew_1 := Lib.hid (x1); have m2 : True := trivial))
    | (have z := m2; clear z m2; go_at_call 25; go_loud (refine (rowCheck_lit A2 c2 n2 m _ HQ E2 (Lib.hid (H2.out.ext Ew_1.out)) (Lib.hid T2.out.txt) (G.ext Ew_1.out)).mono ?_; rintro e w2 ⟨rfl, x2⟩; have Ew_2 := Lib.hid (Ew_1.out.trans x2); have m3 : True := trivial))
    | (have z := m3; clear z m3; go_at_call 23; go_loud (refine (encode_ok A1 c1 n1 l _ HK E1 (Lib.hid (H1.out.ext Ew_2.out)) T1 (G.ext Ew_2.out)).mono ?_; rintro e w3 ⟨x3, xA, xn, xc, rfl, ob3⟩; have Ew_3 := Lib.hid (Ew_2.out.trans x3); have hxn := HX.out.trans ob3.len.symm; subst hxn; have XB := Lib.hid ob3.bs; clear ob3; have m4 : True := trivial))
    | (have z := m4; clear z m4; go_at_call 23; go_loud (refine (encode_ok A2 c2 n2 m _ HQ E2 (Lib.hid (H2.out.ext Ew_3.out)) T2 (G.ext Ew_3.out)).mono ?_; rintro e w4 ⟨x4, yA, yn, yc, rfl, ob4⟩; have Ew_4 := Lib.hid (Ew_3.out.trans x4); have Ew3_4 := Lib.hid (x4); have hyn := HY.out.trans ob4.len.symm; subst hyn; have YB := Lib.hid ob4.bs; have hcy : ky ≤ yc := (by have := (Sl.cap ob4.bs).1; rw [← HY.out] at this; exact this); clear ob4; have m5 : True := trivial))
    | (at_builtin; have z := m5; clear z m5; go_loud (refine wpList_append_two _ elem_dat w4.heap.size _ _ rfl rfl none 0 0 [] rfl (Own.nil _ _ _ _) A1 n1 c1 (rowC l) rfl (by have := ((Lib.hid (H1.out.ext Ew_4.out))).out; unfold Rw at this; rw [← E1.out] at this; exact this) (rowC_one l) (by omega) (by decide) (Nat.le_refl _) ?_; intro sA sc w5 o5 g5 h5; clear h5; have Ew_5 := Lib.hid (Ew_4.out.grown g5 (fun k e => nomatch e)); have Ew3_5 := Lib.hid (Ew3_4.out.grown g5 (fun k e => nomatch e)); have Ew4_5 := Lib.hid ((Ext.refl w4).grown g5 (fun k e => nomatch e)); have SO := Lib.hid o5; clear o5 g5; have m6 : True := trivial))
    | (at_builtin; have z := m6; clear z m6; go_loud (refine wpList_append_two _ elem_dat w4.heap.size _ _ rfl rfl sA n1 sc ([] ++ rowC l) rfl (by have := SO.out; rw [Nat.zero_add] at this; exact this) A2 n2 c2 (rowC m) rfl (by have := ((Lib.hid (H2.out.ext Ew_5.out))).out; unfold Rw at this; rw [← E2.out] at this; exact this) (rowC_one m) (by omega) (by decide) Ew4_5.out.size ?_; intro tA tc w6 o6 g6 h6; clear h6; have Ew_6 := Lib.hid (Ew_5.out.grown g6 (fun k e => Nat.le_trans (Ew_4.out.size) (SO.out.lt k e).1)); have Ew3_6 := Lib.hid (Ew3_5.out.grown g6 (fun k e => Nat.le_trans (Ew3_4.out.size) (SO.out.lt k e).1)); have Ew4_6 := Lib.hid (Ew4_5.out.grown g6 (fun k e => Nat.le_trans (Nat.le_refl _) (SO.out.lt k e).1)); have SO2 : Hid (Rw w6 tA tc (l ++ m)) := Lib.hid (by have := o6.sl; rw [List.nil_append, ← rowC_append] at this; unfold Rw; rw [← HES.out]; exact this); clear o6 g6; have m7 : True := trivial))
    | (have z := m7; clear z m7; go_at_call 23; go_loud (refine (encode_ok tA tc (n1 + n2) (l ++ m) _ HLS HES SO2 HTS (G.ext Ew_6.out)).mono ?_; rintro e w7 ⟨x7, zA, zn, zc, rfl, ob7⟩; have Ew_7 := Lib.hid (Ew_6.out.trans x7); have Ew3_7 := Lib.hid (Ew3_6.out.trans x7); have Ew4_7 := Lib.hid (Ew4_6.out.trans x7); have HZN := Lib.hid ob7.len; have ZB := Lib.hid ob7.bs; clear ob7; have m8 : True := trivial))
    | (have z := m8; clear z m8; go_at_call 14; go_loud (refine (rowCmp_lit A1 A2 c1 c2 n1 n1 l (m.take n1) _ HV E1 (Lib.hid (by rw [List.length_take, ← E2.out]; omega)) (Lib.hid (H1.out.ext Ew_7.out)) (Lib.hid ((((Lib.hid (H2.out.ext Ew_7.out))).out).take (by rw [← E2.out]; exact hle)))).mono ?_; rintro e w8 ⟨rfl, x8⟩; have Ew_8 := Lib.hid (Ew_7.out.trans x8); have Ew3_8 := Lib.hid (Ew3_7.out.trans x8); have Ew4_8 := Lib.hid (Ew4_7.out.trans x8); have Ew7_8 := Lib.hid (x8); have m9 : True := trivial))
    | (at_builtin; have z := m9; clear z m9; go_loud (refine wpList_append_two _ elem_byte w8.heap.size _ _ rfl rfl none 0 0 [] rfl (Own.nil _ _ _ _) xA kx xc (Lib.byteCells (keyT l)) rfl (by have := ((Lib.hid (XB.out.ext Ew3_8.out))).out; unfold Bs at this; rw [← HX.out] at this; exact this) (bytes_oneCell _) (by omega) (by decide) (Nat.le_refl _) ?_; intro aA ac w9 o9 g9 h9; clear h9; have Ew_9 := Lib.hid (Ew_8.out.grown g9 (fun k e => nomatch e)); have Ew3_9 := Lib.hid (Ew3_8.out.grown g9 (fun k e => nomatch e)); have Ew4_9 := Lib.hid (Ew4_8.out.grown g9 (fun k e => nomatch e)); have Ew7_9 := Lib.hid (Ew7_8.out.grown g9 (fun k e => nomatch e)); have AO := Lib.hid o9; clear o9; have EB := Lib.hid ((Ext.refl w8).grown g9 (fun k e => nomatch e)); clear g9; have m10 : True := trivial))
    | (at_builtin; have z := m10; clear z m10; go_loud (refine wpList_append_two _ elem_byte w8.heap.size _ _ rfl rfl aA kx ac ([] ++ Lib.byteCells (keyT l)) rfl (by have := AO.out; rw [Nat.zero_add] at this; exact this) yA ky yc (Lib.byteCells (keyT m)) rfl (by have := ((Lib.hid (YB.out.ext Ew4_9.out))).out; unfold Bs at this; rw [← HY.out] at this; exact this) (bytes_oneCell _) (by omega) (by decide) EB.out.size ?_; intro bA bc w10 o10 g10 h10; clear h10; have Ew_10 := Lib.hid (Ew_9.out.grown g10 (fun k e => Nat.le_trans (Ew_8.out.size) (AO.out.lt k e).1)); have Ew3_10 := Lib.hid (Ew3_9.out.grown g10 (fun k e => Nat.le_trans (Ew3_8.out.size) (AO.out.lt k e).1)); have Ew4_10 := Lib.hid (Ew4_9.out.grown g10 (fun k e => Nat.le_trans (Ew4_8.out.size) (AO.out.lt k e).1)); have Ew7_10 := Lib.hid (Ew7_9.out.grown g10 (fun k e => Nat.le_trans (Ew7_8.out.size) (AO.out.lt k e).1)); have AB : Hid (Bs w10 bA bc (keyT l ++ keyT m)) := Lib.hid (by have := o10.sl; rw [List.nil_append, ← cells_append] at this; unfold Bs; rw [List.length_append, ← HX.out, ← HY.out]; exact this); clear o10 g10; have m11 : True := trivial))
    | (have z := m11; clear z m11; go_at_call 13; go_loud (refine (known_true _ (G.ext Ew_10.out)).mono ?_; rintro e w11 ⟨rfl, x11⟩; have Ew_11 := Lib.hid (Ew_10.out.trans x11); have Ew3_11 := Lib.hid (Ew3_10.out.trans x11); have Ew4_11 := Lib.hid (Ew4_10.out.trans x11); have Ew7_11 := Lib.hid (Ew7_10.out.trans x11); have Ew10_11 := Lib.hid (x11); have m12 : True := trivial))
    | (have z := m12; clear z m12; go_at_call 24; go_loud (refine (lawBytes_any 0 zA bA zc bc zn (kx + ky) (keyT (l ++ m)) (keyT l ++ keyT m) _ HXY HZN (Lib.hid (by rw [List.length_append, ← HX.out, ← HY.out])) (Lib.hid (ZB.out.ext Ew7_11.out)) (Lib.hid (AB.out.ext Ew10_11.out))).mono ?_; rintro e w12 ⟨rfl, x12⟩; have Ew_12 := Lib.hid (Ew_11.out.trans x12); have Ew3_12 := Lib.hid (Ew3_11.out.trans x12); have Ew4_12 := Lib.hid (Ew4_11.out.trans x12); have Ew7_12 := Lib.hid (Ew7_11.out.trans x12); have Ew10_12 := Lib.hid (Ew10_11.out.trans x12); have m13 : True := trivial))
    | fail)
  go_ret
  exact ⟨rfl, Ew_12.out⟩
include E1 H1 T1 E2 H2 T2 G in
set_option maxRecDepth 100000 in
set_option maxHeartbeats 8000000 in
theorem beg_nv (HK : Hid (checkR l = 0)) (HQ : Hid (checkR m = 0)) (h32 : n1 + n2 ≤ 32) (kx ky : Nat) (HX : Hid (kx = (keyT l).length)) (HY : Hid (ky = (keyT m).length)) (hkx : kx ≤ 1000000) (hky : ky ≤ 1000000) (hle : ¬ n1 ≤ n2) (hlk : kx ≤ ky) (u : Int) (hu : (u == 0) = false) (HU : Hid (lexB (keyT l) ((keyT m).take kx) = u)) : Calls Tryd.prog 7 #[.slice A1 n1 c1, .slice A2 n2 c2] w fun e w' => e = .returned (.bool true) ∧ Ext w w' := by
  have hw : IntKind.i64.wrap ((n1 : Int) + (n2 : Int)) = (n1 : Int) + (n2 : Int) := IntWalk.i64_in _ (by omega)
  have hw2 : (n1 : Int) + (n2 : Int) ≤ 32 := by omega
  have hle2 : decide ((n1 : Int) ≤ (n2 : Int)) = false := by simp; omega
  have hlk2 : decide ((kx : Int) ≤ (ky : Int)) = true := by simp; omega
  have HLS : Hid (checkR (l ++ m) = 0) := Lib.hid ((checkR_ok _).2 ⟨by rw [List.length_append, ← E1.out, ← E2.out]; exact h32, fun d hd => (List.mem_append.1 hd).elim (((checkR_ok l).1 HK.out).2 d) (((checkR_ok m).1 HQ.out).2 d)⟩)
  have HTS : Hid (RwOk (l ++ m)) := Lib.hid ⟨fun d hd => (List.mem_append.1 hd).elim (T1.out.txt d) (T2.out.txt d), fun d hd => (List.mem_append.1 hd).elim (T1.out.int d) (T2.out.int d)⟩
  have HES : Hid (n1 + n2 = (l ++ m).length) := Lib.hid (by rw [List.length_append, ← E1.out, ← E2.out])
  have HXY : Hid (lexB (keyT (l ++ m)) (keyT l ++ keyT m) = 0) := Lib.hid (by rw [show keyT (l ++ m) = keyT l ++ keyT m from List.flatMap_append]; exact lexB_refl _)
  have hnn1 : n1 ≤ 32 := by omega
  have hc2 : n2 ≤ c2 := by have := (Sl.cap H2.out).1; rw [← E2.out] at this; exact this
  have hnn2 : n2 ≤ 32 := by omega
  have m1 : True := trivial
  go_enter Tryd.func7, Tryd.ntmps7
  go_wp2_with (first
    | (have z := m1; clear z m1; go_at_call 25; go_loud (refine (rowCheck_lit A1 c1 n1 l _ HK E1 H1 (Lib.hid T1.out.txt) G).mono ?_; rintro e w1 ⟨rfl, x1⟩; have Ew_1 := Lib.hid (x1); have m2 : True := trivial))
    | (have z := m2; clear z m2; go_at_call 25; go_loud (refine (rowCheck_lit A2 c2 n2 m _ HQ E2 (Lib.hid (H2.out.ext Ew_1.out)) (Lib.hid T2.out.txt) (G.ext Ew_1.out)).mono ?_; rintro e w2 ⟨rfl, x2⟩; have Ew_2 := Lib.hid (Ew_1.out.trans x2); have m3 : True := trivial))
    | (have z := m3; clear z m3; go_at_call 23; go_loud (refine (encode_ok A1 c1 n1 l _ HK E1 (Lib.hid (H1.out.ext Ew_2.out)) T1 (G.ext Ew_2.out)).mono ?_; rintro e w3 ⟨x3, xA, xn, xc, rfl, ob3⟩; have Ew_3 := Lib.hid (Ew_2.out.trans x3); have hxn := HX.out.trans ob3.len.symm; subst hxn; have XB := Lib.hid ob3.bs; clear ob3; have m4 : True := trivial))
    | (have z := m4; clear z m4; go_at_call 23; go_loud (refine (encode_ok A2 c2 n2 m _ HQ E2 (Lib.hid (H2.out.ext Ew_3.out)) T2 (G.ext Ew_3.out)).mono ?_; rintro e w4 ⟨x4, yA, yn, yc, rfl, ob4⟩; have Ew_4 := Lib.hid (Ew_3.out.trans x4); have Ew3_4 := Lib.hid (x4); have hyn := HY.out.trans ob4.len.symm; subst hyn; have YB := Lib.hid ob4.bs; have hcy : ky ≤ yc := (by have := (Sl.cap ob4.bs).1; rw [← HY.out] at this; exact this); clear ob4; have m5 : True := trivial))
    | (at_builtin; have z := m5; clear z m5; go_loud (refine wpList_append_two _ elem_dat w4.heap.size _ _ rfl rfl none 0 0 [] rfl (Own.nil _ _ _ _) A1 n1 c1 (rowC l) rfl (by have := ((Lib.hid (H1.out.ext Ew_4.out))).out; unfold Rw at this; rw [← E1.out] at this; exact this) (rowC_one l) (by omega) (by decide) (Nat.le_refl _) ?_; intro sA sc w5 o5 g5 h5; clear h5; have Ew_5 := Lib.hid (Ew_4.out.grown g5 (fun k e => nomatch e)); have Ew3_5 := Lib.hid (Ew3_4.out.grown g5 (fun k e => nomatch e)); have Ew4_5 := Lib.hid ((Ext.refl w4).grown g5 (fun k e => nomatch e)); have SO := Lib.hid o5; clear o5 g5; have m6 : True := trivial))
    | (at_builtin; have z := m6; clear z m6; go_loud (refine wpList_append_two _ elem_dat w4.heap.size _ _ rfl rfl sA n1 sc ([] ++ rowC l) rfl (by have := SO.out; rw [Nat.zero_add] at this; exact this) A2 n2 c2 (rowC m) rfl (by have := ((Lib.hid (H2.out.ext Ew_5.out))).out; unfold Rw at this; rw [← E2.out] at this; exact this) (rowC_one m) (by omega) (by decide) Ew4_5.out.size ?_; intro tA tc w6 o6 g6 h6; clear h6; have Ew_6 := Lib.hid (Ew_5.out.grown g6 (fun k e => Nat.le_trans (Ew_4.out.size) (SO.out.lt k e).1)); have Ew3_6 := Lib.hid (Ew3_5.out.grown g6 (fun k e => Nat.le_trans (Ew3_4.out.size) (SO.out.lt k e).1)); have Ew4_6 := Lib.hid (Ew4_5.out.grown g6 (fun k e => Nat.le_trans (Nat.le_refl _) (SO.out.lt k e).1)); have SO2 : Hid (Rw w6 tA tc (l ++ m)) := Lib.hid (by have := o6.sl; rw [List.nil_append, ← rowC_append] at this; unfold Rw; rw [← HES.out]; exact this); clear o6 g6; have m7 : True := trivial))
    | (have z := m7; clear z m7; go_at_call 23; go_loud (refine (encode_ok tA tc (n1 + n2) (l ++ m) _ HLS HES SO2 HTS (G.ext Ew_6.out)).mono ?_; rintro e w7 ⟨x7, zA, zn, zc, rfl, ob7⟩; have Ew_7 := Lib.hid (Ew_6.out.trans x7); have Ew3_7 := Lib.hid (Ew3_6.out.trans x7); have Ew4_7 := Lib.hid (Ew4_6.out.trans x7); have HZN := Lib.hid ob7.len; have ZB := Lib.hid ob7.bs; clear ob7; have m8 : True := trivial))
    | (have z := m8; clear z m8; go_at_call 24; go_loud (refine (lawBytes_any _ xA yA xc yc kx kx (keyT l) ((keyT m).take kx) _ HU HX (Lib.hid (by rw [List.length_take, ← HY.out]; omega)) (Lib.hid (XB.out.ext Ew3_7.out)) (Lib.hid ((((Lib.hid (YB.out.ext Ew4_7.out))).out).take (by rw [← HY.out]; exact hlk)))).mono ?_; rintro e w8 ⟨rfl, x8⟩; have Ew_8 := Lib.hid (Ew_7.out.trans x8); have Ew3_8 := Lib.hid (Ew3_7.out.trans x8); have Ew4_8 := Lib.hid (Ew4_7.out.trans x8); have Ew7_8 := Lib.hid (x8); have m9 : True := trivial))
    | (at_builtin; have z := m9; clear z m9; go_loud (refine wpList_append_two _ elem_byte w8.heap.size _ _ rfl rfl none 0 0 [] rfl (Own.nil _ _ _ _) xA kx xc (Lib.byteCells (keyT l)) rfl (by have := ((Lib.hid (XB.out.ext Ew3_8.out))).out; unfold Bs at this; rw [← HX.out] at this; exact this) (bytes_oneCell _) (by omega) (by decide) (Nat.le_refl _) ?_; intro aA ac w9 o9 g9 h9; clear h9; have Ew_9 := Lib.hid (Ew_8.out.grown g9 (fun k e => nomatch e)); have Ew3_9 := Lib.hid (Ew3_8.out.grown g9 (fun k e => nomatch e)); have Ew4_9 := Lib.hid (Ew4_8.out.grown g9 (fun k e => nomatch e)); have Ew7_9 := Lib.hid (Ew7_8.out.grown g9 (fun k e => nomatch e)); have AO := Lib.hid o9; clear o9; have EB := Lib.hid ((Ext.refl w8).grown g9 (fun k e => nomatch e)); clear g9; have m10 : True := trivial))
    | (at_builtin; have z := m10; clear z m10; go_loud (refine wpList_append_two _ elem_byte w8.heap.size _ _ rfl rfl aA kx ac ([] ++ Lib.byteCells (keyT l)) rfl (by have := AO.out; rw [Nat.zero_add] at this; exact this) yA ky yc (Lib.byteCells (keyT m)) rfl (by have := ((Lib.hid (YB.out.ext Ew4_9.out))).out; unfold Bs at this; rw [← HY.out] at this; exact this) (bytes_oneCell _) (by omega) (by decide) EB.out.size ?_; intro bA bc w10 o10 g10 h10; clear h10; have Ew_10 := Lib.hid (Ew_9.out.grown g10 (fun k e => Nat.le_trans (Ew_8.out.size) (AO.out.lt k e).1)); have Ew3_10 := Lib.hid (Ew3_9.out.grown g10 (fun k e => Nat.le_trans (Ew3_8.out.size) (AO.out.lt k e).1)); have Ew4_10 := Lib.hid (Ew4_9.out.grown g10 (fun k e => Nat.le_trans (Ew4_8.out.size) (AO.out.lt k e).1)); have Ew7_10 := Lib.hid (Ew7_9.out.grown g10 (fun k e => Nat.le_trans (Ew7_8.out.size) (AO.out.lt k e).1)); have AB : Hid (Bs w10 bA bc (keyT l ++ keyT m)) := Lib.hid (by have := o10.sl; rw [List.nil_append, ← cells_append] at this; unfold Bs; rw [List.length_append, ← HX.out, ← HY.out]; exact this); clear o10 g10; have m11 : True := trivial))
    | (have z := m11; clear z m11; go_at_call 13; go_loud (refine (known_true _ (G.ext Ew_10.out)).mono ?_; rintro e w11 ⟨rfl, x11⟩; have Ew_11 := Lib.hid (Ew_10.out.trans x11); have Ew3_11 := Lib.hid (Ew3_10.out.trans x11); have Ew4_11 := Lib.hid (Ew4_10.out.trans x11); have Ew7_11 := Lib.hid (Ew7_10.out.trans x11); have Ew10_11 := Lib.hid (x11); have m12 : True := trivial))
    | (have z := m12; clear z m12; go_at_call 24; go_loud (refine (lawBytes_any 0 zA bA zc bc zn (kx + ky) (keyT (l ++ m)) (keyT l ++ keyT m) _ HXY HZN (Lib.hid (by rw [List.length_append, ← HX.out, ← HY.out])) (Lib.hid (ZB.out.ext Ew7_11.out)) (Lib.hid (AB.out.ext Ew10_11.out))).mono ?_; rintro e w12 ⟨rfl, x12⟩; have Ew_12 := Lib.hid (Ew_11.out.trans x12); have Ew3_12 := Lib.hid (Ew3_11.out.trans x12); have Ew4_12 := Lib.hid (Ew4_11.out.trans x12); have Ew7_12 := Lib.hid (Ew7_11.out.trans x12); have Ew10_12 := Lib.hid (Ew10_11.out.trans x12); have m13 : True := trivial))
    | fail)
  go_ret
  exact ⟨rfl, Ew_12.out⟩
include E1 H1 T1 E2 H2 T2 G in
set_option maxRecDepth 100000 in
set_option maxHeartbeats 8000000 in
theorem beg_nn (HK : Hid (checkR l = 0)) (HQ : Hid (checkR m = 0)) (h32 : n1 + n2 ≤ 32) (kx ky : Nat) (HX : Hid (kx = (keyT l).length)) (HY : Hid (ky = (keyT m).length)) (hkx : kx ≤ 1000000) (hky : ky ≤ 1000000) (hle : ¬ n1 ≤ n2) (hlk : ¬ kx ≤ ky) : Calls Tryd.prog 7 #[.slice A1 n1 c1, .slice A2 n2 c2] w fun e w' => e = .returned (.bool true) ∧ Ext w w' := by
  have hw : IntKind.i64.wrap ((n1 : Int) + (n2 : Int)) = (n1 : Int) + (n2 : Int) := IntWalk.i64_in _ (by omega)
  have hw2 : (n1 : Int) + (n2 : Int) ≤ 32 := by omega
  have hle2 : decide ((n1 : Int) ≤ (n2 : Int)) = false := by simp; omega
  have hlk2 : decide ((kx : Int) ≤ (ky : Int)) = false := by simp; omega
  have HLS : Hid (checkR (l ++ m) = 0) := Lib.hid ((checkR_ok _).2 ⟨by rw [List.length_append, ← E1.out, ← E2.out]; exact h32, fun d hd => (List.mem_append.1 hd).elim (((checkR_ok l).1 HK.out).2 d) (((checkR_ok m).1 HQ.out).2 d)⟩)
  have HTS : Hid (RwOk (l ++ m)) := Lib.hid ⟨fun d hd => (List.mem_append.1 hd).elim (T1.out.txt d) (T2.out.txt d), fun d hd => (List.mem_append.1 hd).elim (T1.out.int d) (T2.out.int d)⟩
  have HES : Hid (n1 + n2 = (l ++ m).length) := Lib.hid (by rw [List.length_append, ← E1.out, ← E2.out])
  have HXY : Hid (lexB (keyT (l ++ m)) (keyT l ++ keyT m) = 0) := Lib.hid (by rw [show keyT (l ++ m) = keyT l ++ keyT m from List.flatMap_append]; exact lexB_refl _)
  have hnn1 : n1 ≤ 32 := by omega
  have hc2 : n2 ≤ c2 := by have := (Sl.cap H2.out).1; rw [← E2.out] at this; exact this
  have hnn2 : n2 ≤ 32 := by omega
  have m1 : True := trivial
  go_enter Tryd.func7, Tryd.ntmps7
  go_wp2_with (first
    | (have z := m1; clear z m1; go_at_call 25; go_loud (refine (rowCheck_lit A1 c1 n1 l _ HK E1 H1 (Lib.hid T1.out.txt) G).mono ?_; rintro e w1 ⟨rfl, x1⟩; have Ew_1 := Lib.hid (x1); have m2 : True := trivial))
    | (have z := m2; clear z m2; go_at_call 25; go_loud (refine (rowCheck_lit A2 c2 n2 m _ HQ E2 (Lib.hid (H2.out.ext Ew_1.out)) (Lib.hid T2.out.txt) (G.ext Ew_1.out)).mono ?_; rintro e w2 ⟨rfl, x2⟩; have Ew_2 := Lib.hid (Ew_1.out.trans x2); have m3 : True := trivial))
    | (have z := m3; clear z m3; go_at_call 23; go_loud (refine (encode_ok A1 c1 n1 l _ HK E1 (Lib.hid (H1.out.ext Ew_2.out)) T1 (G.ext Ew_2.out)).mono ?_; rintro e w3 ⟨x3, xA, xn, xc, rfl, ob3⟩; have Ew_3 := Lib.hid (Ew_2.out.trans x3); have hxn := HX.out.trans ob3.len.symm; subst hxn; have XB := Lib.hid ob3.bs; clear ob3; have m4 : True := trivial))
    | (have z := m4; clear z m4; go_at_call 23; go_loud (refine (encode_ok A2 c2 n2 m _ HQ E2 (Lib.hid (H2.out.ext Ew_3.out)) T2 (G.ext Ew_3.out)).mono ?_; rintro e w4 ⟨x4, yA, yn, yc, rfl, ob4⟩; have Ew_4 := Lib.hid (Ew_3.out.trans x4); have Ew3_4 := Lib.hid (x4); have hyn := HY.out.trans ob4.len.symm; subst hyn; have YB := Lib.hid ob4.bs; have hcy : ky ≤ yc := (by have := (Sl.cap ob4.bs).1; rw [← HY.out] at this; exact this); clear ob4; have m5 : True := trivial))
    | (at_builtin; have z := m5; clear z m5; go_loud (refine wpList_append_two _ elem_dat w4.heap.size _ _ rfl rfl none 0 0 [] rfl (Own.nil _ _ _ _) A1 n1 c1 (rowC l) rfl (by have := ((Lib.hid (H1.out.ext Ew_4.out))).out; unfold Rw at this; rw [← E1.out] at this; exact this) (rowC_one l) (by omega) (by decide) (Nat.le_refl _) ?_; intro sA sc w5 o5 g5 h5; clear h5; have Ew_5 := Lib.hid (Ew_4.out.grown g5 (fun k e => nomatch e)); have Ew3_5 := Lib.hid (Ew3_4.out.grown g5 (fun k e => nomatch e)); have Ew4_5 := Lib.hid ((Ext.refl w4).grown g5 (fun k e => nomatch e)); have SO := Lib.hid o5; clear o5 g5; have m6 : True := trivial))
    | (at_builtin; have z := m6; clear z m6; go_loud (refine wpList_append_two _ elem_dat w4.heap.size _ _ rfl rfl sA n1 sc ([] ++ rowC l) rfl (by have := SO.out; rw [Nat.zero_add] at this; exact this) A2 n2 c2 (rowC m) rfl (by have := ((Lib.hid (H2.out.ext Ew_5.out))).out; unfold Rw at this; rw [← E2.out] at this; exact this) (rowC_one m) (by omega) (by decide) Ew4_5.out.size ?_; intro tA tc w6 o6 g6 h6; clear h6; have Ew_6 := Lib.hid (Ew_5.out.grown g6 (fun k e => Nat.le_trans (Ew_4.out.size) (SO.out.lt k e).1)); have Ew3_6 := Lib.hid (Ew3_5.out.grown g6 (fun k e => Nat.le_trans (Ew3_4.out.size) (SO.out.lt k e).1)); have Ew4_6 := Lib.hid (Ew4_5.out.grown g6 (fun k e => Nat.le_trans (Nat.le_refl _) (SO.out.lt k e).1)); have SO2 : Hid (Rw w6 tA tc (l ++ m)) := Lib.hid (by have := o6.sl; rw [List.nil_append, ← rowC_append] at this; unfold Rw; rw [← HES.out]; exact this); clear o6 g6; have m7 : True := trivial))
    | (have z := m7; clear z m7; go_at_call 23; go_loud (refine (encode_ok tA tc (n1 + n2) (l ++ m) _ HLS HES SO2 HTS (G.ext Ew_6.out)).mono ?_; rintro e w7 ⟨x7, zA, zn, zc, rfl, ob7⟩; have Ew_7 := Lib.hid (Ew_6.out.trans x7); have Ew3_7 := Lib.hid (Ew3_6.out.trans x7); have Ew4_7 := Lib.hid (Ew4_6.out.trans x7); have HZN := Lib.hid ob7.len; have ZB := Lib.hid ob7.bs; clear ob7; have m8 : True := trivial))
    | (at_builtin; have z := m8; clear z m8; go_loud (refine wpList_append_two _ elem_byte w7.heap.size _ _ rfl rfl none 0 0 [] rfl (Own.nil _ _ _ _) xA kx xc (Lib.byteCells (keyT l)) rfl (by have := ((Lib.hid (XB.out.ext Ew3_7.out))).out; unfold Bs at this; rw [← HX.out] at this; exact this) (bytes_oneCell _) (by omega) (by decide) (Nat.le_refl _) ?_; intro aA ac w8 o8 g8 h8; clear h8; have Ew_8 := Lib.hid (Ew_7.out.grown g8 (fun k e => nomatch e)); have Ew3_8 := Lib.hid (Ew3_7.out.grown g8 (fun k e => nomatch e)); have Ew4_8 := Lib.hid (Ew4_7.out.grown g8 (fun k e => nomatch e)); have Ew7_8 := Lib.hid ((Ext.refl w7).grown g8 (fun k e => nomatch e)); have AO := Lib.hid o8; clear o8; have EB := Lib.hid ((Ext.refl w7).grown g8 (fun k e => nomatch e)); clear g8; have m9 : True := trivial))
    | (at_builtin; have z := m9; clear z m9; go_loud (refine wpList_append_two _ elem_byte w7.heap.size _ _ rfl rfl aA kx ac ([] ++ Lib.byteCells (keyT l)) rfl (by have := AO.out; rw [Nat.zero_add] at this; exact this) yA ky yc (Lib.byteCells (keyT m)) rfl (by have := ((Lib.hid (YB.out.ext Ew4_8.out))).out; unfold Bs at this; rw [← HY.out] at this; exact this) (bytes_oneCell _) (by omega) (by decide) EB.out.size ?_; intro bA bc w9 o9 g9 h9; clear h9; have Ew_9 := Lib.hid (Ew_8.out.grown g9 (fun k e => Nat.le_trans (Ew_7.out.size) (AO.out.lt k e).1)); have Ew3_9 := Lib.hid (Ew3_8.out.grown g9 (fun k e => Nat.le_trans (Ew3_7.out.size) (AO.out.lt k e).1)); have Ew4_9 := Lib.hid (Ew4_8.out.grown g9 (fun k e => Nat.le_trans (Ew4_7.out.size) (AO.out.lt k e).1)); have Ew7_9 := Lib.hid (Ew7_8.out.grown g9 (fun k e => Nat.le_trans (Nat.le_refl _) (AO.out.lt k e).1)); have AB : Hid (Bs w9 bA bc (keyT l ++ keyT m)) := Lib.hid (by have := o9.sl; rw [List.nil_append, ← cells_append] at this; unfold Bs; rw [List.length_append, ← HX.out, ← HY.out]; exact this); clear o9 g9; have m10 : True := trivial))
    | (have z := m10; clear z m10; go_at_call 13; go_loud (refine (known_true _ (G.ext Ew_9.out)).mono ?_; rintro e w10 ⟨rfl, x10⟩; have Ew_10 := Lib.hid (Ew_9.out.trans x10); have Ew3_10 := Lib.hid (Ew3_9.out.trans x10); have Ew4_10 := Lib.hid (Ew4_9.out.trans x10); have Ew7_10 := Lib.hid (Ew7_9.out.trans x10); have Ew9_10 := Lib.hid (x10); have m11 : True := trivial))
    | (have z := m11; clear z m11; go_at_call 24; go_loud (refine (lawBytes_any 0 zA bA zc bc zn (kx + ky) (keyT (l ++ m)) (keyT l ++ keyT m) _ HXY HZN (Lib.hid (by rw [List.length_append, ← HX.out, ← HY.out])) (Lib.hid (ZB.out.ext Ew7_10.out)) (Lib.hid (AB.out.ext Ew9_10.out))).mono ?_; rintro e w11 ⟨rfl, x11⟩; have Ew_11 := Lib.hid (Ew_10.out.trans x11); have Ew3_11 := Lib.hid (Ew3_10.out.trans x11); have Ew4_11 := Lib.hid (Ew4_10.out.trans x11); have Ew7_11 := Lib.hid (Ew7_10.out.trans x11); have Ew9_11 := Lib.hid (Ew9_10.out.trans x11); have m12 : True := trivial))
    | fail)
  go_ret
  exact ⟨rfl, Ew_11.out⟩
end
theorem rowbeg_any (A1 A2 : Option Addr) (c1 c2 : Nat) (l m : List Dat) (w : World) (h1 : Rw w A1 c1 l) (h2 : Rw w A2 c2 m) (t1 : RwOk l) (t2 : RwOk m) (G : Good w) :
    Calls Tryd.prog 7 #[.slice A1 l.length c1, .slice A2 m.length c2] w fun e w' => e = .returned (.bool true) ∧ Ext w w' := by
  have H1 := Lib.hid h1
  have H2 := Lib.hid h2
  have T1 := Lib.hid t1
  have T2 := Lib.hid t2
  by_cases hk : checkR l = 0
  · by_cases hq : checkR m = 0
    · have b1 := ((checkR_ok l).1 hk).1
      have b2 := ((checkR_ok m).1 hq).1
      by_cases h32 : l.length + m.length ≤ 32
      · have hb := ahead_both (okR_of hk t1) (okR_of hq t2)
        have kx : (keyT l).length ≤ 1000000 := by have := keyT_len l (fun d hd => size_of_check' (((checkR_ok l).1 hk).2 d hd)); omega
        have ky : (keyT m).length ≤ 1000000 := by have := keyT_len m (fun d hd => size_of_check' (((checkR_ok m).1 hq).2 d hd)); omega
        by_cases hle : l.length ≤ m.length
        · by_cases hv : cmpR l (m.take l.length) = 0
          · obtain ⟨q1, q2⟩ := hb.1 ⟨hle, hv⟩
            exact beg_yes A1 A2 c1 c2 _ _ l m w (Lib.hid rfl) (Lib.hid rfl) H1 H2 T1 T2 G (Lib.hid hk) (Lib.hid hq) h32 _ _ (Lib.hid rfl) (Lib.hid rfl) kx ky hle q1 (Lib.hid hv) (Lib.hid q2)
          · by_cases hlk : (keyT l).length ≤ (keyT m).length
            · have hu : ¬ lexB (keyT l) ((keyT m).take (keyT l).length) = 0 := fun e => hv (hb.2 ⟨hlk, e⟩).2
              exact beg_vv A1 A2 c1 c2 _ _ l m w (Lib.hid rfl) (Lib.hid rfl) H1 H2 T1 T2 G (Lib.hid hk) (Lib.hid hq) h32 _ _ (Lib.hid rfl) (Lib.hid rfl) kx ky hle hlk _ (by simpa using hv) (Lib.hid rfl) _ (by simpa using hu) (Lib.hid rfl)
            · exact beg_vn A1 A2 c1 c2 _ _ l m w (Lib.hid rfl) (Lib.hid rfl) H1 H2 T1 T2 G (Lib.hid hk) (Lib.hid hq) h32 _ _ (Lib.hid rfl) (Lib.hid rfl) kx ky hle hlk _ (by simpa using hv) (Lib.hid rfl)
        · by_cases hlk : (keyT l).length ≤ (keyT m).length
          · have hu : ¬ lexB (keyT l) ((keyT m).take (keyT l).length) = 0 := fun e => hle (hb.2 ⟨hlk, e⟩).1
            exact beg_nv A1 A2 c1 c2 _ _ l m w (Lib.hid rfl) (Lib.hid rfl) H1 H2 T1 T2 G (Lib.hid hk) (Lib.hid hq) h32 _ _ (Lib.hid rfl) (Lib.hid rfl) kx ky hle hlk _ (by simpa using hu) (Lib.hid rfl)
          · exact beg_nn A1 A2 c1 c2 _ _ l m w (Lib.hid rfl) (Lib.hid rfl) H1 H2 T1 T2 G (Lib.hid hk) (Lib.hid hq) h32 _ _ (Lib.hid rfl) (Lib.hid rfl) kx ky hle hlk
      · exact beg_c A1 A2 c1 c2 _ _ l m w (Lib.hid rfl) (Lib.hid rfl) H1 H2 T1 T2 G (Lib.hid hk) (Lib.hid hq) (by omega) b1 b2
    · exact beg_b A1 A2 c1 c2 _ _ l m w (Lib.hid rfl) (Lib.hid rfl) H1 H2 T1 T2 G _ (by simpa using hq) (Lib.hid hk) (Lib.hid rfl)
  · exact beg_a A1 A2 c1 c2 _ _ l w (Lib.hid rfl) H1 T1 G _ (by simpa using hk) (Lib.hid rfl)
end Go.Proofs.YtngeioghihbkeaaDoor
