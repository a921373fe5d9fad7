/- RowWritten: the walk. Conditions: the library's tables and errors stand; the rows are as readings give them. -/
import Derived.Test.YtngeioghihbkeaaDoorRowParsA
import Derived.Test.YtngeioghihbkeaaDoorRowPrnAll
import Derived.Test.YtngeioghihbkeaaDoorRowKnown
namespace Go.Proofs.YtngeioghihbkeaaDoor
open Go.RowKit

theorem cmpR_self (l : List Dat) : cmpR l l = 0 := cmpC_tot.refl ⟨none, 0, l, 0⟩
theorem prn_at {v : Int} {q : ByteArray} (A : Option Addr) (c n : Nat) (l : List Dat) (w : World) (hv : Hid (checkR l = v)) (hq : Hid ((if checkR l = 0 then rowS l else ⟨#[]⟩) = q)) (e1 : Hid (n = l.length)) (h1 : Hid (Rw w A c l)) (ht : Hid (RwTxt l)) (hi : Hid (RwInt l)) (G : Good2 w) :
    Calls Tryd.prog 43 #[.slice A n c] w fun e w' => e = .returned (.tuple #[.string q, .int .u16 v]) ∧ Ext w w' := by
  refine (rowPrint_any A c n l w e1 h1 ht hi G).mono ?_
  rintro e w1 ⟨rfl, x1⟩
  exact ⟨by rw [hq.out, hv.out], x1⟩
theorem rowL_fine {l : List Dat} (h : checkR l = 0) (hi : RwInt l) : ∀ c ∈ rowL l, 32 ≤ c.toNat := by
  have hc := (checkR_ok l).1 h
  have key : ∀ m : List Dat, (∀ d ∈ m, Ok d) → ∀ c ∈ Lib.join (m.map prD) sep_, 32 ≤ c.toNat := by
    intro m
    induction m with
    | nil => intro _ c hc; simp [Lib.join] at hc
    | cons d m ih =>
      intro hm c hc
      have hd : ∀ c ∈ prD d, 32 ≤ c.toNat := fun c hc => by
        rw [prD_is (hm d (List.mem_cons_self ..))] at hc
        have := List.all_eq_true.1 (printL_fine d.k d.n d.b d.s) c hc
        unfold fine at this
        rw [decide_eq_true_iff] at this
        exact this.1
      cases m with
      | nil =>
        rw [List.map_singleton, Lib.join_one] at hc
        exact hd c hc
      | cons d2 m =>
        have e : Lib.join ((d :: d2 :: m).map prD) sep_ = prD d ++ ([44, 32] ++ Lib.join ((d2 :: m).map prD) sep_) := by
          rw [List.map_cons, List.map_cons, Lib.join_cons, Lib.join_cons]
          unfold Lib.joinTail
          simp only [List.map_cons, List.flatten_cons, List.append_assoc]
          rfl
        rw [e] at hc
        rcases List.mem_append.1 hc with hc | hc
        · exact hd c hc
        · rcases List.mem_append.1 hc with hc | hc
          · simp at hc; rcases hc with rfl | rfl <;> decide
          · exact ih (fun x hx => hm x (List.mem_cons_of_mem _ hx)) c hc
  intro c hm
  unfold rowL at hm
  rcases List.mem_cons.1 hm with rfl | hm
  · decide
  · rcases List.mem_append.1 hm with hm | hm
    · exact key l (fun d hd => ⟨hc.2 d hd, hi d hd⟩) c hm
    · simp at hm; subst hm; decide
theorem rowS_fine {l : List Dat} {p : ByteArray} (h : checkR l = 0) (hi : RwInt l) (hp : rowS l = p) : ∀ k (hk : k < p.size), ((p[k].toNat : Int) == 10) = false := by
  subst hp
  intro k hk
  have := rowL_fine h hi (rowS l)[k] (by
    have h' : k < (rowS l).data.toList.length := by simpa using hk
    have : (rowS l)[k] = (rowS l).data.toList[k] := rfl
    rw [this]
    exact List.getElem_mem h')
  simp
  omega
theorem rowS_inj {l m : List Dat} (hl : checkR l = 0) (hm : checkR m = 0) (il : RwInt l) (im : RwInt m) (h : rowS l = rowS m) : l = m := by
  have e : rowL l = rowL m := congrArg (fun b : ByteArray => b.data.toList) h
  have h1 := parseV_row hl il
  rw [e, parseV_row hm im] at h1
  injection h1 with h1
  exact h1.symm
theorem rowS_size {l : List Dat} (h : checkR l = 0) (hi : RwInt l) : (rowS l).size ≤ 1000000 := by
  have hc := (checkR_ok l).1 h
  have hj := join_max sep_ 5000 (l.map prD) (fun x hx => by
    obtain ⟨d, hd, rfl⟩ := List.mem_map.1 hx
    exact prD_len d (hi d hd))
  rw [List.length_map] at hj
  have hs : sep_.length = 2 := rfl
  have hl : l.length * (5000 + sep_.length) ≤ 32 * 5002 := by rw [hs]; exact Nat.mul_le_mul_right _ hc.1
  show (rowL l).toArray.size ≤ _
  rw [List.size_toArray]
  unfold rowL
  rw [List.length_cons, List.length_append, List.length_singleton]
  omega
/-- Parse of what is written -/
theorem parse_back {p : ByteArray} (l : List Dat) (n : Nat) (w : World) (hv : Hid (checkR l = 0)) (hi : Hid (RwInt l)) (hp : Hid (rowS l = p)) (hn : Hid (n = l.length)) (G : Good3 w) :
    Calls Tryd.prog 51 #[.string p] w fun e w' => ∃ A c, e = .returned (.tuple #[.slice A n c, .int .u16 0]) ∧ Rw w' A c l ∧ Ext w w' := by
  have hp' := hp.out
  subst hp'
  have hv' : parseV (rowS l).data.toList = some l := parseV_row hv.out hi.out
  refine (rowParse_any (rowS l) w (by have := rowS_size hv.out hi.out; omega) G).mono ?_
  rintro e w1 ⟨A, c, rfl, o1, x1⟩
  rw [parseL_some hv', parseE_some hv'] at *
  exact ⟨A, c, by rw [hn.out], o1.sl, x1⟩
section
variable (A1 A2 : Option Addr) (c1 c2 n1 n2 : Nat) (l m : List Dat) (w : World) (E1 : Hid (n1 = l.length)) (E2 : Hid (n2 = m.length)) (H1 : Hid (Rw w A1 c1 l)) (H2 : Hid (Rw w A2 c2 m)) (T1 : Hid (RwTxt l)) (T2 : Hid (RwTxt m)) (I1 : Hid (RwInt l)) (I2 : Hid (RwInt m)) (G : Good3 w)
include E1 E2 H1 H2 T1 T2 I1 I2 G
set_option maxRecDepth 100000 in
set_option maxHeartbeats 2000000 in
theorem writ_nn (u : Int) (hu : (u != 0) = true) (v : Int) (hv : (v != 0) = true) (p q : ByteArray) (HU : Hid (checkR l = u)) (HV : Hid (checkR m = v)) (HP : Hid ((if checkR l = 0 then rowS l else ⟨#[]⟩) = ⟨#[]⟩)) (HQ : Hid ((if checkR m = 0 then rowS m else ⟨#[]⟩) = ⟨#[]⟩)) :
    Calls Tryd.prog 12 #[.slice A1 n1 c1, .slice A2 n2 c2] w fun e w' => e = .returned (.bool true) ∧ Ext w w' := by
  have hu2 : (u == 0) = false := by simpa using hu
  have hv2 : (v == 0) = false := by simpa using hv
  have m1 : True := trivial
  go_enter Tryd.func12, Tryd.ntmps12
  go_wp2_with (first
    | (go_at_call 43; have mk := m1; clear m1 mk; go_loud (refine (prn_at (v := u) (q := ⟨#[]⟩) A1 c1 n1 l _ HU HP E1 H1 T1 I1 G.good).mono ?_); rintro e w1 ⟨rfl, x1⟩; have X1 := x1; have B1 := Lib.hid (H2.out.ext x1); have m2 : True := trivial)
    | (go_at_call 43; have mk := m2; clear m2 mk; go_loud (refine (prn_at (v := v) (q := ⟨#[]⟩) A2 c2 n2 m _ HV HQ E2 B1 T2 I2 (G.good.ext X1)).mono ?_); rintro e w2 ⟨rfl, x2⟩; have X2 := X1.trans x2; have m3 : True := trivial)
    | (go_at_call 13; have mk := m3; clear m3 mk; go_loud (refine (known_true _ (G.good.good.ext X2)).mono ?_); rintro e w3 ⟨rfl, x3⟩; have X3 := X2.trans x3; have m4 : True := trivial)
    | fail)
  go_ret
  exact ⟨rfl, X3⟩
set_option maxRecDepth 100000 in
set_option maxHeartbeats 2000000 in
theorem writ_ny (u : Int) (hu : (u != 0) = true) (p q : ByteArray) (HU : Hid (checkR l = u)) (HV : Hid (checkR m = 0)) (HP : Hid ((if checkR l = 0 then rowS l else ⟨#[]⟩) = ⟨#[]⟩)) (HQ : Hid ((if checkR m = 0 then rowS m else ⟨#[]⟩) = q)) :
    Calls Tryd.prog 12 #[.slice A1 n1 c1, .slice A2 n2 c2] w fun e w' => e = .returned (.bool true) ∧ Ext w w' := by
  have hu2 : (u == 0) = false := by simpa using hu
  have m1 : True := trivial
  go_enter Tryd.func12, Tryd.ntmps12
  go_wp2_with (first
    | (go_at_call 43; have mk := m1; clear m1 mk; go_loud (refine (prn_at (v := u) (q := ⟨#[]⟩) A1 c1 n1 l _ HU HP E1 H1 T1 I1 G.good).mono ?_); rintro e w1 ⟨rfl, x1⟩; have X1 := x1; have B1 := Lib.hid (H2.out.ext x1); have m2 : True := trivial)
    | (go_at_call 43; have mk := m2; clear m2 mk; go_loud (refine (prn_at (v := 0) (q := q) A2 c2 n2 m _ HV HQ E2 B1 T2 I2 (G.good.ext X1)).mono ?_); rintro e w2 ⟨rfl, x2⟩; have X2 := X1.trans x2; have m3 : True := trivial)
    | (go_at_call 13; have mk := m3; clear m3 mk; go_loud (refine (known_true _ (G.good.good.ext X2)).mono ?_); rintro e w3 ⟨rfl, x3⟩; have X3 := X2.trans x3; have m4 : True := trivial)
    | fail)
  go_ret
  exact ⟨rfl, X3⟩
set_option maxRecDepth 100000 in
set_option maxHeartbeats 2000000 in
theorem writ_yn (v : Int) (hv : (v != 0) = true) (p q : ByteArray) (HU : Hid (checkR l = 0)) (HV : Hid (checkR m = v)) (HP : Hid ((if checkR l = 0 then rowS l else ⟨#[]⟩) = p)) (HQ : Hid ((if checkR m = 0 then rowS m else ⟨#[]⟩) = ⟨#[]⟩)) :
    Calls Tryd.prog 12 #[.slice A1 n1 c1, .slice A2 n2 c2] w fun e w' => e = .returned (.bool true) ∧ Ext w w' := by
  have hv2 : (v == 0) = false := by simpa using hv
  have m1 : True := trivial
  go_enter Tryd.func12, Tryd.ntmps12
  go_wp2_with (first
    | (go_at_call 43; have mk := m1; clear m1 mk; go_loud (refine (prn_at (v := 0) (q := p) A1 c1 n1 l _ HU HP E1 H1 T1 I1 G.good).mono ?_); rintro e w1 ⟨rfl, x1⟩; have X1 := x1; have B1 := Lib.hid (H2.out.ext x1); have m2 : True := trivial)
    | (go_at_call 43; have mk := m2; clear m2 mk; go_loud (refine (prn_at (v := v) (q := ⟨#[]⟩) A2 c2 n2 m _ HV HQ E2 B1 T2 I2 (G.good.ext X1)).mono ?_); rintro e w2 ⟨rfl, x2⟩; have X2 := X1.trans x2; have m3 : True := trivial)
    | (go_at_call 13; have mk := m3; clear m3 mk; go_loud (refine (known_true _ (G.good.good.ext X2)).mono ?_); rintro e w3 ⟨rfl, x3⟩; have X3 := X2.trans x3; have m4 : True := trivial)
    | fail)
  go_ret
  exact ⟨rfl, X3⟩
set_option maxRecDepth 100000 in
set_option maxHeartbeats 4000000 in
theorem writ_same (p : ByteArray) (HU : Hid (checkR l = 0)) (HV : Hid (checkR m = 0)) (HP : Hid ((if checkR l = 0 then rowS l else ⟨#[]⟩) = p)) (HQ : Hid ((if checkR m = 0 then rowS m else ⟨#[]⟩) = p)) (HC : Hid (cmpR l m = 0)) (HF : Hid (∀ k (hk : k < p.size), ((p[k].toNat : Int) == 10) = false)) (hsz : p.size ≤ 1000000) :
    Calls Tryd.prog 12 #[.slice A1 n1 c1, .slice A2 n2 c2] w fun e w' => e = .returned (.bool true) ∧ Ext w w' := by
  have HS : Hid (rowS l = p) := Lib.hid (by have := HP.out; rwa [if_pos HU.out] at this)
  have m1 : True := trivial
  go_enter Tryd.func12, Tryd.ntmps12
  go_wp2_with (first
    | (go_at_call 43; have mk := m1; clear m1 mk; go_loud (refine (prn_at (v := 0) (q := p) A1 c1 n1 l _ HU HP E1 H1 T1 I1 G.good).mono ?_); rintro e w1 ⟨rfl, x1⟩; have X1 := x1; have B1 := Lib.hid (H2.out.ext x1); have m2 : True := trivial)
    | (go_at_call 43; have mk := m2; clear m2 mk; go_loud (refine (prn_at (v := 0) (q := p) A2 c2 n2 m _ HV HQ E2 B1 T2 I2 (G.good.ext X1)).mono ?_); rintro e w2 ⟨rfl, x2⟩; have X2 := X1.trans x2; have m3 : True := trivial)
    | fail)
  go_loop [9] (fun v => ∃ k : Nat, k ≤ p.size ∧ v = .int .i64 k) (fun v => p.size - (intOf v).toNat)
  case atStart => exact ⟨0, Nat.zero_le _, rfl⟩
  case round =>
    obtain ⟨k, hk, rfl⟩ := hrel
    by_cases hlt : k < p.size
    · have hpl := HF.out k hlt
      go_wp2
      go_round
      case rel => exact ⟨k + 1, by omega, by go_num⟩
      case measure => simp [intOf]; omega
    · obtain rfl : k = p.size := by omega
      have S2 := Lib.hid (H1.out.ext X2)
      go_wp2_with (first
        | (go_at_call 51; have mk := m3; clear m3 mk; go_loud (refine (parse_back l n1 _ HU I1 HS E1 (G.ext X2)).mono ?_); rintro e w3 ⟨A3, c3, rfl, r3, x3⟩; have X3 := X2.trans x3; have R3 := Lib.hid r3; clear r3; have m4 : True := trivial)
        | (go_at_call 13; have mk := m4; clear m4 mk; go_loud (refine (known_true _ (G.good.good.ext X3)).mono ?_); rintro e w4 ⟨rfl, x4⟩; have X4 := X3.trans x4; have S4 := Lib.hid (H1.out.ext X4); have D4 := Lib.hid (H2.out.ext X4); have R4 := Lib.hid (R3.out.ext x4); have m5 : True := trivial)
        | (go_at_call 14; have mk := m5; clear m5 mk; go_loud (refine (rowCmp_lit A1 A2 c1 c2 n1 n2 l m _ HC E1 E2 S4 D4).mono ?_); rintro e w5 ⟨rfl, x5⟩; have X5 := X4.trans x5; have S5 := Lib.hid (S4.out.ext x5); have R5 := Lib.hid (R4.out.ext x5); have m6 : True := trivial)
        | (go_at_call 14; have mk := m6; clear m6 mk; go_loud (refine (rowCmp_lit A3 A1 c3 c1 n1 n1 l l _ (Lib.hid (cmpR_self l)) E1 E1 R5 S5).mono ?_); rintro e w6 ⟨rfl, x6⟩; have X6 := X5.trans x6; have m7 : True := trivial)
        | fail)
      go_ret
      exact ⟨rfl, X6⟩
set_option maxRecDepth 100000 in
set_option maxHeartbeats 4000000 in
theorem writ_diff (p q : ByteArray) (v : Int) (hv : (v == 0) = false) (HU : Hid (checkR l = 0)) (HV : Hid (checkR m = 0)) (HP : Hid ((if checkR l = 0 then rowS l else ⟨#[]⟩) = p)) (HQ : Hid ((if checkR m = 0 then rowS m else ⟨#[]⟩) = q)) (hpq : ¬ p.toList = q.toList) (HC : Hid (cmpR l m = v)) (HF : Hid (∀ k (hk : k < p.size), ((p[k].toNat : Int) == 10) = false)) (hsz : p.size ≤ 1000000) :
    Calls Tryd.prog 12 #[.slice A1 n1 c1, .slice A2 n2 c2] w fun e w' => e = .returned (.bool true) ∧ Ext w w' := by
  have hpq2 : (p.toList == q.toList) = false := by simpa using hpq
  have HS : Hid (rowS l = p) := Lib.hid (by have := HP.out; rwa [if_pos HU.out] at this)
  have m1 : True := trivial
  go_enter Tryd.func12, Tryd.ntmps12
  go_wp2_with (first
    | (go_at_call 43; have mk := m1; clear m1 mk; go_loud (refine (prn_at (v := 0) (q := p) A1 c1 n1 l _ HU HP E1 H1 T1 I1 G.good).mono ?_); rintro e w1 ⟨rfl, x1⟩; have X1 := x1; have B1 := Lib.hid (H2.out.ext x1); have m2 : True := trivial)
    | (go_at_call 43; have mk := m2; clear m2 mk; go_loud (refine (prn_at (v := 0) (q := q) A2 c2 n2 m _ HV HQ E2 B1 T2 I2 (G.good.ext X1)).mono ?_); rintro e w2 ⟨rfl, x2⟩; have X2 := X1.trans x2; have m3 : True := trivial)
    | fail)
  go_loop [9] (fun v => ∃ k : Nat, k ≤ p.size ∧ v = .int .i64 k) (fun v => p.size - (intOf v).toNat)
  case atStart => exact ⟨0, Nat.zero_le _, rfl⟩
  case round =>
    obtain ⟨k, hk, rfl⟩ := hrel
    by_cases hlt : k < p.size
    · have hpl := HF.out k hlt
      go_wp2
      go_round
      case rel => exact ⟨k + 1, by omega, by go_num⟩
      case measure => simp [intOf]; omega
    · obtain rfl : k = p.size := by omega
      have S2 := Lib.hid (H1.out.ext X2)
      go_wp2_with (first
        | (go_at_call 51; have mk := m3; clear m3 mk; go_loud (refine (parse_back l n1 _ HU I1 HS E1 (G.ext X2)).mono ?_); rintro e w3 ⟨A3, c3, rfl, r3, x3⟩; have X3 := X2.trans x3; have R3 := Lib.hid r3; clear r3; have m4 : True := trivial)
        | (go_at_call 13; have mk := m4; clear m4 mk; go_loud (refine (known_true _ (G.good.good.ext X3)).mono ?_); rintro e w4 ⟨rfl, x4⟩; have X4 := X3.trans x4; have S4 := Lib.hid (H1.out.ext X4); have D4 := Lib.hid (H2.out.ext X4); have R4 := Lib.hid (R3.out.ext x4); have m5 : True := trivial)
        | (go_at_call 14; have mk := m5; clear m5 mk; go_loud (refine (rowCmp_lit A1 A2 c1 c2 n1 n2 l m _ HC E1 E2 S4 D4).mono ?_); rintro e w5 ⟨rfl, x5⟩; have X5 := X4.trans x5; have S5 := Lib.hid (S4.out.ext x5); have R5 := Lib.hid (R4.out.ext x5); have m6 : True := trivial)
        | (go_at_call 14; have mk := m6; clear m6 mk; go_loud (refine (rowCmp_lit A3 A1 c3 c1 n1 n1 l l _ (Lib.hid (cmpR_self l)) E1 E1 R5 S5).mono ?_); rintro e w6 ⟨rfl, x6⟩; have X6 := X5.trans x6; have m7 : True := trivial)
        | fail)
      go_ret
      exact ⟨rfl, X6⟩
theorem written_any : Calls Tryd.prog 12 #[.slice A1 n1 c1, .slice A2 n2 c2] w fun e w' => e = .returned (.bool true) ∧ Ext w w' := by
  by_cases hu : checkR l = 0
  · by_cases hv : checkR m = 0
    · have hp : (if checkR l = 0 then rowS l else ⟨#[]⟩) = rowS l := if_pos hu
      have hq : (if checkR m = 0 then rowS m else ⟨#[]⟩) = rowS m := if_pos hv
      have hf := rowS_fine hu I1.out rfl
      have hs := rowS_size hu I1.out
      by_cases hlm : l = m
      · have hc : cmpR l m = 0 := by rw [hlm]; exact cmpR_self m
        have e : rowS m = rowS l := by rw [hlm]
        exact writ_same A1 A2 c1 c2 n1 n2 l m w E1 E2 H1 H2 T1 T2 I1 I2 G (rowS l) (Lib.hid hu) (Lib.hid hv) (Lib.hid hp) (Lib.hid (hq.trans e)) (Lib.hid hc) (Lib.hid hf) hs
      · have hc : ¬ cmpR l m = 0 := fun h => hlm (row_zero l m (fun d hd => ⟨((checkR_ok l).1 hu).2 d hd, I1.out d hd⟩) (fun d hd => ⟨((checkR_ok m).1 hv).2 d hd, I2.out d hd⟩) h)
        exact writ_diff A1 A2 c1 c2 n1 n2 l m w E1 E2 H1 H2 T1 T2 I1 I2 G (rowS l) (rowS m) _ (by simpa using hc) (Lib.hid hu) (Lib.hid hv) (Lib.hid hp) (Lib.hid hq) (fun e => hlm (rowS_inj hu hv I1.out I2.out (data_inj (by rw [← Lib.toList_data, ← Lib.toList_data, e])))) (Lib.hid rfl) (Lib.hid hf) hs
    · exact writ_yn A1 A2 c1 c2 n1 n2 l m w E1 E2 H1 H2 T1 T2 I1 I2 G _ (by simpa using hv) _ ⟨#[]⟩ (Lib.hid hu) (Lib.hid rfl) (Lib.hid rfl) (Lib.hid (if_neg hv))
  · by_cases hv : checkR m = 0
    · exact writ_ny A1 A2 c1 c2 n1 n2 l m w E1 E2 H1 H2 T1 T2 I1 I2 G _ (by simpa using hu) ⟨#[]⟩ _ (Lib.hid rfl) (Lib.hid hv) (Lib.hid (if_neg hu)) (Lib.hid rfl)
    · exact writ_nn A1 A2 c1 c2 n1 n2 l m w E1 E2 H1 H2 T1 T2 I1 I2 G _ (by simpa using hu) _ (by simpa using hv) ⟨#[]⟩ ⟨#[]⟩ (Lib.hid rfl) (Lib.hid rfl) (Lib.hid (if_neg hu)) (Lib.hid (if_neg hv))
end
end Go.Proofs.YtngeioghihbkeaaDoor
