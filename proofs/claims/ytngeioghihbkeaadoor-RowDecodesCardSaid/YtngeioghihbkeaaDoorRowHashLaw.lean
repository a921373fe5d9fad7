/- RowHashes: the plain law, the walk. Conditions: the library's tables stand; the rows are as readings give them, their texts of a length that fits. -/
import Derived.Test.YtngeioghihbkeaaDoorRowPick
import Derived.Test.YtngeioghihbkeaaDoorRowKnown
import Derived.Deep.LoopGhost
namespace Go.Proofs.YtngeioghihbkeaaDoor
open Go.RowKit

theorem put_zero {a b : Dat} (h : cmpD a b = 0) : putT a = putT b := by
  unfold cmpD at h
  by_cases q : a.k = b.k
  · rw [if_pos q] at h
    unfold putT
    rw [← q]
    by_cases q2 : a.k = 2
    · rw [if_pos q2] at h
      have e := cmpT_zero h
      have e2 : a.b = b.b := by
        cases ha : a.b <;> cases hb : b.b <;> rw [ha, hb] at e
        · exact absurd e (by decide)
        · exact absurd e (by decide)
      rw [e2]
      simp only [q2]
      rfl
    · rw [if_neg q2] at h
      by_cases q3 : a.k = 3
      · rw [if_pos q3] at h
        rw [cmpT_zero h]
        simp only [q3]
        rfl
      · rw [if_neg q3] at h
        by_cases q4 : a.k = 4
        · rw [if_pos q4] at h
          rw [cmpS_zero h]
          simp only [q4]
          rfl
        · simp only [if_neg q2, if_neg q3, if_neg q4]
  · rw [if_neg q] at h
    exact absurd (cmpT_zero h) q
theorem hash_same_go (l m : List Dat) : ∀ cs : List Int, (∀ c ∈ cs, 0 ≤ c ∧ c < (l.length : Int)) → (∀ c ∈ cs, 0 ≤ c ∧ c < (m.length : Int)) → cmpR (pickL l cs) (pickL m cs) = 0 → ∀ h, cs.foldl (hashD l) h = cs.foldl (hashD m) h
  | [], _, _, _, h => rfl
  | c :: cs, hl, hm, hz, h => by
    unfold pickL at hz
    rw [List.map_cons, List.map_cons] at hz
    unfold cmpR at hz
    have a1 := hl c (List.mem_cons_self ..)
    have a2 := hm c (List.mem_cons_self ..)
    obtain ⟨j, rfl⟩ := Int.eq_ofNat_of_zero_le a1.1
    by_cases q : cmpD (l.getD (j : Int).toNat Dat.zero) (m.getD (j : Int).toNat Dat.zero) = 0
    · rw [if_pos q] at hz
      rw [List.foldl_cons, List.foldl_cons, hashD_in (l := l) (by omega), hashD_in (l := m) (by omega), put_zero (a := l.getD j Dat.zero) (b := m.getD j Dat.zero) q]
      exact hash_same_go l m cs (fun c hc => hl c (List.mem_cons_of_mem _ hc)) (fun c hc => hm c (List.mem_cons_of_mem _ hc)) hz _
    · rw [if_neg q] at hz
      exact absurd hz q
theorem hash_same {l m : List Dat} {cs : List Int} (hl : pickOk l cs) (hm : pickOk m cs) (h : cmpR (pickL l cs) (pickL m cs) = 0) : hashV l cs = hashV m cs := hash_same_go l m cs hl.2 hm.2 h _
def upI (n : Nat) : List Int := (List.range n).map fun i : Nat => (i : Int)
theorem upI_len (n : Nat) : (upI n).length = n := by unfold upI; rw [List.length_map, List.length_range]
theorem upI_at {n i : Nat} (h : i < n) : (upI n).getD i 0 = (i : Int) := by
  unfold upI
  rw [List.getD_eq_getElem?_getD, List.getElem?_map, List.getElem?_range h]
  rfl
theorem upI_succ (n : Nat) : upI (n + 1) = upI n ++ [(n : Int)] := by
  unfold upI
  rw [List.range_succ, List.map_append]
  rfl
theorem hash_pick_go (l : List Dat) (cs : List Int) (hk : pickOk l cs) (h : Int) : ∀ i, i ≤ cs.length → ((upI cs.length).take i).foldl (hashD (pickL l cs)) h = (cs.take i).foldl (hashD l) h
  | 0, _ => rfl
  | i + 1, hi => by
    have hi' : i < cs.length := hi
    rw [hashV_snoc _ (upI cs.length) h (by rw [upI_len]; exact hi'), hashV_snoc l cs h hi', hash_pick_go l cs hk h i (by omega), upI_at hi', hashD_in (by rw [pickL_len]; exact hi')]
    have a1 := hk.2 (cs.getD i 0) (by rw [List.getD_eq_getElem?_getD, List.getElem?_eq_getElem hi']; exact List.getElem_mem hi')
    obtain ⟨j, hj⟩ := Int.eq_ofNat_of_zero_le a1.1
    have e : (pickL l cs).getD i Dat.zero = l.getD (cs.getD i 0).toNat Dat.zero := by
      unfold pickL
      rw [List.getD_eq_getElem?_getD, List.getElem?_map, List.getD_eq_getElem?_getD (l := cs), List.getElem?_eq_getElem hi']
      rfl
    rw [e, hj, hashD_in (by omega)]
    rfl
theorem hash_pick {l : List Dat} {cs : List Int} (hk : pickOk l cs) : hashV (pickL l cs) (upI cs.length) = hashV l cs := by
  have := hash_pick_go l cs hk 14695981039346656037 cs.length (Nat.le_refl _)
  rw [List.take_of_length_le (Nat.le_refl _), List.take_of_length_le (by rw [upI_len]; exact Nat.le_refl _)] at this
  exact this
def TxtUp (l : List Dat) : Prop := ∀ d ∈ l, d.s.size ≤ 10000000000000
theorem pickL_mem {l : List Dat} {cs : List Int} (hk : pickOk l cs) {d : Dat} (hd : d ∈ pickL l cs) : d ∈ l := by
  obtain ⟨c, hc, rfl⟩ := List.mem_map.1 hd
  have := hk.2 c hc
  rw [List.getD_eq_getElem?_getD, List.getElem?_eq_getElem (by omega)]
  exact List.getElem_mem _
theorem pick_yes (A C : Option Addr) (c cc n nc : Nat) (l : List Dat) (cs : List Int) (w : World) (e1 : Hid (n = l.length)) (e2 : Hid (nc = cs.length)) (h1 : Hid (Rw w A c l)) (h2 : Hid (Is w C cc cs)) (hk : Hid (pickOk l cs)) :
    Calls Tryd.prog 26 #[.slice A n c, .slice C nc cc] w fun e w' => Ext w w' ∧ ∃ A' c', e = .returned (.tuple #[.slice A' nc c', .int .u16 0]) ∧ Rw w' A' c' (pickL l cs) :=
  (pick_any A C c cc n nc l cs w e1 e2 h1 h2).mono fun e w' ⟨x, q⟩ => ⟨x, by
    rcases q with ⟨_, A', c', he, r⟩ | ⟨q, _⟩
    · exact ⟨A', c', by rw [e2.out]; exact he, r⟩
    · exact absurd hk.out q⟩
theorem pick_no (A C : Option Addr) (c cc n nc : Nat) (l : List Dat) (cs : List Int) (w : World) (e1 : Hid (n = l.length)) (e2 : Hid (nc = cs.length)) (h1 : Hid (Rw w A c l)) (h2 : Hid (Is w C cc cs)) (hk : Hid (¬ pickOk l cs)) :
    Calls Tryd.prog 26 #[.slice A n c, .slice C nc cc] w fun e w' => e = .returned (.tuple #[.slice none 0 0, .int .u16 20]) ∧ Ext w w' :=
  (pick_any A C c cc n nc l cs w e1 e2 h1 h2).mono fun e w' ⟨x, q⟩ => by
    rcases q with ⟨q, _⟩ | ⟨_, he⟩
    · exact absurd q hk.out
    · exact ⟨he, x⟩
theorem hash_lit (v : Int) (A C : Option Addr) (c cc n nc : Nat) (l : List Dat) (cs : List Int) (w : World) (hv : Hid (hashV l cs = v)) (e1 : Hid (n = l.length)) (e2 : Hid (nc = cs.length)) (h1 : Hid (Rw w A c l)) (h2 : Hid (Is w C cc cs)) (hi : Hid (RwInt l)) (hz : Hid (TxtUp l)) :
    Calls Tryd.prog 27 #[.slice A n c, .slice C nc cc] w fun e w' => e = .returned (.int .u64 v) ∧ Ext w w' := hv.out ▸ hash_any A C c cc n nc l cs w e1 e2 h1 h2 hi hz
theorem elem_int : Elem Tryd.prog 43 3 1 8 (.int .i64 0) := ⟨by kernel_rfl, by kernel_rfl, rfl, by decide⟩
section
variable (A1 A2 C : Option Addr) (c1 c2 cc n1 n2 nc : Nat) (l m : List Dat) (cs : List Int) (w : World) (E1 : Hid (n1 = l.length)) (E2 : Hid (n2 = m.length)) (E3 : Hid (nc = cs.length)) (H1 : Hid (Rw w A1 c1 l)) (H2 : Hid (Rw w A2 c2 m)) (H3 : Hid (Is w C cc cs)) (T1 : Hid (RwInt l)) (T2 : Hid (RwInt m)) (Z1 : Hid (TxtUp l)) (Z2 : Hid (TxtUp m)) (b1 : n1 ≤ 2000000) (b2 : n2 ≤ 2000000) (b3 : nc ≤ 2000000) (G : Good w)
include b1 b2 b3 G in
set_option maxRecDepth 100000 in
set_option maxHeartbeats 800000 in
theorem hashes_a (h : 200 < n1 + n2 + nc) : Calls Tryd.prog 8 #[.slice A1 n1 c1, .slice A2 n2 c2, .slice C nc cc] w fun e w' => e = .returned (.bool true) ∧ Ext w w' := by
  have hw1 : IntKind.i64.wrap ((n1 : Int) + (n2 : Int)) = (n1 : Int) + (n2 : Int) := IntWalk.i64_in _ (by omega)
  have hw2 : IntKind.i64.wrap ((n1 : Int) + (n2 : Int) + (nc : Int)) = (n1 : Int) + (n2 : Int) + (nc : Int) := IntWalk.i64_in _ (by omega)
  have hgt : ¬ (n1 : Int) + (n2 : Int) + (nc : Int) ≤ 200 := by omega
  go_enter Tryd.func8, Tryd.ntmps8
  go_wp2_with (go_at_call 13; refine (known_true _ G).mono ?_; rintro e w2 ⟨rfl, x2⟩)
  go_ret
  exact ⟨rfl, x2⟩
include E1 E2 E3 H1 H2 H3 G in
set_option maxRecDepth 100000 in
set_option maxHeartbeats 8000000 in
theorem hashes_ny (h200 : n1 + n2 + nc ≤ 200) (K1 : Hid (¬ pickOk l cs)) (K2 : Hid (pickOk m cs)) : Calls Tryd.prog 8 #[.slice A1 n1 c1, .slice A2 n2 c2, .slice C nc cc] w fun e w' => e = .returned (.bool true) ∧ Ext w w' := by
  have b1 : n1 ≤ 200 := by omega
  have b2 : n2 ≤ 200 := by omega
  have b3 : nc ≤ 200 := by omega
  have hw1 : IntKind.i64.wrap ((n1 : Int) + (n2 : Int)) = (n1 : Int) + (n2 : Int) := IntWalk.i64_in _ (by omega)
  have hw2 : IntKind.i64.wrap ((n1 : Int) + (n2 : Int) + (nc : Int)) = (n1 : Int) + (n2 : Int) + (nc : Int) := IntWalk.i64_in _ (by omega)
  have hle : (n1 : Int) + (n2 : Int) + (nc : Int) ≤ 200 := by omega
  have m1 : True := trivial
  go_enter Tryd.func8, Tryd.ntmps8
  go_wp2_with (first
    | (have z := m1; clear z m1; go_at_call 26; go_loud (refine (pick_no A1 C c1 cc n1 nc l cs _ E1 E3 H1 H3 K1).mono ?_; rintro e w1 ⟨rfl, x1⟩; have X1 := Lib.hid x1; clear x1; have m2 : True := trivial))
    | (have z := m2; clear z m2; go_at_call 26; go_loud (refine (pick_yes A2 C c2 cc n2 nc m cs _ E2 E3 (Lib.hid (H2.out.ext X1.out)) (Lib.hid (H3.out.ext X1.out)) K2).mono ?_; rintro e w2 ⟨x2, qA, qc, rfl, qr⟩; have X2 := Lib.hid (X1.out.trans x2); have QR := Lib.hid qr; clear x2 qr; have m3 : True := trivial))
    | (have z := m3; clear z m3; go_at_call 13; go_loud (refine (known_true _ (G.ext X2.out)).mono ?_; rintro e w3 ⟨rfl, x3⟩; skip; have m4 : True := trivial))
    | fail)
  go_ret
  exact ⟨rfl, X2.out.trans x3⟩
include E1 E2 E3 H1 H2 H3 G in
set_option maxRecDepth 100000 in
set_option maxHeartbeats 8000000 in
theorem hashes_nn (h200 : n1 + n2 + nc ≤ 200) (K1 : Hid (¬ pickOk l cs)) (K2 : Hid (¬ pickOk m cs)) : Calls Tryd.prog 8 #[.slice A1 n1 c1, .slice A2 n2 c2, .slice C nc cc] w fun e w' => e = .returned (.bool true) ∧ Ext w w' := by
  have b1 : n1 ≤ 200 := by omega
  have b2 : n2 ≤ 200 := by omega
  have b3 : nc ≤ 200 := by omega
  have hw1 : IntKind.i64.wrap ((n1 : Int) + (n2 : Int)) = (n1 : Int) + (n2 : Int) := IntWalk.i64_in _ (by omega)
  have hw2 : IntKind.i64.wrap ((n1 : Int) + (n2 : Int) + (nc : Int)) = (n1 : Int) + (n2 : Int) + (nc : Int) := IntWalk.i64_in _ (by omega)
  have hle : (n1 : Int) + (n2 : Int) + (nc : Int) ≤ 200 := by omega
  have m1 : True := trivial
  go_enter Tryd.func8, Tryd.ntmps8
  go_wp2_with (first
    | (have z := m1; clear z m1; go_at_call 26; go_loud (refine (pick_no A1 C c1 cc n1 nc l cs _ E1 E3 H1 H3 K1).mono ?_; rintro e w1 ⟨rfl, x1⟩; have X1 := Lib.hid x1; clear x1; have m2 : True := trivial))
    | (have z := m2; clear z m2; go_at_call 26; go_loud (refine (pick_no A2 C c2 cc n2 nc m cs _ E2 E3 (Lib.hid (H2.out.ext X1.out)) (Lib.hid (H3.out.ext X1.out)) K2).mono ?_; rintro e w2 ⟨rfl, x2⟩; have X2 := Lib.hid (X1.out.trans x2); clear x2; have m3 : True := trivial))
    | (have z := m3; clear z m3; go_at_call 13; go_loud (refine (known_true _ (G.ext X2.out)).mono ?_; rintro e w3 ⟨rfl, x3⟩; skip; have m4 : True := trivial))
    | fail)
  go_ret
  exact ⟨rfl, X2.out.trans x3⟩
include E1 E2 E3 H1 H2 H3 G T1 Z1 in
set_option maxRecDepth 100000 in
set_option maxHeartbeats 8000000 in
theorem hashes_yn (h200 : n1 + n2 + nc ≤ 200) (K1 : Hid (pickOk l cs)) (K2 : Hid (¬ pickOk m cs)) : Calls Tryd.prog 8 #[.slice A1 n1 c1, .slice A2 n2 c2, .slice C nc cc] w fun e w' => e = .returned (.bool true) ∧ Ext w w' := by
  have b1 : n1 ≤ 200 := by omega
  have b2 : n2 ≤ 200 := by omega
  have b3 : nc ≤ 200 := by omega
  have hw1 : IntKind.i64.wrap ((n1 : Int) + (n2 : Int)) = (n1 : Int) + (n2 : Int) := IntWalk.i64_in _ (by omega)
  have hw2 : IntKind.i64.wrap ((n1 : Int) + (n2 : Int) + (nc : Int)) = (n1 : Int) + (n2 : Int) + (nc : Int) := IntWalk.i64_in _ (by omega)
  have hle : (n1 : Int) + (n2 : Int) + (nc : Int) ≤ 200 := by omega
  have m1 : True := trivial
  obtain ⟨v, hv⟩ : ∃ v, hashV l cs = v := ⟨_, rfl⟩
  have HV := Lib.hid hv
  have HP : Hid (hashV (pickL l cs) (upI nc) = v) := Lib.hid (by rw [E3.out, hash_pick K1.out]; exact hv)
  have EP : Hid (nc = (pickL l cs).length) := Lib.hid (by rw [pickL_len]; exact E3.out)
  have EU : Hid (nc = (upI nc).length) := Lib.hid (upI_len nc).symm
  have TP : Hid (RwInt (pickL l cs)) := Lib.hid (fun d hd => T1.out d (pickL_mem K1.out hd))
  have ZP : Hid (TxtUp (pickL l cs)) := Lib.hid (fun d hd => Z1.out d (pickL_mem K1.out hd))
  clear hv
  go_enter Tryd.func8, Tryd.ntmps8
  go_wp2_with (first
    | (have z := m1; clear z m1; go_at_call 26; go_loud (refine (pick_yes A1 C c1 cc n1 nc l cs _ E1 E3 H1 H3 K1).mono ?_; rintro e w1 ⟨x1, pA, pc, rfl, pr⟩; have X1 := Lib.hid x1; have PR := Lib.hid pr; clear x1 pr; have m2 : True := trivial))
    | (have z := m2; clear z m2; go_at_call 26; go_loud (refine (pick_no A2 C c2 cc n2 nc m cs _ E2 E3 (Lib.hid (H2.out.ext X1.out)) (Lib.hid (H3.out.ext X1.out)) K2).mono ?_; rintro e w2 ⟨rfl, x2⟩; have X2 := Lib.hid (X1.out.trans x2); have PR2 := Lib.hid (PR.out.ext x2); clear x2; have m3 : True := trivial))
    | fail)
  go_loopg [11, 12] nc (fun z u v wr => ∃ (i c0 : Nat) (A0 : Option Addr), z = nc - i ∧ i ≤ nc ∧ v = .int .i64 i ∧ u = .slice A0 i c0 ∧ Hid (Own wr w2.heap.size 3 1 A0 i c0 (ints (upI i))) ∧ Ext w2 wr)
  case atStart => exact ⟨0, 0, none, by omega, Nat.zero_le _, rfl, rfl, Lib.hid (by exact Own.nil _ _ _ _), Ext.refl w2⟩
  case round =>
    obtain ⟨i, c0, A0, rfl, hi1, rfl, rfl, HO, er⟩ := hrel
    have ER := Lib.hid er
    clear er
    by_cases hlt : i < nc
    · go_wp2_with (at_builtin; go_loud (refine wpList_append_two _ elem_int w2.heap.size _ _ rfl rfl A0 i c0 (ints (upI i)) rfl (HO.out.alloc _) _ 1 1 [.int .i64 i] rfl (Sl.one _ _ _ 1 rfl) (by intro u hu; rw [List.mem_singleton] at hu; subst hu; rfl) (by omega) (by decide) (by have := ER.out.size; simp; omega) ?_; intro A3 k3 w3 o3 g3 x3; clear x3; have O3 := Lib.hid o3; have X3 : Hid (Ext w2 w3) := Lib.hid ((ER.out.alloc _).grown g3 (fun k e => (HO.out.lt k e).1)); clear o3 g3))
      go_roundg (nc - (i + 1))
      case measure => omega
      case rel => exact ⟨i + 1, k3, A3, rfl, by omega, by go_num, rfl, Lib.hid (by have := O3.out; rw [upI_succ]; unfold ints at this ⊢; rw [List.map_append]; exact this), X3.out⟩
    · obtain rfl : i = nc := by omega
      obtain ⟨w3, hw3⟩ : ∃ w3 : World, w3 = wr := ⟨_, rfl⟩
      rw [← hw3] at HO ER ⊢
      clear hw3
      have X3 := Lib.hid (X2.out.trans ER.out)
      have R1 := Lib.hid (H1.out.ext X3.out)
      have R2 := Lib.hid (H2.out.ext X3.out)
      have R3 := Lib.hid (H3.out.ext X3.out)
      have RP := Lib.hid (PR2.out.ext ER.out)
      have RU : Hid (Is w3 A0 c0 (upI i)) := Lib.hid (by have := HO.out.sl; unfold Is; rw [upI_len]; exact this)
      have m11 : True := trivial
      go_wp2_with (first
        | (have z := m11; clear z m11; go_at_call 27; go_loud (refine (hash_lit v A1 C c1 cc n1 i l cs _ HV E1 E3 R1 R3 T1 Z1).mono ?_; rintro e w4 ⟨rfl, x4⟩; have X4 := Lib.hid x4; have m12 : True := trivial))
        | (have z := m12; clear z m12; go_at_call 27; go_loud (refine (hash_lit v pA A0 pc c0 i i (pickL l cs) (upI i) _ HP EP EU (Lib.hid (RP.out.ext x4)) (Lib.hid (RU.out.ext x4)) TP ZP).mono ?_; rintro e w5 ⟨rfl, x5⟩; have X5 := Lib.hid (X4.out.trans x5); have m13 : True := trivial))
        | (have z := m13; clear z m13; go_at_call 13; go_loud (refine (known_true _ (G.ext (X3.out.trans X5.out))).mono ?_; rintro e w6 ⟨rfl, x6⟩; have X6 := Lib.hid (X5.out.trans x6); have m14 : True := trivial))
        | fail)
      go_ret
      exact ⟨rfl, X3.out.trans X6.out⟩
include E1 E2 E3 H1 H2 H3 G T1 Z1 in
set_option maxRecDepth 100000 in
set_option maxHeartbeats 8000000 in
theorem hashes_yv (h200 : n1 + n2 + nc ≤ 200) (K1 : Hid (pickOk l cs)) (K2 : Hid (pickOk m cs)) (u : Int) (hu : (u != 0) = true) (HU : Hid (cmpR (pickL l cs) (pickL m cs) = u)) : Calls Tryd.prog 8 #[.slice A1 n1 c1, .slice A2 n2 c2, .slice C nc cc] w fun e w' => e = .returned (.bool true) ∧ Ext w w' := by
  have b1 : n1 ≤ 200 := by omega
  have b2 : n2 ≤ 200 := by omega
  have b3 : nc ≤ 200 := by omega
  have hw1 : IntKind.i64.wrap ((n1 : Int) + (n2 : Int)) = (n1 : Int) + (n2 : Int) := IntWalk.i64_in _ (by omega)
  have hw2 : IntKind.i64.wrap ((n1 : Int) + (n2 : Int) + (nc : Int)) = (n1 : Int) + (n2 : Int) + (nc : Int) := IntWalk.i64_in _ (by omega)
  have hle : (n1 : Int) + (n2 : Int) + (nc : Int) ≤ 200 := by omega
  have m1 : True := trivial
  obtain ⟨v, hv⟩ : ∃ v, hashV l cs = v := ⟨_, rfl⟩
  have HV := Lib.hid hv
  have HP : Hid (hashV (pickL l cs) (upI nc) = v) := Lib.hid (by rw [E3.out, hash_pick K1.out]; exact hv)
  have EP : Hid (nc = (pickL l cs).length) := Lib.hid (by rw [pickL_len]; exact E3.out)
  have EU : Hid (nc = (upI nc).length) := Lib.hid (upI_len nc).symm
  have TP : Hid (RwInt (pickL l cs)) := Lib.hid (fun d hd => T1.out d (pickL_mem K1.out hd))
  have ZP : Hid (TxtUp (pickL l cs)) := Lib.hid (fun d hd => Z1.out d (pickL_mem K1.out hd))
  have EQ : Hid (nc = (pickL m cs).length) := Lib.hid (by rw [pickL_len]; exact E3.out)
  clear hv
  go_enter Tryd.func8, Tryd.ntmps8
  go_wp2_with (first
    | (have z := m1; clear z m1; go_at_call 26; go_loud (refine (pick_yes A1 C c1 cc n1 nc l cs _ E1 E3 H1 H3 K1).mono ?_; rintro e w1 ⟨x1, pA, pc, rfl, pr⟩; have X1 := Lib.hid x1; have PR := Lib.hid pr; clear x1 pr; have m2 : True := trivial))
    | (have z := m2; clear z m2; go_at_call 26; go_loud (refine (pick_yes A2 C c2 cc n2 nc m cs _ E2 E3 (Lib.hid (H2.out.ext X1.out)) (Lib.hid (H3.out.ext X1.out)) K2).mono ?_; rintro e w2 ⟨x2, qA, qc, rfl, qr⟩; have X2 := Lib.hid (X1.out.trans x2); have QR := Lib.hid qr; have PR2 := Lib.hid (PR.out.ext x2); clear x2 qr; have m3 : True := trivial))
    | fail)
  go_loopg [11, 12] nc (fun z u v wr => ∃ (i c0 : Nat) (A0 : Option Addr), z = nc - i ∧ i ≤ nc ∧ v = .int .i64 i ∧ u = .slice A0 i c0 ∧ Hid (Own wr w2.heap.size 3 1 A0 i c0 (ints (upI i))) ∧ Ext w2 wr)
  case atStart => exact ⟨0, 0, none, by omega, Nat.zero_le _, rfl, rfl, Lib.hid (by exact Own.nil _ _ _ _), Ext.refl w2⟩
  case round =>
    obtain ⟨i, c0, A0, rfl, hi1, rfl, rfl, HO, er⟩ := hrel
    have ER := Lib.hid er
    clear er
    by_cases hlt : i < nc
    · go_wp2_with (at_builtin; go_loud (refine wpList_append_two _ elem_int w2.heap.size _ _ rfl rfl A0 i c0 (ints (upI i)) rfl (HO.out.alloc _) _ 1 1 [.int .i64 i] rfl (Sl.one _ _ _ 1 rfl) (by intro u hu; rw [List.mem_singleton] at hu; subst hu; rfl) (by omega) (by decide) (by have := ER.out.size; simp; omega) ?_; intro A3 k3 w3 o3 g3 x3; clear x3; have O3 := Lib.hid o3; have X3 : Hid (Ext w2 w3) := Lib.hid ((ER.out.alloc _).grown g3 (fun k e => (HO.out.lt k e).1)); clear o3 g3))
      go_roundg (nc - (i + 1))
      case measure => omega
      case rel => exact ⟨i + 1, k3, A3, rfl, by omega, by go_num, rfl, Lib.hid (by have := O3.out; rw [upI_succ]; unfold ints at this ⊢; rw [List.map_append]; exact this), X3.out⟩
    · obtain rfl : i = nc := by omega
      obtain ⟨w3, hw3⟩ : ∃ w3 : World, w3 = wr := ⟨_, rfl⟩
      rw [← hw3] at HO ER ⊢
      clear hw3
      have X3 := Lib.hid (X2.out.trans ER.out)
      have R1 := Lib.hid (H1.out.ext X3.out)
      have R2 := Lib.hid (H2.out.ext X3.out)
      have R3 := Lib.hid (H3.out.ext X3.out)
      have RP := Lib.hid (PR2.out.ext ER.out)
      have RQ := Lib.hid (QR.out.ext ER.out)
      have RU : Hid (Is w3 A0 c0 (upI i)) := Lib.hid (by have := HO.out.sl; unfold Is; rw [upI_len]; exact this)
      have m11 : True := trivial
      go_wp2_with (first
        | (have z := m11; clear z m11; go_at_call 27; go_loud (refine (hash_lit v A1 C c1 cc n1 i l cs _ HV E1 E3 R1 R3 T1 Z1).mono ?_; rintro e w4 ⟨rfl, x4⟩; have X4 := Lib.hid x4; have m12 : True := trivial))
        | (have z := m12; clear z m12; go_at_call 27; go_loud (refine (hash_lit v pA A0 pc c0 i i (pickL l cs) (upI i) _ HP EP EU (Lib.hid (RP.out.ext x4)) (Lib.hid (RU.out.ext x4)) TP ZP).mono ?_; rintro e w5 ⟨rfl, x5⟩; have X5 := Lib.hid (X4.out.trans x5); have m13 : True := trivial))
        | (have z := m13; clear z m13; go_at_call 13; go_loud (refine (known_true _ (G.ext (X3.out.trans X5.out))).mono ?_; rintro e w6 ⟨rfl, x6⟩; have X6 := Lib.hid (X5.out.trans x6); have m14 : True := trivial))
        | (have z := m14; clear z m14; go_at_call 14; go_loud (refine (rowCmp_lit (v := u) pA qA pc qc i i (pickL l cs) (pickL m cs) _ HU EP EQ (Lib.hid (RP.out.ext X6.out)) (Lib.hid (RQ.out.ext X6.out))).mono ?_; rintro e w7 ⟨rfl, x7⟩; have X7 := Lib.hid (X6.out.trans x7); have m15 : True := trivial))
        | fail)
      go_ret
      exact ⟨rfl, X3.out.trans X7.out⟩
include E1 E2 E3 H1 H2 H3 G T1 Z1 T2 Z2 in
set_option maxRecDepth 100000 in
set_option maxHeartbeats 8000000 in
theorem hashes_y0 (h200 : n1 + n2 + nc ≤ 200) (K1 : Hid (pickOk l cs)) (K2 : Hid (pickOk m cs)) (HU : Hid (cmpR (pickL l cs) (pickL m cs) = 0)) : Calls Tryd.prog 8 #[.slice A1 n1 c1, .slice A2 n2 c2, .slice C nc cc] w fun e w' => e = .returned (.bool true) ∧ Ext w w' := by
  have b1 : n1 ≤ 200 := by omega
  have b2 : n2 ≤ 200 := by omega
  have b3 : nc ≤ 200 := by omega
  have hw1 : IntKind.i64.wrap ((n1 : Int) + (n2 : Int)) = (n1 : Int) + (n2 : Int) := IntWalk.i64_in _ (by omega)
  have hw2 : IntKind.i64.wrap ((n1 : Int) + (n2 : Int) + (nc : Int)) = (n1 : Int) + (n2 : Int) + (nc : Int) := IntWalk.i64_in _ (by omega)
  have hle : (n1 : Int) + (n2 : Int) + (nc : Int) ≤ 200 := by omega
  have m1 : True := trivial
  obtain ⟨v, hv⟩ : ∃ v, hashV l cs = v := ⟨_, rfl⟩
  have HV := Lib.hid hv
  have HP : Hid (hashV (pickL l cs) (upI nc) = v) := Lib.hid (by rw [E3.out, hash_pick K1.out]; exact hv)
  have EP : Hid (nc = (pickL l cs).length) := Lib.hid (by rw [pickL_len]; exact E3.out)
  have EU : Hid (nc = (upI nc).length) := Lib.hid (upI_len nc).symm
  have TP : Hid (RwInt (pickL l cs)) := Lib.hid (fun d hd => T1.out d (pickL_mem K1.out hd))
  have ZP : Hid (TxtUp (pickL l cs)) := Lib.hid (fun d hd => Z1.out d (pickL_mem K1.out hd))
  have EQ : Hid (nc = (pickL m cs).length) := Lib.hid (by rw [pickL_len]; exact E3.out)
  have HW : Hid (hashV m cs = v) := Lib.hid (by rw [← hash_same K1.out K2.out HU.out]; exact hv)
  clear hv
  go_enter Tryd.func8, Tryd.ntmps8
  go_wp2_with (first
    | (have z := m1; clear z m1; go_at_call 26; go_loud (refine (pick_yes A1 C c1 cc n1 nc l cs _ E1 E3 H1 H3 K1).mono ?_; rintro e w1 ⟨x1, pA, pc, rfl, pr⟩; have X1 := Lib.hid x1; have PR := Lib.hid pr; clear x1 pr; have m2 : True := trivial))
    | (have z := m2; clear z m2; go_at_call 26; go_loud (refine (pick_yes A2 C c2 cc n2 nc m cs _ E2 E3 (Lib.hid (H2.out.ext X1.out)) (Lib.hid (H3.out.ext X1.out)) K2).mono ?_; rintro e w2 ⟨x2, qA, qc, rfl, qr⟩; have X2 := Lib.hid (X1.out.trans x2); have QR := Lib.hid qr; have PR2 := Lib.hid (PR.out.ext x2); clear x2 qr; have m3 : True := trivial))
    | fail)
  go_loopg [11, 12] nc (fun z u v wr => ∃ (i c0 : Nat) (A0 : Option Addr), z = nc - i ∧ i ≤ nc ∧ v = .int .i64 i ∧ u = .slice A0 i c0 ∧ Hid (Own wr w2.heap.size 3 1 A0 i c0 (ints (upI i))) ∧ Ext w2 wr)
  case atStart => exact ⟨0, 0, none, by omega, Nat.zero_le _, rfl, rfl, Lib.hid (by exact Own.nil _ _ _ _), Ext.refl w2⟩
  case round =>
    obtain ⟨i, c0, A0, rfl, hi1, rfl, rfl, HO, er⟩ := hrel
    have ER := Lib.hid er
    clear er
    by_cases hlt : i < nc
    · go_wp2_with (at_builtin; go_loud (refine wpList_append_two _ elem_int w2.heap.size _ _ rfl rfl A0 i c0 (ints (upI i)) rfl (HO.out.alloc _) _ 1 1 [.int .i64 i] rfl (Sl.one _ _ _ 1 rfl) (by intro u hu; rw [List.mem_singleton] at hu; subst hu; rfl) (by omega) (by decide) (by have := ER.out.size; simp; omega) ?_; intro A3 k3 w3 o3 g3 x3; clear x3; have O3 := Lib.hid o3; have X3 : Hid (Ext w2 w3) := Lib.hid ((ER.out.alloc _).grown g3 (fun k e => (HO.out.lt k e).1)); clear o3 g3))
      go_roundg (nc - (i + 1))
      case measure => omega
      case rel => exact ⟨i + 1, k3, A3, rfl, by omega, by go_num, rfl, Lib.hid (by have := O3.out; rw [upI_succ]; unfold ints at this ⊢; rw [List.map_append]; exact this), X3.out⟩
    · obtain rfl : i = nc := by omega
      obtain ⟨w3, hw3⟩ : ∃ w3 : World, w3 = wr := ⟨_, rfl⟩
      rw [← hw3] at HO ER ⊢
      clear hw3
      have X3 := Lib.hid (X2.out.trans ER.out)
      have R1 := Lib.hid (H1.out.ext X3.out)
      have R2 := Lib.hid (H2.out.ext X3.out)
      have R3 := Lib.hid (H3.out.ext X3.out)
      have RP := Lib.hid (PR2.out.ext ER.out)
      have RQ := Lib.hid (QR.out.ext ER.out)
      have RU : Hid (Is w3 A0 c0 (upI i)) := Lib.hid (by have := HO.out.sl; unfold Is; rw [upI_len]; exact this)
      have m11 : True := trivial
      go_wp2_with (first
        | (have z := m11; clear z m11; go_at_call 27; go_loud (refine (hash_lit v A1 C c1 cc n1 i l cs _ HV E1 E3 R1 R3 T1 Z1).mono ?_; rintro e w4 ⟨rfl, x4⟩; have X4 := Lib.hid x4; have m12 : True := trivial))
        | (have z := m12; clear z m12; go_at_call 27; go_loud (refine (hash_lit v pA A0 pc c0 i i (pickL l cs) (upI i) _ HP EP EU (Lib.hid (RP.out.ext x4)) (Lib.hid (RU.out.ext x4)) TP ZP).mono ?_; rintro e w5 ⟨rfl, x5⟩; have X5 := Lib.hid (X4.out.trans x5); have m13 : True := trivial))
        | (have z := m13; clear z m13; go_at_call 13; go_loud (refine (known_true _ (G.ext (X3.out.trans X5.out))).mono ?_; rintro e w6 ⟨rfl, x6⟩; have X6 := Lib.hid (X5.out.trans x6); have m14 : True := trivial))
        | (have z := m14; clear z m14; go_at_call 14; go_loud (refine (rowCmp_lit (v := 0) pA qA pc qc i i (pickL l cs) (pickL m cs) _ HU EP EQ (Lib.hid (RP.out.ext X6.out)) (Lib.hid (RQ.out.ext X6.out))).mono ?_; rintro e w7 ⟨rfl, x7⟩; have X7 := Lib.hid (X6.out.trans x7); have m15 : True := trivial))
        | (have z := m15; clear z m15; go_at_call 27; go_loud (refine (hash_lit v A1 C c1 cc n1 i l cs _ HV E1 E3 (Lib.hid (R1.out.ext X7.out)) (Lib.hid (R3.out.ext X7.out)) T1 Z1).mono ?_; rintro e w8 ⟨rfl, x8⟩; have X8 := Lib.hid (X7.out.trans x8); have m16 : True := trivial))
        | (have z := m16; clear z m16; go_at_call 27; go_loud (refine (hash_lit v A2 C c2 cc n2 i m cs _ HW E2 E3 (Lib.hid (R2.out.ext X8.out)) (Lib.hid (R3.out.ext X8.out)) T2 Z2).mono ?_; rintro e w9 ⟨rfl, x9⟩; have X9 := Lib.hid (X8.out.trans x9); have m17 : True := trivial))
        | fail)
      go_ret
      exact ⟨rfl, X3.out.trans X9.out⟩
end
theorem rowhash_any (A1 A2 C : Option Addr) (c1 c2 cc : Nat) (l m : List Dat) (cs : List Int) (w : World) (h1 : Rw w A1 c1 l) (h2 : Rw w A2 c2 m) (h3 : Is w C cc cs) (t1 : RwInt l) (t2 : RwInt m) (z1 : TxtUp l) (z2 : TxtUp m) (b1 : l.length ≤ 2000000) (b2 : m.length ≤ 2000000) (b3 : cs.length ≤ 2000000) (G : Good w) :
    Calls Tryd.prog 8 #[.slice A1 l.length c1, .slice A2 m.length c2, .slice C cs.length cc] w fun e w' => e = .returned (.bool true) ∧ Ext w w' := by
  have E1 : Hid (l.length = l.length) := Lib.hid rfl
  have E2 : Hid (m.length = m.length) := Lib.hid rfl
  have E3 : Hid (cs.length = cs.length) := Lib.hid rfl
  have H1 := Lib.hid h1
  have H2 := Lib.hid h2
  have H3 := Lib.hid h3
  by_cases h : l.length + m.length + cs.length ≤ 200
  · by_cases k1 : pickOk l cs
    · by_cases k2 : pickOk m cs
      · by_cases hz : cmpR (pickL l cs) (pickL m cs) = 0
        · exact hashes_y0 A1 A2 C c1 c2 cc _ _ _ l m cs w E1 E2 E3 H1 H2 H3 (Lib.hid t1) (Lib.hid t2) (Lib.hid z1) (Lib.hid z2) G h (Lib.hid k1) (Lib.hid k2) (Lib.hid hz)
        · exact hashes_yv A1 A2 C c1 c2 cc _ _ _ l m cs w E1 E2 E3 H1 H2 H3 (Lib.hid t1) (Lib.hid z1) G h (Lib.hid k1) (Lib.hid k2) _ (by simpa using hz) (Lib.hid rfl)
      · exact hashes_yn A1 A2 C c1 c2 cc _ _ _ l m cs w E1 E2 E3 H1 H2 H3 (Lib.hid t1) (Lib.hid z1) G h (Lib.hid k1) (Lib.hid k2)
    · by_cases k2 : pickOk m cs
      · exact hashes_ny A1 A2 C c1 c2 cc _ _ _ l m cs w E1 E2 E3 H1 H2 H3 G h (Lib.hid k1) (Lib.hid k2)
      · exact hashes_nn A1 A2 C c1 c2 cc _ _ _ l m cs w E1 E2 E3 H1 H2 H3 G h (Lib.hid k1) (Lib.hid k2)
  · exact hashes_a A1 A2 C c1 c2 cc _ _ _ w b1 b2 b3 G (by omega)
end Go.Proofs.YtngeioghihbkeaaDoor
