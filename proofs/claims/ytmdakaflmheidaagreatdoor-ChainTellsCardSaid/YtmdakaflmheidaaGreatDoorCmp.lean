/- cmp.Compare, cmp.Or, slices.Compare at counters, stamp.Cmp: what they answer. Conditions: the slices are as readings give them. -/
import Derived.Test.YtmdakaflmheidaaGreatDoorSmallA
namespace Go.Proofs.YtmdakaflmheidaaGreatDoor
open Go.RowKit

def cmpT (x y : Int) : Int := if x < y then -1 else if y < x then 1 else 0
theorem cmpT_lt {x y : Int} (h : x < y) : cmpT x y = -1 := by unfold cmpT; rw [if_pos h]
theorem cmpT_gt {x y : Int} (h : y < x) : cmpT x y = 1 := by unfold cmpT; rw [if_neg (by omega), if_pos h]
theorem cmpT_self (x : Int) : cmpT x x = 0 := by unfold cmpT; rw [if_neg (by omega), if_neg (by omega)]

set_option maxRecDepth 100000 in
set_option maxHeartbeats 400000 in
theorem nan_int (x : Int) (w : World) : Calls Tryz.prog 95 #[.int .i64 x] w fun e w' => e = .returned (.bool false) ∧ w = w' := by
  have h : (x != x) = false := by simp
  go_enter Tryz.func95, Tryz.ntmps95
  go_wp2
  go_ret
  exact ⟨rfl, rfl⟩
set_option maxRecDepth 100000 in
set_option maxHeartbeats 400000 in
theorem nan_u64 (x : Int) (w : World) : Calls Tryz.prog 96 #[.int .u64 x] w fun e w' => e = .returned (.bool false) ∧ w = w' := by
  have h : (x != x) = false := by simp
  go_enter Tryz.func96, Tryz.ntmps96
  go_wp2
  go_ret
  exact ⟨rfl, rfl⟩
set_option maxRecDepth 100000 in
set_option maxHeartbeats 400000 in
theorem nan_u32 (x : Int) (w : World) : Calls Tryz.prog 122 #[.int .u32 x] w fun e w' => e = .returned (.bool false) ∧ w = w' := by
  have h : (x != x) = false := by simp
  go_enter Tryz.func122, Tryz.ntmps122
  go_wp2
  go_ret
  exact ⟨rfl, rfl⟩
set_option maxRecDepth 100000 in
set_option maxHeartbeats 400000 in
theorem compare_int (x y : Int) (w : World) : Calls Tryz.prog 78 #[.int .i64 x, .int .i64 y] w fun e w' => e = .returned (.int .i64 (cmpT x y)) ∧ w = w' := by
  rcases Int.lt_trichotomy x y with h | h | h
  · rw [cmpT_lt h]
    go_enter Tryz.func78, Tryz.ntmps78
    go_wp2_with (refine (nan_int _ _).mono ?_; rintro e w1 ⟨rfl, rfl⟩)
    go_ret
    exact ⟨rfl, rfl⟩
  · subst h
    rw [cmpT_self]
    go_enter Tryz.func78, Tryz.ntmps78
    go_wp2_with (refine (nan_int _ _).mono ?_; rintro e w1 ⟨rfl, rfl⟩)
    go_ret
    exact ⟨rfl, rfl⟩
  · rw [cmpT_gt h]
    go_enter Tryz.func78, Tryz.ntmps78
    go_wp2_with (refine (nan_int _ _).mono ?_; rintro e w1 ⟨rfl, rfl⟩)
    go_ret
    exact ⟨rfl, rfl⟩
set_option maxRecDepth 100000 in
set_option maxHeartbeats 400000 in
theorem compare_u64 (x y : Int) (w : World) : Calls Tryz.prog 79 #[.int .u64 x, .int .u64 y] w fun e w' => e = .returned (.int .i64 (cmpT x y)) ∧ w = w' := by
  rcases Int.lt_trichotomy x y with h | h | h
  · rw [cmpT_lt h]
    go_enter Tryz.func79, Tryz.ntmps79
    go_wp2_with (refine (nan_u64 _ _).mono ?_; rintro e w1 ⟨rfl, rfl⟩)
    go_ret
    exact ⟨rfl, rfl⟩
  · subst h
    rw [cmpT_self]
    go_enter Tryz.func79, Tryz.ntmps79
    go_wp2_with (refine (nan_u64 _ _).mono ?_; rintro e w1 ⟨rfl, rfl⟩)
    go_ret
    exact ⟨rfl, rfl⟩
  · rw [cmpT_gt h]
    go_enter Tryz.func79, Tryz.ntmps79
    go_wp2_with (refine (nan_u64 _ _).mono ?_; rintro e w1 ⟨rfl, rfl⟩)
    go_ret
    exact ⟨rfl, rfl⟩
set_option maxRecDepth 100000 in
set_option maxHeartbeats 400000 in
theorem compare_u32 (x y : Int) (w : World) : Calls Tryz.prog 97 #[.int .u32 x, .int .u32 y] w fun e w' => e = .returned (.int .i64 (cmpT x y)) ∧ w = w' := by
  rcases Int.lt_trichotomy x y with h | h | h
  · rw [cmpT_lt h]
    go_enter Tryz.func97, Tryz.ntmps97
    go_wp2_with (refine (nan_u32 _ _).mono ?_; rintro e w1 ⟨rfl, rfl⟩)
    go_ret
    exact ⟨rfl, rfl⟩
  · subst h
    rw [cmpT_self]
    go_enter Tryz.func97, Tryz.ntmps97
    go_wp2_with (refine (nan_u32 _ _).mono ?_; rintro e w1 ⟨rfl, rfl⟩)
    go_ret
    exact ⟨rfl, rfl⟩
  · rw [cmpT_gt h]
    go_enter Tryz.func97, Tryz.ntmps97
    go_wp2_with (refine (nan_u32 _ _).mono ?_; rintro e w1 ⟨rfl, rfl⟩)
    go_ret
    exact ⟨rfl, rfl⟩

/-- lists of counters, the first that differs tells -/
def lexT : List Int → List Int → Int
  | [], [] => 0
  | [], _ :: _ => -1
  | _ :: _, [] => 1
  | x :: l, y :: m => if cmpT x y = 0 then lexT l m else cmpT x y
theorem cmpT_zero {x y : Int} : cmpT x y = 0 ↔ x = y := by
  unfold cmpT
  by_cases h1 : x < y
  · rw [if_pos h1]; omega
  · rw [if_neg h1]
    by_cases h2 : y < x
    · rw [if_pos h2]; omega
    · rw [if_neg h2]; omega

theorem lexT_step : ∀ (k : Nat) (l m : List Int), k < l.length → k < m.length → lexT (l.drop k) (m.drop k) = if cmpT (l.getD k 0) (m.getD k 0) = 0 then lexT (l.drop (k + 1)) (m.drop (k + 1)) else cmpT (l.getD k 0) (m.getD k 0) := by
  intro k l m h1 h2
  rw [List.drop_eq_getElem_cons h1, List.drop_eq_getElem_cons h2]
  simp [lexT, List.getD_eq_getElem?_getD, List.getElem?_eq_getElem h1, List.getElem?_eq_getElem h2]

set_option maxRecDepth 100000 in
set_option maxHeartbeats 400000 in
theorem lex_any (A1 A2 : Option Addr) (n1 n2 c1 c2 : Nat) (l1 l2 : List Int) (w : World) (h1 : Sl w 1 A1 n1 c1 (wds l1)) (h2 : Sl w 1 A2 n2 c2 (wds l2)) :
    Calls Tryz.prog 80 #[.slice A1 n1 c1, .slice A2 n2 c2] w fun e w' => e = .returned (.int .i64 (lexT l1 l2)) ∧ w = w' := by
  have hm1 := h1.le
  have hm2 := h2.le
  have hl1 := Lib.hid h1.wlen
  have hl2 := Lib.hid h2.wlen
  obtain ⟨r, hr⟩ : ∃ r, r = lexT l1 l2 := ⟨_, rfl⟩
  rw [← hr]
  have HR := Lib.hid hr
  clear hr
  go_enter Tryz.func80, Tryz.ntmps80
  go_wp2
  go_loop [11] (fun v => ∃ k : Nat, k ≤ n1 ∧ k ≤ n2 ∧ v = .int .i64 k ∧ r = lexT (l1.drop k) (l2.drop k)) (fun v => n1 - (intOf v).toNat)
  case atStart => exact ⟨0, Nat.zero_le _, Nat.zero_le _, rfl, by simpa using HR.out⟩
  case round =>
    obtain ⟨k, hk1, hk2, rfl, hrk⟩ := hrel
    have RK := Lib.hid hrk
    clear hrk
    by_cases q1 : k < n1
    · obtain ⟨a1, rfl, hc1, _⟩ := h1.word q1
      by_cases q2 : k < n2
      · obtain ⟨a2, rfl, hc2, _⟩ := h2.word q2
        have T := lexT_step k l1 l2 (by rw [hl1.out]; exact q1) (by rw [hl2.out]; exact q2)
        by_cases q3 : cmpT (l1.getD k 0) (l2.getD k 0) = 0
        · rw [if_pos q3] at T
          have HT := Lib.hid T
          have q4 : (cmpT (l1[k]?.getD 0) (l2[k]?.getD 0) != 0) = false := by rw [← List.getD_eq_getElem?_getD, ← List.getD_eq_getElem?_getD, q3]; rfl
          clear T q3
          go_wp2_with (refine (compare_u32 _ _ _).mono ?_; rintro e w1 ⟨rfl, rfl⟩)
          go_round
          case rel => exact ⟨k + 1, by omega, by omega, by go_num, by rw [RK.out, HT.out]⟩
          case measure => simp [intOf]; omega
        · rw [if_neg q3] at T
          have HT := Lib.hid T
          have q4 : (cmpT (l1[k]?.getD 0) (l2[k]?.getD 0) != 0) = true := by simpa [List.getD_eq_getElem?_getD] using q3
          clear T q3
          go_wp2_with (refine (compare_u32 _ _ _).mono ?_; rintro e w1 ⟨rfl, rfl⟩)
          go_ret
          exact ⟨ret_int (by rw [RK.out, HT.out]; simp [List.getD_eq_getElem?_getD]), rfl⟩
      · have e2 : k = n2 := by omega
        have T : lexT (l1.drop k) (l2.drop k) = 1 := by
          rw [List.drop_eq_getElem_cons (show k < l1.length by rw [hl1.out]; exact q1), List.drop_eq_nil_of_le (show l2.length ≤ k by rw [hl2.out]; omega)]; rfl
        have HT := Lib.hid T
        have E2 := Lib.hid e2
        clear T e2
        go_wp2
        go_ret
        exact ⟨ret_int (by rw [RK.out, HT.out]), rfl⟩
    · have e1 : k = n1 := by omega
      have E1 := Lib.hid e1
      clear e1
      by_cases q2 : n1 < n2
      · have T : lexT (l1.drop k) (l2.drop k) = -1 := by
          rw [List.drop_eq_nil_of_le (show l1.length ≤ k by rw [hl1.out]; omega), List.drop_eq_getElem_cons (show k < l2.length by rw [hl2.out, E1.out]; exact q2)]; rfl
        have HT := Lib.hid T
        clear T
        go_wp2
        go_ret
        exact ⟨ret_int (by rw [RK.out, HT.out]), rfl⟩
      · have T : lexT (l1.drop k) (l2.drop k) = 0 := by
          rw [List.drop_eq_nil_of_le (show l1.length ≤ k by rw [hl1.out]; omega), List.drop_eq_nil_of_le (show l2.length ≤ k by rw [hl2.out]; omega)]; rfl
        have HT := Lib.hid T
        clear T
        go_wp2
        go_ret
        exact ⟨ret_int (by rw [RK.out, HT.out]), rfl⟩

/-- the first of three that is not 0 -/
def orT (x y z : Int) : Int := if x = 0 then (if y = 0 then z else y) else x
set_option maxRecDepth 100000 in
set_option maxHeartbeats 600000 in
theorem or_any (g : Nat) (t : TypeId) (x y z : Int) (w : World) (hb : Bk w g t #[.int .i64 x, .int .i64 y, .int .i64 z]) :
    Calls Tryz.prog 77 #[.slice (some ⟨g, 0, none⟩) 3 3] w fun e w' => e = .returned (.int .i64 (orT x y z)) ∧ Ext w w' := by
  have hx : w.cell? ⟨g, 0, none⟩ = some (.int .i64 x) := hb.cell 0
  have hy : w.cell? ⟨g, 1, none⟩ = some (.int .i64 y) := hb.cell 1
  have hz : w.cell? ⟨g, 2, none⟩ = some (.int .i64 z) := hb.cell 2
  obtain ⟨r, hr⟩ : ∃ r, r = orT x y z := ⟨_, rfl⟩
  rw [← hr]
  have HR := Lib.hid hr
  clear hr
  go_enter Tryz.func77, Tryz.ntmps77
  go_wp2
  go_loop [8] (fun v => ∃ k : Nat, k ≤ 3 ∧ v = .int .i64 k ∧ (0 < k → x = 0) ∧ (1 < k → y = 0) ∧ (2 < k → z = 0)) (fun v => 3 - (intOf v).toNat)
  case atStart => exact ⟨0, by omega, rfl, by omega, by omega, by omega⟩
  case round =>
    obtain ⟨k, hk, rfl, k0, k1, k2⟩ := hrel
    have K0 := Lib.hid k0
    have K1 := Lib.hid k1
    have K2 := Lib.hid k2
    clear k0 k1 k2
    match k, hk with
    | 0, _ =>
      by_cases q : x = 0
      · have q' : (x != 0) = false := by simpa using q
        have Q := Lib.hid q
        clear q
        go_wp2
        go_round
        case rel => exact ⟨1, by omega, rfl, fun _ => Q.out, by omega, by omega⟩
        case measure => simp [intOf]
      · have q' : (x != 0) = true := by simpa using q
        go_wp2
        go_ret
        exact ⟨ret_int (by rw [HR.out]; simp [orT, q]), Ext.refl _⟩
    | 1, _ =>
      by_cases q : y = 0
      · have q' : (y != 0) = false := by simpa using q
        have Q := Lib.hid q
        clear q
        go_wp2
        go_round
        case rel => exact ⟨2, by omega, rfl, fun _ => K0.out (by omega), fun _ => Q.out, by omega⟩
        case measure => simp [intOf]
      · have q' : (y != 0) = true := by simpa using q
        go_wp2
        go_ret
        exact ⟨ret_int (by rw [HR.out]; simp [orT, q, K0.out (by omega)]), Ext.refl _⟩
    | 2, _ =>
      by_cases q : z = 0
      · have q' : (z != 0) = false := by simpa using q
        have Q := Lib.hid q
        clear q
        go_wp2
        go_round
        case rel => exact ⟨3, by omega, rfl, fun _ => K0.out (by omega), fun _ => K1.out (by omega), fun _ => Q.out⟩
        case measure => simp [intOf]
      · have q' : (z != 0) = true := by simpa using q
        go_wp2
        go_ret
        exact ⟨ret_int (by rw [HR.out]; simp [orT, K1.out (by omega), K0.out (by omega)]), Ext.refl _⟩
    | 3, _ =>
      go_wp2
      go_ret
      exact ⟨ret_int (by rw [HR.out]; simp [orT, K1.out (by omega), K0.out (by omega), K2.out (by omega)]), Ext.refl _⟩
    | k + 4, hk => omega

/-! ### stamp.Cmp -/
def cmpTT (e1 : Int) (l1 : List Int) (e2 : Int) (l2 : List Int) : Int := orT (cmpT l1.length l2.length) (cmpT e1 e2) (lexT l1 l2)
set_option maxRecDepth 100000 in
set_option maxHeartbeats 800000 in
theorem cmp_any (e1 e2 : Int) (A1 A2 : Option Addr) (n1 n2 c1 c2 : Nat) (l1 l2 : List Int) (w : World) (h1 : Sl w 1 A1 n1 c1 (wds l1)) (h2 : Sl w 1 A2 n2 c2 (wds l2)) :
    Calls Tryz.prog 40 #[.agg #[.int .u64 e1, .slice A1 n1 c1], .agg #[.int .u64 e2, .slice A2 n2 c2]] w fun e w' => e = .returned (.int .i64 (cmpTT e1 l1 e2 l2)) ∧ Ext w w' := by
  have hR : cmpTT e1 l1 e2 l2 = orT (cmpT n1 n2) (cmpT e1 e2) (lexT l1 l2) := by unfold cmpTT; rw [h1.wlen, h2.wlen]
  rw [hR]
  clear hR
  go_enter Tryz.func40, Tryz.ntmps40
  go_upto_region 1 with fail
  obtain ⟨w0, hw0⟩ : ∃ w0, w0 = (w.alloc (Obj.cells #[Value.int IntKind.u64 e1, Value.slice A1 n1 c1] 26)).alloc (Obj.cells #[Value.int IntKind.u64 e2, Value.slice A2 n2 c2] 26) := ⟨_, rfl⟩
  have x0 : Ext w w0 := hw0 ▸ ((Ext.refl w).alloc _).alloc _
  have a0 : Bk w0 w.heap.size 26 #[Value.int IntKind.u64 e1, Value.slice A1 n1 c1] := by subst hw0; exact (Bk.new _ _ _).alloc _
  have b0 : Bk w0 (w.heap.size + 1) 26 #[Value.int IntKind.u64 e2, Value.slice A2 n2 c2] := by subst hw0; exact Bk.at (by simp)
  rw [← hw0]
  clear hw0
  have X : Ext w0 w0.drew := (Ext.refl w0).drew
  have q1 : ∀ y : Xt w0.drew, y.W.cell? ⟨w.heap.size, 0, none⟩ = some (.int .u64 e1) := fun y => (a0.ext (X.trans y.x)).cell 0
  have q2 : ∀ y : Xt w0.drew, y.W.cell? ⟨w.heap.size, 1, none⟩ = some (.slice A1 n1 c1) := fun y => (a0.ext (X.trans y.x)).cell 1
  have q3 : ∀ y : Xt w0.drew, y.W.cell? ⟨w.heap.size + 1, 0, none⟩ = some (.int .u64 e2) := fun y => (b0.ext (X.trans y.x)).cell 0
  have q4 : ∀ y : Xt w0.drew, y.W.cell? ⟨w.heap.size + 1, 1, none⟩ = some (.slice A2 n2 c2) := fun y => (b0.ext (X.trans y.x)).cell 1
  refine wp_region_ord [0,1,3,0,8,24,63,0,128,0,512,2047,0,4096,0,16384,65535,131071,262143,524287] (.flo [0,1,2,3,4,5,7,8,9,10,12,13,14,15] (.ext 6 (.ext 11 (.one 16 (.one 17 (.one 18 (.flo [19] (.fin)))))))) (by kernel_rfl) (by kernel_rfl) (by intro _ _ d _ _ h; cases d <;> exact h) ?_
  (refine ord_flo (pick_cons rfl (pick_cons rfl (pick_cons rfl (pick_cons rfl (pick_cons rfl (pick_cons rfl (pick_cons rfl (pick_cons rfl (pick_cons rfl (pick_cons rfl (pick_cons rfl (pick_cons rfl (pick_cons rfl (pick_cons rfl pick_nil)))))))))))))) ?_; (repeat (go_big_quiet_step (fail))); refine wpQuiet_nil ?_; show ordWalk _ _ _ _ _ _ _)
  refine ord_ext (pick_cons rfl pick_nil) ?_; intro K_ hK_
  go_wp2_with (refine (compare_int _ _ _).mono ?_; rintro e w1 ⟨rfl, rfl⟩)
  refine ordNext.mk (Ext.refl _) ?_
  refine ord_ext (pick_cons rfl pick_nil) ?_; intro K_ hK_
  go_wp2_with (refine (compare_u64 _ _ _).mono ?_; rintro e w1 ⟨rfl, rfl⟩)
  refine ordNext.mk (Ext.refl _) ?_
  refine ord_one (pick_cons rfl pick_nil) ?_; intro K_ hK_
  go_wp2_with (refine (lex_any _ _ _ _ _ _ _ _ _ (h1.ext (x0.trans X)) (h2.ext (x0.trans X))).mono ?_; rintro e w1 ⟨rfl, rfl⟩)
  refine ord_one (pick_cons rfl pick_nil) ?_; intro K_ hK_
  go_wp2
  refine ord_one (pick_cons rfl pick_nil) ?_; intro K_ hK_
  go_wp2_with (refine (or_any _ _ _ _ _ _ (by exact (Bk.at (by simp)).drew)).mono ?_; rintro e w1 ⟨rfl, x1⟩)
  (refine ord_flo (pick_cons rfl pick_nil) ?_; (repeat (go_big_quiet_step (fail))); refine wpQuiet_nil ?_; show ordWalk _ _ _ _ _ _ _)
  refine ord_fin ?_
  go_wp2
  go_ret
  exact ⟨rfl, ((x0.trans X).alloc _).trans x1⟩
end Go.Proofs.YtmdakaflmheidaaGreatDoor
