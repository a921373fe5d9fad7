/- cmp.Compare at kinds, ints and numbers: what they answer. datum.Cmp: what it answers of any two data. Conditions: each theorem states its own. -/
import Derived.Test.YtngeioghihbkeaaDoorDDat
import Derived.Test.YtngeioghihbkeaaDoorOrd
namespace Go.Proofs.YtngeioghihbkeaaDoor
open Go.RowKit

def cmpT (x y : Int) : Int := if x < y then -1 else if y < x then 1 else 0
theorem cmpT_lt {x y : Int} (h : x < y) : cmpT x y = -1 := by unfold cmpT; rw [if_pos h]
theorem cmpT_gt {x y : Int} (h : y < x) : cmpT x y = 1 := by unfold cmpT; rw [if_neg (by omega), if_pos h]
theorem cmpT_self (x : Int) : cmpT x x = 0 := by unfold cmpT; rw [if_neg (by omega), if_neg (by omega)]

set_option maxRecDepth 100000 in
set_option maxHeartbeats 400000 in
theorem nan_kind (x : Int) (w : World) : Calls Tryd.prog 124 #[.int .u8 x] w fun e w' => e = .returned (.bool false) ∧ w = w' := by
  have h : (x != x) = false := by simp
  go_enter Tryd.func124, Tryd.ntmps124
  go_wp2
  go_ret
  exact ⟨rfl, rfl⟩
set_option maxRecDepth 100000 in
set_option maxHeartbeats 400000 in
theorem compare_kind (x y : Int) (w : World) : Calls Tryd.prog 91 #[.int .u8 x, .int .u8 y] w fun e w' => e = .returned (.int .i64 (cmpT x y)) ∧ w = w' := by
  rcases Int.lt_trichotomy x y with h | h | h
  · rw [cmpT_lt h]
    go_enter Tryd.func91, Tryd.ntmps91
    go_wp2_with (go_at_call 124; refine (nan_kind _ _).mono ?_; rintro e w1 ⟨rfl, rfl⟩)
    go_ret
    exact ⟨rfl, rfl⟩
  · subst h
    rw [cmpT_self]
    go_enter Tryd.func91, Tryd.ntmps91
    go_wp2_with (go_at_call 124; refine (nan_kind _ _).mono ?_; rintro e w1 ⟨rfl, rfl⟩)
    go_ret
    exact ⟨rfl, rfl⟩
  · rw [cmpT_gt h]
    go_enter Tryd.func91, Tryd.ntmps91
    go_wp2_with (go_at_call 124; refine (nan_kind _ _).mono ?_; rintro e w1 ⟨rfl, rfl⟩)
    go_ret
    exact ⟨rfl, rfl⟩

set_option maxRecDepth 100000 in
set_option maxHeartbeats 400000 in
theorem nan_int (x : Int) (w : World) : Calls Tryd.prog 125 #[.int .i64 x] w fun e w' => e = .returned (.bool false) ∧ w = w' := by
  have h : (x != x) = false := by simp
  go_enter Tryd.func125, Tryd.ntmps125
  go_wp2
  go_ret
  exact ⟨rfl, rfl⟩
set_option maxRecDepth 100000 in
set_option maxHeartbeats 400000 in
theorem compare_int (x y : Int) (w : World) : Calls Tryd.prog 93 #[.int .i64 x, .int .i64 y] w fun e w' => e = .returned (.int .i64 (cmpT x y)) ∧ w = w' := by
  rcases Int.lt_trichotomy x y with h | h | h
  · rw [cmpT_lt h]
    go_enter Tryd.func93, Tryd.ntmps93
    go_wp2_with (go_at_call 125; refine (nan_int _ _).mono ?_; rintro e w1 ⟨rfl, rfl⟩)
    go_ret
    exact ⟨rfl, rfl⟩
  · subst h
    rw [cmpT_self]
    go_enter Tryd.func93, Tryd.ntmps93
    go_wp2_with (go_at_call 125; refine (nan_int _ _).mono ?_; rintro e w1 ⟨rfl, rfl⟩)
    go_ret
    exact ⟨rfl, rfl⟩
  · rw [cmpT_gt h]
    go_enter Tryd.func93, Tryd.ntmps93
    go_wp2_with (go_at_call 125; refine (nan_int _ _).mono ?_; rintro e w1 ⟨rfl, rfl⟩)
    go_ret
    exact ⟨rfl, rfl⟩

set_option maxRecDepth 100000 in
set_option maxHeartbeats 400000 in
theorem nan_i64 (x : Int) (w : World) : Calls Tryd.prog 126 #[.int .i64 x] w fun e w' => e = .returned (.bool false) ∧ w = w' := by
  have h : (x != x) = false := by simp
  go_enter Tryd.func126, Tryd.ntmps126
  go_wp2
  go_ret
  exact ⟨rfl, rfl⟩
set_option maxRecDepth 100000 in
set_option maxHeartbeats 400000 in
theorem compare_i64 (x y : Int) (w : World) : Calls Tryd.prog 94 #[.int .i64 x, .int .i64 y] w fun e w' => e = .returned (.int .i64 (cmpT x y)) ∧ w = w' := by
  rcases Int.lt_trichotomy x y with h | h | h
  · rw [cmpT_lt h]
    go_enter Tryd.func94, Tryd.ntmps94
    go_wp2_with (go_at_call 126; refine (nan_i64 _ _).mono ?_; rintro e w1 ⟨rfl, rfl⟩)
    go_ret
    exact ⟨rfl, rfl⟩
  · subst h
    rw [cmpT_self]
    go_enter Tryd.func94, Tryd.ntmps94
    go_wp2_with (go_at_call 126; refine (nan_i64 _ _).mono ?_; rintro e w1 ⟨rfl, rfl⟩)
    go_ret
    exact ⟨rfl, rfl⟩
  · rw [cmpT_gt h]
    go_enter Tryd.func94, Tryd.ntmps94
    go_wp2_with (go_at_call 126; refine (nan_i64 _ _).mono ?_; rintro e w1 ⟨rfl, rfl⟩)
    go_ret
    exact ⟨rfl, rfl⟩

/-! ### texts -/
def cmpS (x y : ByteArray) : Int := if Op.bytesLess x.toList y.toList then -1 else if x.toList == y.toList then 0 else 1
set_option maxRecDepth 100000 in
set_option maxHeartbeats 400000 in
theorem nan_str (x : ByteArray) (w : World) : Calls Tryd.prog 127 #[.string x] w fun e w' => e = .returned (.bool false) ∧ w = w' := by
  go_enter Tryd.func127, Tryd.ntmps127
  go_wp2
  go_ret
  exact ⟨rfl, rfl⟩
set_option maxRecDepth 100000 in
set_option maxHeartbeats 400000 in
theorem compare_str (x y : ByteArray) (w : World) : Calls Tryd.prog 95 #[.string x, .string y] w fun e w' => e = .returned (.int .i64 (cmpS x y)) ∧ w = w' := by
  unfold cmpS
  cases h1 : Op.bytesLess x.toList y.toList
  · cases h2 : (x.toList == y.toList)
    all_goals
      go_enter Tryd.func95, Tryd.ntmps95
      go_wp2_with (go_at_call 127; refine (nan_str _ _).mono ?_; rintro e w1 ⟨rfl, rfl⟩)
      go_ret
      exact ⟨ret_int (by simp), rfl⟩
  · go_enter Tryd.func95, Tryd.ntmps95
    go_wp2_with (go_at_call 127; refine (nan_str _ _).mono ?_; rintro e w1 ⟨rfl, rfl⟩)
    go_ret
    exact ⟨ret_int (by simp), rfl⟩
end Go.Proofs.YtngeioghihbkeaaDoor
namespace Go.Proofs.YtngeioghihbkeaaDoor
open Go.RowKit

def rankT (b : Bool) : Int := if b then 1 else 0
def cmpD (a b : Dat) : Int := if a.k = b.k then (if a.k = 2 then cmpT (rankT a.b) (rankT b.b) else if a.k = 3 then cmpT a.n b.n else if a.k = 4 then cmpS a.s b.s else 0) else cmpT a.k b.k
set_option maxRecDepth 100000 in
set_option maxHeartbeats 400000 in
theorem rank_any (k : Int) (b : Bool) (n : Int) (s : ByteArray) (w : World) : Calls Tryd.prog 92 #[.agg #[.int .u8 k, .bool b, .int .i64 n, .string s]] w fun e w' => e = .returned (.int .i64 (rankT b)) ∧ Ext w w' := by
  cases b
  all_goals
    go_enter Tryd.func92, Tryd.ntmps92
    go_wp2
    go_ret
    exact ⟨rfl, (Ext.refl w).alloc _⟩
section
variable (ka na kb nb k : Int) (ba bb : Bool) (sa sb : ByteArray) (w : World)
set_option maxRecDepth 100000 in
set_option maxHeartbeats 600000 in
theorem cmp_kind (h : ¬ ka = kb) : Calls Tryd.prog 54 #[.agg #[.int .u8 ka, .bool ba, .int .i64 na, .string sa], .agg #[.int .u8 kb, .bool bb, .int .i64 nb, .string sb]] w fun e w' => e = .returned (.int .i64 (cmpT ka kb)) ∧ Ext w w' := by
  have z : (ka != kb) = true := by simpa using h
  clear h
  go_enter Tryd.func54, Tryd.ntmps54
  go_wp2_with (go_at_call 91; refine (compare_kind _ _ _).mono ?_; rintro e w1 ⟨rfl, rfl⟩)
  go_ret
  exact ⟨rfl, ((Ext.refl w).alloc _).alloc _⟩
set_option maxRecDepth 100000 in
set_option maxHeartbeats 600000 in
theorem cmp_int : Calls Tryd.prog 54 #[.agg #[.int .u8 3, .bool ba, .int .i64 na, .string sa], .agg #[.int .u8 3, .bool bb, .int .i64 nb, .string sb]] w fun e w' => e = .returned (.int .i64 (cmpT na nb)) ∧ Ext w w' := by
  go_enter Tryd.func54, Tryd.ntmps54
  go_wp2_with (go_at_call 94; refine (compare_i64 _ _ _).mono ?_; rintro e w1 ⟨rfl, rfl⟩)
  go_ret
  exact ⟨rfl, ((Ext.refl w).alloc _).alloc _⟩
set_option maxRecDepth 100000 in
set_option maxHeartbeats 600000 in
theorem cmp_text : Calls Tryd.prog 54 #[.agg #[.int .u8 4, .bool ba, .int .i64 na, .string sa], .agg #[.int .u8 4, .bool bb, .int .i64 nb, .string sb]] w fun e w' => e = .returned (.int .i64 (cmpS sa sb)) ∧ Ext w w' := by
  go_enter Tryd.func54, Tryd.ntmps54
  go_wp2_with (go_at_call 95; refine (compare_str _ _ _).mono ?_; rintro e w1 ⟨rfl, rfl⟩)
  go_ret
  exact ⟨rfl, ((Ext.refl w).alloc _).alloc _⟩
set_option maxRecDepth 100000 in
set_option maxHeartbeats 600000 in
theorem cmp_other (h2 : ¬ k = 2) (h3 : ¬ k = 3) (h4 : ¬ k = 4) : Calls Tryd.prog 54 #[.agg #[.int .u8 k, .bool ba, .int .i64 na, .string sa], .agg #[.int .u8 k, .bool bb, .int .i64 nb, .string sb]] w fun e w' => e = .returned (.int .i64 0) ∧ Ext w w' := by
  have z : (k != k) = false := by simp
  have z2 : (k == 2) = false := by simpa using h2
  have z3 : (k == 3) = false := by simpa using h3
  have z4 : (k == 4) = false := by simpa using h4
  go_enter Tryd.func54, Tryd.ntmps54
  go_wp2
  go_ret
  exact ⟨rfl, ((Ext.refl w).alloc _).alloc _⟩
set_option maxRecDepth 100000 in
set_option maxHeartbeats 800000 in
theorem cmp_bool : Calls Tryd.prog 54 #[.agg #[.int .u8 2, .bool ba, .int .i64 na, .string sa], .agg #[.int .u8 2, .bool bb, .int .i64 nb, .string sb]] w fun e w' => e = .returned (.int .i64 (cmpT (rankT ba) (rankT bb))) ∧ Ext w w' := by
  go_enter Tryd.func54, Tryd.ntmps54
  go_upto_region 6 with fail
  have a0 : Bk ((w.alloc (.cells #[.int .u8 2, .bool ba, .int .i64 na, .string sa] 91)).alloc (.cells #[.int .u8 2, .bool bb, .int .i64 nb, .string sb] 91)) w.heap.size 91 #[.int .u8 2, .bool ba, .int .i64 na, .string sa] := (Bk.new _ _ _).alloc _
  have b0 : Bk ((w.alloc (.cells #[.int .u8 2, .bool ba, .int .i64 na, .string sa] 91)).alloc (.cells #[.int .u8 2, .bool bb, .int .i64 nb, .string sb] 91)) (w.heap.size + 1) 91 #[.int .u8 2, .bool bb, .int .i64 nb, .string sb] := Bk.at (by simp)
  have E0 := ((Ext.refl w).alloc (.cells #[.int .u8 2, .bool ba, .int .i64 na, .string sa] 91)).alloc (.cells #[.int .u8 2, .bool bb, .int .i64 nb, .string sb] 91)
  obtain ⟨w0, hw0⟩ : ∃ w0, w0 = (w.alloc (.cells #[.int .u8 2, .bool ba, .int .i64 na, .string sa] 91)).alloc (.cells #[.int .u8 2, .bool bb, .int .i64 nb, .string sb] 91) := ⟨_, rfl⟩
  rw [← hw0] at a0 b0 E0 ⊢
  clear hw0
  have X : Ext w0 w0.drew := (Ext.refl w0).drew
  have p0 : ∀ y : Xt w0.drew, y.W.cell? ⟨w.heap.size, 0, none⟩ = some (.int .u8 2) := fun y => (a0.ext (X.trans y.x)).cell 0
  have p1 : ∀ y : Xt w0.drew, y.W.cell? ⟨w.heap.size, 1, none⟩ = some (.bool ba) := fun y => (a0.ext (X.trans y.x)).cell 1
  have p2 : ∀ y : Xt w0.drew, y.W.cell? ⟨w.heap.size, 2, none⟩ = some (.int .i64 na) := fun y => (a0.ext (X.trans y.x)).cell 2
  have p3 : ∀ y : Xt w0.drew, y.W.cell? ⟨w.heap.size, 3, none⟩ = some (.string sa) := fun y => (a0.ext (X.trans y.x)).cell 3
  have q0 : ∀ y : Xt w0.drew, y.W.cell? ⟨w.heap.size + 1, 0, none⟩ = some (.int .u8 2) := fun y => (b0.ext (X.trans y.x)).cell 0
  have q1 : ∀ y : Xt w0.drew, y.W.cell? ⟨w.heap.size + 1, 1, none⟩ = some (.bool bb) := fun y => (b0.ext (X.trans y.x)).cell 1
  have q2 : ∀ y : Xt w0.drew, y.W.cell? ⟨w.heap.size + 1, 2, none⟩ = some (.int .i64 nb) := fun y => (b0.ext (X.trans y.x)).cell 2
  have q3 : ∀ y : Xt w0.drew, y.W.cell? ⟨w.heap.size + 1, 3, none⟩ = some (.string sb) := fun y => (b0.ext (X.trans y.x)).cell 3
  refine wp_region_ord [0,0,3,0,0,31,63,127] (.flo [0,1,3,4] (.ext 2 (.one 5 (.one 6 (.flo [7] (.fin)))))) (by kernel_rfl) (by kernel_rfl) (by intro _ _ d _ _ h; cases d <;> exact h) ?_
  (refine ord_flo (pick_cons rfl (pick_cons rfl (pick_cons rfl (pick_cons rfl pick_nil)))) ?_; (repeat (go_big_quiet_step (fail))); refine wpQuiet_nil ?_; show ordWalk _ _ _ _ _ _ _)
  refine ord_ext (pick_cons rfl pick_nil) ?_; intro K_ hK_
  go_wp2_with (go_at_call 92; refine (rank_any _ _ _ _ _).mono ?_; rintro e w1 ⟨rfl, x1⟩)
  refine ordNext.mk x1 ?_
  refine ord_one (pick_cons rfl pick_nil) ?_; intro K_ hK_
  go_wp2_with (go_at_call 92; refine (rank_any _ _ _ _ _).mono ?_; rintro e w2 ⟨rfl, x2⟩)
  refine ord_one (pick_cons rfl pick_nil) ?_; intro K_ hK_
  go_wp2_with (go_at_call 93; refine (compare_int _ _ _).mono ?_; rintro e w3 ⟨rfl, rfl⟩)
  (refine ord_flo (pick_cons rfl pick_nil) ?_; (repeat (go_big_quiet_step (fail))); refine wpQuiet_nil ?_; show ordWalk _ _ _ _ _ _ _)
  refine ord_fin ?_
  go_wp2
  go_ret
  exact ⟨rfl, ((E0.trans X).trans x1).trans x2⟩
end
theorem cmp_any (a b : Dat) (w : World) : Calls Tryd.prog 54 #[.agg #[.int .u8 a.k, .bool a.b, .int .i64 a.n, .string a.s], .agg #[.int .u8 b.k, .bool b.b, .int .i64 b.n, .string b.s]] w fun e w' => e = .returned (.int .i64 (cmpD a b)) ∧ Ext w w' := by
  obtain ⟨ka, ba, na, sa⟩ := a
  obtain ⟨kb, bb, nb, sb⟩ := b
  unfold cmpD
  by_cases h : ka = kb
  · subst h
    rw [if_pos rfl]
    by_cases h2 : ka = 2
    · subst h2; rw [if_pos rfl]; exact cmp_bool na nb ba bb sa sb w
    · rw [if_neg h2]
      by_cases h3 : ka = 3
      · subst h3; rw [if_pos rfl]; exact cmp_int na nb ba bb sa sb w
      · rw [if_neg h3]
        by_cases h4 : ka = 4
        · subst h4; rw [if_pos rfl]; exact cmp_text na nb ba bb sa sb w
        · rw [if_neg h4]; exact cmp_other na nb ka ba bb sa sb w h2 h3 h4
  · rw [if_neg h]; exact cmp_kind ka na kb nb ba bb sa sb w h
end Go.Proofs.YtngeioghihbkeaaDoor
