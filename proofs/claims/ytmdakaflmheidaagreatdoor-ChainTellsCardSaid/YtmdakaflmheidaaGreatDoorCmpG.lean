/- stamp.Cmp, with the world behind it told to the block. Conditions: the slices are as readings give them. -/
import Derived.Test.YtmdakaflmheidaaGreatDoorCmp
import Derived.Sort.Grow
namespace Go.Proofs.YtmdakaflmheidaaGreatDoor
open Go.RowKit

theorem grow3 (w : World) (o1 o2 o3 : Obj) : (((w.alloc o1).alloc o2).alloc o3).drew = Go.Sort.grow (w.drewN 1) #[o1, o2, o3] := by
  rw [Go.Sort.alloc_eq_grow, Go.Sort.alloc_eq_grow, Go.Sort.alloc_eq_grow, Go.Sort.grow_grow, Go.Sort.grow_grow]
  rfl
set_option maxRecDepth 100000 in
set_option maxHeartbeats 600000 in
theorem or_eq (g : Nat) (t : TypeId) (x y z : Int) (w : World) (hb : Bk w g t #[.int .i64 x, .int .i64 y, .int .i64 z]) :
    Calls Tryz.prog 77 #[.slice (some ⟨g, 0, none⟩) 3 3] w fun e w' => e = .returned (.int .i64 (orT x y z)) ∧ w = w' := by
  have hx : w.cell? ⟨g, 0, none⟩ = some (.int .i64 x) := hb.cell 0
  have hy : w.cell? ⟨g, 1, none⟩ = some (.int .i64 y) := hb.cell 1
  have hz : w.cell? ⟨g, 2, none⟩ = some (.int .i64 z) := hb.cell 2
  obtain ⟨r, hr⟩ : ∃ r, r = orT x y z := ⟨_, rfl⟩
  rw [← hr]
  have HR := Lib.hid hr
  clear hr
  go_enter Tryz.func77, Tryz.ntmps77
  go_wp2
  go_loop [8] (fun v => ∃ k : Nat, k ≤ 3 ∧ v = .int .i64 k ∧ (0 < k → x = 0) ∧ (1 < k → y = 0) ∧ (2 < k → z = 0)) (fun v => 3 - (intOf v).toNat)
  case atStart => exact ⟨0, by omega, rfl, by omega, by omega, by omega⟩
  case round =>
    obtain ⟨k, hk, rfl, k0, k1, k2⟩ := hrel
    have K0 := Lib.hid k0
    have K1 := Lib.hid k1
    have K2 := Lib.hid k2
    clear k0 k1 k2
    match k, hk with
    | 0, _ =>
      by_cases q : x = 0
      · have q' : (x != 0) = false := by simpa using q
        have Q := Lib.hid q
        clear q
        go_wp2
        go_round
        case rel => exact ⟨1, by omega, rfl, fun _ => Q.out, by omega, by omega⟩
        case measure => simp [intOf]
      · have q' : (x != 0) = true := by simpa using q
        go_wp2
        go_ret
        exact ⟨ret_int (by rw [HR.out]; simp [orT, q]), rfl⟩
    | 1, _ =>
      by_cases q : y = 0
      · have q' : (y != 0) = false := by simpa using q
        have Q := Lib.hid q
        clear q
        go_wp2
        go_round
        case rel => exact ⟨2, by omega, rfl, fun _ => K0.out (by omega), fun _ => Q.out, by omega⟩
        case measure => simp [intOf]
      · have q' : (y != 0) = true := by simpa using q
        go_wp2
        go_ret
        exact ⟨ret_int (by rw [HR.out]; simp [orT, q, K0.out (by omega)]), rfl⟩
    | 2, _ =>
      by_cases q : z = 0
      · have q' : (z != 0) = false := by simpa using q
        have Q := Lib.hid q
        clear q
        go_wp2
        go_round
        case rel => exact ⟨3, by omega, rfl, fun _ => K0.out (by omega), fun _ => K1.out (by omega), fun _ => Q.out⟩
        case measure => simp [intOf]
      · have q' : (z != 0) = true := by simpa using q
        go_wp2
        go_ret
        exact ⟨ret_int (by rw [HR.out]; simp [orT, K1.out (by omega), K0.out (by omega)]), rfl⟩
    | 3, _ =>
      go_wp2
      go_ret
      exact ⟨ret_int (by rw [HR.out]; simp [orT, K1.out (by omega), K0.out (by omega), K2.out (by omega)]), rfl⟩
    | k + 4, hk => omega

set_option maxRecDepth 100000 in
set_option maxHeartbeats 800000 in
theorem cmp_grow (e1 e2 : Int) (A1 A2 : Option Addr) (n1 n2 c1 c2 : Nat) (l1 l2 : List Int) (w : World) (h1 : Sl w 1 A1 n1 c1 (wds l1)) (h2 : Sl w 1 A2 n2 c2 (wds l2)) :
    Calls Tryz.prog 40 #[.agg #[.int .u64 e1, .slice A1 n1 c1], .agg #[.int .u64 e2, .slice A2 n2 c2]] w fun e w' => e = .returned (.int .i64 (cmpTT e1 l1 e2 l2)) ∧ ∃ q os, w' = Go.Sort.grow (w.drewN q) os := by
  have hR : cmpTT e1 l1 e2 l2 = orT (cmpT n1 n2) (cmpT e1 e2) (lexT l1 l2) := by unfold cmpTT; rw [h1.wlen, h2.wlen]
  rw [hR]
  clear hR
  go_enter Tryz.func40, Tryz.ntmps40
  go_upto_region 1 with fail
  obtain ⟨w0, hw0⟩ : ∃ w0, w0 = (w.alloc (Obj.cells #[Value.int IntKind.u64 e1, Value.slice A1 n1 c1] 26)).alloc (Obj.cells #[Value.int IntKind.u64 e2, Value.slice A2 n2 c2] 26) := ⟨_, rfl⟩
  have x0 : Ext w w0 := hw0 ▸ ((Ext.refl w).alloc _).alloc _
  have a0 : Bk w0 w.heap.size 26 #[Value.int IntKind.u64 e1, Value.slice A1 n1 c1] := by subst hw0; exact (Bk.new _ _ _).alloc _
  have b0 : Bk w0 (w.heap.size + 1) 26 #[Value.int IntKind.u64 e2, Value.slice A2 n2 c2] := by subst hw0; exact Bk.at (by simp)
  rw [← hw0]
  have HW0 := Lib.hid hw0
  clear hw0
  have X : Ext w0 w0.drew := (Ext.refl w0).drew
  have q1 : ∀ y : Xt w0.drew, y.W.cell? ⟨w.heap.size, 0, none⟩ = some (.int .u64 e1) := fun y => (a0.ext (X.trans y.x)).cell 0
  have q2 : ∀ y : Xt w0.drew, y.W.cell? ⟨w.heap.size, 1, none⟩ = some (.slice A1 n1 c1) := fun y => (a0.ext (X.trans y.x)).cell 1
  have q3 : ∀ y : Xt w0.drew, y.W.cell? ⟨w.heap.size + 1, 0, none⟩ = some (.int .u64 e2) := fun y => (b0.ext (X.trans y.x)).cell 0
  have q4 : ∀ y : Xt w0.drew, y.W.cell? ⟨w.heap.size + 1, 1, none⟩ = some (.slice A2 n2 c2) := fun y => (b0.ext (X.trans y.x)).cell 1
  refine wp_region_ord [0,1,3,0,8,24,63,0,128,0,512,2047,0,4096,0,16384,65535,131071,262143,524287] (.flo [0,1,2,3,4,5,7,8,9,10,12,13,14,15] (.ext 6 (.ext 11 (.one 16 (.one 17 (.one 18 (.flo [19] (.fin)))))))) (by kernel_rfl) (by kernel_rfl) (by intro _ _ d _ _ h; cases d <;> exact h) ?_
  (refine ord_flo (pick_cons rfl (pick_cons rfl (pick_cons rfl (pick_cons rfl (pick_cons rfl (pick_cons rfl (pick_cons rfl (pick_cons rfl (pick_cons rfl (pick_cons rfl (pick_cons rfl (pick_cons rfl (pick_cons rfl (pick_cons rfl pick_nil)))))))))))))) ?_; (repeat (go_big_quiet_step (fail))); refine wpQuiet_nil ?_; show ordWalk _ _ _ _ _ _ _)
  refine ord_ext (pick_cons rfl pick_nil) ?_; intro K_ hK_
  go_wp2_with (refine (compare_int _ _ _).mono ?_; rintro e w1 ⟨rfl, rfl⟩)
  refine ordNext.mk (Ext.refl _) ?_
  refine ord_ext (pick_cons rfl pick_nil) ?_; intro K_ hK_
  go_wp2_with (refine (compare_u64 _ _ _).mono ?_; rintro e w1 ⟨rfl, rfl⟩)
  refine ordNext.mk (Ext.refl _) ?_
  refine ord_one (pick_cons rfl pick_nil) ?_; intro K_ hK_
  go_wp2_with (refine (lex_any _ _ _ _ _ _ _ _ _ (h1.ext (x0.trans X)) (h2.ext (x0.trans X))).mono ?_; rintro e w1 ⟨rfl, rfl⟩)
  refine ord_one (pick_cons rfl pick_nil) ?_; intro K_ hK_
  go_wp2
  refine ord_one (pick_cons rfl pick_nil) ?_; intro K_ hK_
  go_wp2_with (refine (or_eq _ _ _ _ _ _ (by exact (Bk.at (by simp)).drew)).mono ?_; rintro e w1 ⟨rfl, rfl⟩)
  (refine ord_flo (pick_cons rfl pick_nil) ?_; (repeat (go_big_quiet_step (fail))); refine wpQuiet_nil ?_; show ordWalk _ _ _ _ _ _ _)
  refine ord_fin ?_
  go_wp2
  go_ret
  rw [HW0.out]
  exact ⟨rfl, 1, _, grow3 w _ _ _⟩
end Go.Proofs.YtmdakaflmheidaaGreatDoor
