/- stamp.Join, Meet: what they answer of any two times. Conditions: the slices are as readings give them. -/
import Derived.Test.YtmdakaflmheidaaGreatDoorEach
namespace Go.Proofs.YtmdakaflmheidaaGreatDoor
open Go.RowKit

set_option maxRecDepth 100000 in
set_option maxHeartbeats 400000 in
theorem each_diff (F : Nat) (e1 e2 : Int) (A1 A2 : Option Addr) (n1 n2 c1 c2 : Nat) (w : World) (hne : ((n1 : Int) != (n2 : Int)) = true) :
    Calls Tryz.prog 87 #[.agg #[.int .u64 e1, .slice A1 n1 c1], .agg #[.int .u64 e2, .slice A2 n2 c2], .func (.func F) #[] #[]] w fun e w' =>
      e = .returned (.tuple #[.agg #[.int .u64 0, .slice none 0 0], .int .u16 40]) ∧ Ext w w' := by
  go_enter Tryz.func87, Tryz.ntmps87
  go_wp2
  go_returns
  exact ⟨rfl, (((Ext.refl w).alloc _).alloc _).alloc _⟩

set_option maxRecDepth 100000 in
set_option maxHeartbeats 400000 in
theorem max_any (x y : Int) (w : World) : Calls Tryz.prog 88 #[.int .u64 x, .int .u64 y] w fun e w' => e = .returned (.int .u64 (max x y)) ∧ w = w' := by
  go_enter Tryz.func88, Tryz.ntmps88
  go_wp2
  all_goals go_ret
  all_goals exact ⟨ret_int (by omega), rfl⟩
set_option maxRecDepth 100000 in
set_option maxHeartbeats 400000 in
theorem min_any (x y : Int) (w : World) : Calls Tryz.prog 89 #[.int .u64 x, .int .u64 y] w fun e w' => e = .returned (.int .u64 (min x y)) ∧ w = w' := by
  go_enter Tryz.func89, Tryz.ntmps89
  go_wp2
  all_goals go_ret
  all_goals exact ⟨ret_int (by omega), rfl⟩

set_option maxRecDepth 100000 in
set_option maxHeartbeats 400000 in
theorem join_diff (e1 e2 : Int) (A1 A2 : Option Addr) (n1 n2 c1 c2 : Nat) (w : World) (hne : ((n1 : Int) != (n2 : Int)) = true) :
    Calls Tryz.prog 62 #[.agg #[.int .u64 e1, .slice A1 n1 c1], .agg #[.int .u64 e2, .slice A2 n2 c2]] w fun e w' =>
      e = .returned (.tuple #[.agg #[.int .u64 0, .slice none 0 0], .int .u16 40]) ∧ Ext w w' := by
  go_enter Tryz.func62, Tryz.ntmps62
  go_wp2_with (refine (each_diff _ _ _ _ _ _ _ _ _ _ hne).mono ?_; rintro e w1 ⟨rfl, x1⟩; have b4 : Bk w1 (w.heap.size + 1 + 1) 26 #[.int .u64 0, .slice none 0 0] := Bk.ext (Bk.at (by simp)) x1; have q0 := b4.cell 0; have q1 := b4.cell 1; have f0 := b4.free 0; have f1 := b4.free 1)
  have q := b4.set2 (.int .u64 0) (.slice none 0 0)
  refine bodyPost_ret (v := .tuple #[.agg #[.int .u64 0, .slice none 0 0], .int .u16 40]) (by simp [results, Tryz.results62, go_sem, q.1, q.2]) rfl ⟨rfl, ?_⟩
  have x2 := ((((Ext.refl w).alloc _).alloc _).alloc _).trans x1
  exact (x2.set (by simp; omega) _).set (by simp; omega) _
set_option maxRecDepth 100000 in
set_option maxHeartbeats 400000 in
theorem join_same (e1 e2 : Int) (A1 A2 : Option Addr) (n c1 c2 : Nat) (l1 l2 : List Int) (w : World) (h1 : Sl w 1 A1 n c1 (wds l1)) (h2 : Sl w 1 A2 n c2 (wds l2)) (u1 : U32 l1) (u2 : U32 l2) (hn : n * 4 ≤ 140737488355328) :
    Calls Tryz.prog 62 #[.agg #[.int .u64 e1, .slice A1 n c1], .agg #[.int .u64 e2, .slice A2 n c2]] w fun e w' =>
      ∃ A c, e = .returned (.tuple #[.agg #[.int .u64 (max e1 e2), .slice A n c], .int .u16 0]) ∧ Own w' w.heap.size 74 1 A n c (wds (List.zipWith max l1 l2)) ∧ Ext w w' := by
  go_enter Tryz.func62, Tryz.ntmps62
  go_wp2_with (refine (each_same max 88 (fun _ _ => by kernel_rfl) max_any (by intros; omega) e1 e2 A1 A2 n c1 c2 l1 l2 _ (h1.ext ((((Ext.refl w).alloc _).alloc _).alloc _)) (h2.ext ((((Ext.refl w).alloc _).alloc _).alloc _)) u1 u2 hn).mono ?_; rintro e w1 ⟨A, c, rfl, ho, x1⟩; have b4 : Bk w1 (w.heap.size + 1 + 1) 26 #[.int .u64 0, .slice none 0 0] := Bk.ext (Bk.at (by simp)) x1; have q0 := b4.cell 0; have q1 := b4.cell 1; have f0 := b4.free 0; have f1 := b4.free 1)
  have q := b4.set2 (.int .u64 (max e1 e2)) (.slice A n c)
  refine bodyPost_ret (v := .tuple #[.agg #[.int .u64 (max e1 e2), .slice A n c], .int .u16 0]) (by simp [results, Tryz.results62, go_sem, q.1, q.2]) rfl ⟨A, c, rfl, ?_, ?_⟩
  · exact ((ho.mono (by simp; omega)).far (ho.ne (by simp)) _).far (ho.ne (by simp)) _
  · have x2 := ((((Ext.refl w).alloc _).alloc _).alloc _).trans x1
    exact (x2.set (by simp; omega) _).set (by simp; omega) _

set_option maxRecDepth 100000 in
set_option maxHeartbeats 400000 in
theorem meet_diff (e1 e2 : Int) (A1 A2 : Option Addr) (n1 n2 c1 c2 : Nat) (w : World) (hne : ((n1 : Int) != (n2 : Int)) = true) :
    Calls Tryz.prog 63 #[.agg #[.int .u64 e1, .slice A1 n1 c1], .agg #[.int .u64 e2, .slice A2 n2 c2]] w fun e w' =>
      e = .returned (.tuple #[.agg #[.int .u64 0, .slice none 0 0], .int .u16 40]) ∧ Ext w w' := by
  go_enter Tryz.func63, Tryz.ntmps63
  go_wp2_with (refine (each_diff _ _ _ _ _ _ _ _ _ _ hne).mono ?_; rintro e w1 ⟨rfl, x1⟩; have b4 : Bk w1 (w.heap.size + 1 + 1) 26 #[.int .u64 0, .slice none 0 0] := Bk.ext (Bk.at (by simp)) x1; have q0 := b4.cell 0; have q1 := b4.cell 1; have f0 := b4.free 0; have f1 := b4.free 1)
  have q := b4.set2 (.int .u64 0) (.slice none 0 0)
  refine bodyPost_ret (v := .tuple #[.agg #[.int .u64 0, .slice none 0 0], .int .u16 40]) (by simp [results, Tryz.results63, go_sem, q.1, q.2]) rfl ⟨rfl, ?_⟩
  have x2 := ((((Ext.refl w).alloc _).alloc _).alloc _).trans x1
  exact (x2.set (by simp; omega) _).set (by simp; omega) _
set_option maxRecDepth 100000 in
set_option maxHeartbeats 400000 in
theorem meet_same (e1 e2 : Int) (A1 A2 : Option Addr) (n c1 c2 : Nat) (l1 l2 : List Int) (w : World) (h1 : Sl w 1 A1 n c1 (wds l1)) (h2 : Sl w 1 A2 n c2 (wds l2)) (u1 : U32 l1) (u2 : U32 l2) (hn : n * 4 ≤ 140737488355328) :
    Calls Tryz.prog 63 #[.agg #[.int .u64 e1, .slice A1 n c1], .agg #[.int .u64 e2, .slice A2 n c2]] w fun e w' =>
      ∃ A c, e = .returned (.tuple #[.agg #[.int .u64 (min e1 e2), .slice A n c], .int .u16 0]) ∧ Own w' w.heap.size 74 1 A n c (wds (List.zipWith min l1 l2)) ∧ Ext w w' := by
  go_enter Tryz.func63, Tryz.ntmps63
  go_wp2_with (refine (each_same min 89 (fun _ _ => by kernel_rfl) min_any (by intros; omega) e1 e2 A1 A2 n c1 c2 l1 l2 _ (h1.ext ((((Ext.refl w).alloc _).alloc _).alloc _)) (h2.ext ((((Ext.refl w).alloc _).alloc _).alloc _)) u1 u2 hn).mono ?_; rintro e w1 ⟨A, c, rfl, ho, x1⟩; have b4 : Bk w1 (w.heap.size + 1 + 1) 26 #[.int .u64 0, .slice none 0 0] := Bk.ext (Bk.at (by simp)) x1; have q0 := b4.cell 0; have q1 := b4.cell 1; have f0 := b4.free 0; have f1 := b4.free 1)
  have q := b4.set2 (.int .u64 (min e1 e2)) (.slice A n c)
  refine bodyPost_ret (v := .tuple #[.agg #[.int .u64 (min e1 e2), .slice A n c], .int .u16 0]) (by simp [results, Tryz.results63, go_sem, q.1, q.2]) rfl ⟨A, c, rfl, ?_, ?_⟩
  · exact ((ho.mono (by simp; omega)).far (ho.ne (by simp)) _).far (ho.ne (by simp)) _
  · have x2 := ((((Ext.refl w).alloc _).alloc _).alloc _).trans x1
    exact (x2.set (by simp; omega) _).set (by simp; omega) _
end Go.Proofs.YtmdakaflmheidaaGreatDoor
