/- penstockref04.Join, Meet: what they answer. Conditions: the slices are as readings give them, and not too long. -/
import Derived.Test.YtmdakaflmheidaaGreatDoorJoinsA
import Derived.Test.YtmdakaflmheidaaGreatDoorTwo
import Derived.Test.YtmdakaflmheidaaGreatDoorOrd
namespace Go.Proofs.YtmdakaflmheidaaGreatDoor
open Go.RowKit

set_option maxRecDepth 100000 in
set_option maxHeartbeats 400000 in
theorem rjoin_diff (e1 e2 : Int) (A1 A2 : Option Addr) (n1 n2 c1 c2 : Nat) (w : World) (hne : ((n1 : Int) != (n2 : Int)) = true) :
    Calls Tryz.prog 70 #[.agg #[.int .u64 e1, .slice A1 n1 c1], .agg #[.int .u64 e2, .slice A2 n2 c2]] w fun e w' =>
      e = .returned (.tuple #[.agg #[.int .u64 0, .slice none 0 0], .int .i64 40]) ∧ Ext w w' := by
  go_enter Tryz.func70, Tryz.ntmps70
  go_wp2
  go_returns
  exact ⟨rfl, (((Ext.refl w).alloc _).alloc _).alloc _⟩
set_option maxRecDepth 100000 in
set_option maxHeartbeats 2000000 in
theorem rjoin_same (e1 e2 : Int) (A1 A2 : Option Addr) (n c1 c2 : Nat) (l1 l2 : List Int) (w : World) (h1 : Sl w 1 A1 n c1 (wds l1)) (h2 : Sl w 1 A2 n c2 (wds l2)) (hn : n * 4 ≤ 140737488355328) :
    Calls Tryz.prog 70 #[.agg #[.int .u64 e1, .slice A1 n c1], .agg #[.int .u64 e2, .slice A2 n c2]] w fun e w' =>
      ∃ A c, e = .returned (.tuple #[.agg #[.int .u64 (max e1 e2), .slice A n c], .int .i64 0]) ∧ Own w' w.heap.size 74 1 A n c (wds (List.zipWith max l1 l2)) ∧ Ext w w' := by
  have hm := h1.le
  have he : ((n : Int) != (n : Int)) = false := by simp
  obtain ⟨v, hv⟩ : ∃ v, max e1 e2 = v := ⟨_, rfl⟩
  have ve : (if e1 < e2 then e2 else e1) = v := by rw [← hv]; split <;> omega
  rw [hv]
  clear hv
  go_enter Tryz.func70, Tryz.ntmps70
  go_wp2
  obtain ⟨w0, hw0⟩ : ∃ w0, w0 = (((w.alloc (Obj.cells #[Value.int IntKind.u64 e1, Value.slice A1 n c1] 26)).alloc (Obj.cells #[Value.int IntKind.u64 e2, Value.slice A2 n c2] 26)).alloc
      (Obj.cells #[Value.int IntKind.u64 0, Value.slice none 0 0] 26)).alloc (Obj.cells #[Value.int IntKind.u64 v, Value.slice none 0 0] 26) := ⟨_, rfl⟩
  have x0 : Ext w w0 := hw0 ▸ ((((Ext.refl w).alloc _).alloc _).alloc _).alloc _
  have s0 : w0.heap.size = w.heap.size + 4 := by subst hw0; simp
  have b3 : w0.cell? ⟨w.heap.size, 1, none⟩ = some (Value.slice A1 n c1) := by subst hw0; go_simp
  have b4 : w0.cell? ⟨w.heap.size + 1, 1, none⟩ = some (Value.slice A2 n c2) := by subst hw0; go_simp
  have b6 : Bk w0 (w.heap.size + 1 + 1) 26 #[Value.int IntKind.u64 0, Value.slice none 0 0] := by subst hw0; exact (Bk.at (by simp)).alloc _
  have b7 : Bk w0 (w.heap.size + 1 + 1 + 1) 26 #[Value.int IntKind.u64 v, Value.slice none 0 0] := by subst hw0; exact Bk.at (by simp)
  rw [← hw0]
  clear hw0
  have S0 := Lib.hid s0
  go_loopw [7] (fun t wr => ∃ (k : Nat) (A : Option Addr) (c : Nat), k ≤ n ∧ t = .int .i64 k ∧ Below (w.heap.size + 3) w0 wr ∧ Bk wr (w.heap.size + 1 + 1 + 1) 26 #[.int .u64 v, .slice A k c] ∧ Own wr (w.heap.size + 4) 74 1 A k c (wds (List.zipWith max (l1.take k) (l2.take k))))
    (fun t _ => n - (intOf t).toNat)
  case atStart => exact ⟨0, _, _, Nat.zero_le _, rfl, Below.refl _ _, b7, by simpa [wds] using Own.nil _ _ _ _⟩
  case round =>
    obtain ⟨k, A, c, hk, rfl, hbl, hb8, hown⟩ := hrel
    have q3 := cell_below hbl b3 (by simp)
    have q4 := cell_below hbl b4 (by simp)
    by_cases hlt : k < n
    · obtain ⟨a1, ha1, hc1, k1⟩ := h1.word hlt
      obtain ⟨a2, ha2, hc2, k2⟩ := h2.word hlt
      have q8 := hb8.cell 1
      have f8 := hb8.free 1
      have d1 := cell_below hbl (x0.cell hc1) (by simp only [block_add]; omega)
      have d2 := cell_below hbl (x0.cell hc2) (by simp only [block_add]; omega)
      simp at q8
      obtain ⟨x, hx⟩ : ∃ x, l1.getD k 0 = x := ⟨_, rfl⟩
      obtain ⟨y, hy⟩ : ∃ y, l2.getD k 0 = y := ⟨_, rfl⟩
      obtain ⟨m, hm2⟩ : ∃ m, max x y = m := ⟨_, rfl⟩
      have vm : (if x < y then y else x) = m := by rw [← hm2]; split <;> omega
      rw [hx] at d1
      rw [hy] at d2
      have HM : Hid (max (l1.getD k 0) (l2.getD k 0) = m) := Lib.hid (by rw [hx, hy]; exact hm2)
      clear hc1 hc2 hx hy hm2
      have i0 : (0 : Int) ≤ (k : Int) := Int.natCast_nonneg _
      have i1 : (k : Int) < (n : Int) := by omega
      have hsz := hbl.size
      go_wp2
      have X : Ext wr wr.drew := (Ext.refl wr).drew
      have q3' : ∀ y : Xt wr.drew, y.W.cell? ⟨w.heap.size, 1, none⟩ = some (.slice A1 n c1) := fun y => y.x.cell (X.cell q3)
      have q4' : ∀ y : Xt wr.drew, y.W.cell? ⟨w.heap.size + 1, 1, none⟩ = some (.slice A2 n c2) := fun y => y.x.cell (X.cell q4)
      have q8' : ∀ y : Xt wr.drew, y.W.cell? ⟨w.heap.size + 1 + 1 + 1, 1, none⟩ = some (.slice A k c) := fun y => y.x.cell (X.cell q8)
      have d1' : ∀ y : Xt wr.drew, y.W.cell? (a1.add k) = some (.int .u32 x) := fun y => y.x.cell (X.cell d1)
      have d2' : ∀ z : Xt wr.drew, z.W.cell? (a2.add k) = some (.int .u32 y) := fun z => z.x.cell (X.cell d2)
      refine wp_region_ord [0,1,0,4,0,28,60,0,128,0,896,1920,4092,8188,16383,32767,65535] (.flo [0,1,2,3,4,5,6,7,8,9,10,11,12] (.ext 13 (.one 14 (.flo [15] (.one 16 (.fin)))))) (by kernel_rfl) (by kernel_rfl) (by intro _ _ d _ _ h; cases d <;> exact h) ?_
      (refine ord_flo (pick_cons rfl (pick_cons rfl (pick_cons rfl (pick_cons rfl (pick_cons rfl (pick_cons rfl (pick_cons rfl (pick_cons rfl (pick_cons rfl (pick_cons rfl (pick_cons rfl (pick_cons rfl (pick_cons rfl pick_nil))))))))))))) ?_; (repeat (go_big_quiet_step (fail))); refine wpQuiet_nil ?_; show ordWalk _ _ _ _ _ _ _)
      refine ord_ext (pick_cons rfl pick_nil) ?_; intro K_ hK_
      go_wp2
      refine ordNext.mk ((Ext.refl _).alloc _) ?_
      refine ord_one (pick_cons rfl pick_nil) ?_; intro K_ hK_
      go_wp2_with (at_builtin; refine wpList_append_gen _ elemWords (w.heap.size + 4) _ _ (by rfl) (by rfl) A k c _ (by rfl) ((hown.alloc _).drew) (some ⟨wr.heap.size, 0, none⟩) 1 1 _ (by rfl) ((Sl.one wr _ _ 1 rfl).drew) (by simp [Value.oneCell']) (by omega) (by omega) (by simp; omega) ?_; intro A' c' w1 ho1 hg1 hk1)
      have b81 := Bk.grown (by exact (hb8.alloc _).drew) hg1 (hown.ne (by simp))
      have f81 := b81.free 1
      have q81 : w1.cell? ⟨w.heap.size + 1 + 1 + 1, 1, none⟩ = some (.slice A k c) := b81.cell 1
      (refine ord_flo (pick_cons rfl pick_nil) ?_; (repeat (go_big_quiet_step (fail))); refine wpQuiet_nil ?_; show ordWalk _ _ _ _ _ _ _)
      refine ord_one (pick_cons rfl pick_nil) ?_; intro K_ hK_
      go_wp2
      refine ord_fin ?_
      go_wp2
      rw [← ha1, ← ha2]
      go_roundw
      case rel =>
        refine ⟨k + 1, A', c', by omega, by go_num, ?_, ?_, ?_⟩
        · exact (((hbl.alloc (by omega) _).drew).grown hg1 (by simp; omega) (fun g hg => by have := hown.lt g hg; omega)).setCell (by simp) _
        · exact b81.set 1 _
        · refine (show Own _ _ _ _ _ _ _ _ from ?_)
          have hl1 := h1.wlen
          have hl2 := h2.wlen
          have hm9 := HM.out
          rw [take_succ_getD _ _ (by omega), take_succ_getD _ _ (by omega), List.zipWith_append (by simp; omega), ← wds_append, List.zipWith_cons_cons, List.zipWith_nil_left, hm9]
          exact (ho1.far (by rcases hk1 with e | e <;> rw [e]; exact hown.ne (by simp); simp; omega) _)
      case measure => simp [intOf]; omega
    · obtain rfl : k = n := by omega
      have r0 : wr.cell? ⟨w.heap.size + 1 + 1 + 1, 0, none⟩ = some (.int .u64 v) := hb8.cell 0
      have r1 : wr.cell? ⟨w.heap.size + 1 + 1 + 1, 1, none⟩ = some (.slice A k c) := hb8.cell 1
      have b6r := b6.below hbl (by omega)
      have r2 : wr.cell? ⟨w.heap.size + 1 + 1, 0, none⟩ = some (.int .u64 0) := b6r.cell 0
      have r3 : wr.cell? ⟨w.heap.size + 1 + 1, 1, none⟩ = some (.slice none 0 0) := b6r.cell 1
      have r4 := b6r.free 0
      have r5 := b6r.free 1
      have bb := (b6r.set 0 (.int .u64 v)).set 1 (.slice A k c)
      have q0 : ((wr.setCell ⟨w.heap.size + 1 + 1, 0, none⟩ (.int .u64 v)).setCell ⟨w.heap.size + 1 + 1, 1, none⟩ (.slice A k c)).cell? ⟨w.heap.size + 1 + 1, 0, none⟩ = some (.int .u64 v) := bb.cell 0
      have q1 : ((wr.setCell ⟨w.heap.size + 1 + 1, 0, none⟩ (.int .u64 v)).setCell ⟨w.heap.size + 1 + 1, 1, none⟩ (.slice A k c)).cell? ⟨w.heap.size + 1 + 1, 1, none⟩ = some (.slice A k c) := bb.cell 1
      go_wp2
      refine bodyPost_ret (v := .tuple #[.agg #[.int .u64 v, .slice A k c], .int .i64 0]) (by simp [results, Tryz.results70, go_sem, q0, q1]) rfl ?_
      refine ⟨A, c, rfl, ?_, ?_⟩
      · have hl1 := h1.wlen
        have hl2 := h2.wlen
        rw [List.take_of_length_le (by omega), List.take_of_length_le (by omega)] at hown
        exact ((hown.mono (by omega)).far (hown.ne (by simp)) _).far (hown.ne (by simp)) _
      · have e1 : Ext w wr := Below.trans x0 (hbl.mono (by omega))
        exact (e1.set (by simp; omega) _).set (by simp; omega) _
theorem rjoin_any (e1 e2 : Int) (A1 A2 : Option Addr) (n1 n2 c1 c2 : Nat) (l1 l2 : List Int) (w : World) (h1 : Sl w 1 A1 n1 c1 (wds l1)) (h2 : Sl w 1 A2 n2 c2 (wds l2)) (hn : n1 ≤ 1000000) :
    Calls Tryz.prog 70 #[.agg #[.int .u64 e1, .slice A1 n1 c1], .agg #[.int .u64 e2, .slice A2 n2 c2]] w (RTimeOut w (joinT e1 l1 e2 l2)) := by
  have e3 := h1.wlen
  have e4 := h2.wlen
  unfold joinT
  by_cases h : n1 = n2
  · subst h
    rw [if_pos (by omega)]
    refine (rjoin_same e1 e2 A1 A2 n1 c1 c2 l1 l2 w h1 h2 (by omega)).mono ?_
    rintro r w1 ⟨A, c, rfl, ho, x⟩
    have hz : (List.zipWith max l1 l2).length = n1 := by simp; omega
    exact ⟨A, c, by simp only [hz], by simp only [hz]; exact ho, x⟩
  · rw [if_neg (by omega)]
    refine (rjoin_diff e1 e2 A1 A2 n1 n2 c1 c2 w (by simp; omega)).mono ?_
    rintro r w1 ⟨rfl, x⟩
    exact ⟨none, 0, rfl, Own.nil _ _ _ _, x⟩
set_option maxRecDepth 100000 in
set_option maxHeartbeats 400000 in
theorem rmeet_diff (e1 e2 : Int) (A1 A2 : Option Addr) (n1 n2 c1 c2 : Nat) (w : World) (hne : ((n1 : Int) != (n2 : Int)) = true) :
    Calls Tryz.prog 72 #[.agg #[.int .u64 e1, .slice A1 n1 c1], .agg #[.int .u64 e2, .slice A2 n2 c2]] w fun e w' =>
      e = .returned (.tuple #[.agg #[.int .u64 0, .slice none 0 0], .int .i64 40]) ∧ Ext w w' := by
  go_enter Tryz.func72, Tryz.ntmps72
  go_wp2
  go_returns
  exact ⟨rfl, (((Ext.refl w).alloc _).alloc _).alloc _⟩
set_option maxRecDepth 100000 in
set_option maxHeartbeats 2000000 in
theorem rmeet_same (e1 e2 : Int) (A1 A2 : Option Addr) (n c1 c2 : Nat) (l1 l2 : List Int) (w : World) (h1 : Sl w 1 A1 n c1 (wds l1)) (h2 : Sl w 1 A2 n c2 (wds l2)) (hn : n * 4 ≤ 140737488355328) :
    Calls Tryz.prog 72 #[.agg #[.int .u64 e1, .slice A1 n c1], .agg #[.int .u64 e2, .slice A2 n c2]] w fun e w' =>
      ∃ A c, e = .returned (.tuple #[.agg #[.int .u64 (min e1 e2), .slice A n c], .int .i64 0]) ∧ Own w' w.heap.size 74 1 A n c (wds (List.zipWith min l1 l2)) ∧ Ext w w' := by
  have hm := h1.le
  have he : ((n : Int) != (n : Int)) = false := by simp
  obtain ⟨v, hv⟩ : ∃ v, min e1 e2 = v := ⟨_, rfl⟩
  have ve : (if e2 < e1 then e2 else e1) = v := by rw [← hv]; split <;> omega
  rw [hv]
  clear hv
  go_enter Tryz.func72, Tryz.ntmps72
  go_wp2
  obtain ⟨w0, hw0⟩ : ∃ w0, w0 = (((w.alloc (Obj.cells #[Value.int IntKind.u64 e1, Value.slice A1 n c1] 26)).alloc (Obj.cells #[Value.int IntKind.u64 e2, Value.slice A2 n c2] 26)).alloc
      (Obj.cells #[Value.int IntKind.u64 0, Value.slice none 0 0] 26)).alloc (Obj.cells #[Value.int IntKind.u64 v, Value.slice none 0 0] 26) := ⟨_, rfl⟩
  have x0 : Ext w w0 := hw0 ▸ ((((Ext.refl w).alloc _).alloc _).alloc _).alloc _
  have s0 : w0.heap.size = w.heap.size + 4 := by subst hw0; simp
  have b3 : w0.cell? ⟨w.heap.size, 1, none⟩ = some (Value.slice A1 n c1) := by subst hw0; go_simp
  have b4 : w0.cell? ⟨w.heap.size + 1, 1, none⟩ = some (Value.slice A2 n c2) := by subst hw0; go_simp
  have b6 : Bk w0 (w.heap.size + 1 + 1) 26 #[Value.int IntKind.u64 0, Value.slice none 0 0] := by subst hw0; exact (Bk.at (by simp)).alloc _
  have b7 : Bk w0 (w.heap.size + 1 + 1 + 1) 26 #[Value.int IntKind.u64 v, Value.slice none 0 0] := by subst hw0; exact Bk.at (by simp)
  rw [← hw0]
  clear hw0
  have S0 := Lib.hid s0
  go_loopw [7] (fun t wr => ∃ (k : Nat) (A : Option Addr) (c : Nat), k ≤ n ∧ t = .int .i64 k ∧ Below (w.heap.size + 3) w0 wr ∧ Bk wr (w.heap.size + 1 + 1 + 1) 26 #[.int .u64 v, .slice A k c] ∧ Own wr (w.heap.size + 4) 74 1 A k c (wds (List.zipWith min (l1.take k) (l2.take k))))
    (fun t _ => n - (intOf t).toNat)
  case atStart => exact ⟨0, _, _, Nat.zero_le _, rfl, Below.refl _ _, b7, by simpa [wds] using Own.nil _ _ _ _⟩
  case round =>
    obtain ⟨k, A, c, hk, rfl, hbl, hb8, hown⟩ := hrel
    have q3 := cell_below hbl b3 (by simp)
    have q4 := cell_below hbl b4 (by simp)
    by_cases hlt : k < n
    · obtain ⟨a1, ha1, hc1, k1⟩ := h1.word hlt
      obtain ⟨a2, ha2, hc2, k2⟩ := h2.word hlt
      have q8 := hb8.cell 1
      have f8 := hb8.free 1
      have d1 := cell_below hbl (x0.cell hc1) (by simp only [block_add]; omega)
      have d2 := cell_below hbl (x0.cell hc2) (by simp only [block_add]; omega)
      simp at q8
      obtain ⟨x, hx⟩ : ∃ x, l1.getD k 0 = x := ⟨_, rfl⟩
      obtain ⟨y, hy⟩ : ∃ y, l2.getD k 0 = y := ⟨_, rfl⟩
      obtain ⟨m, hm2⟩ : ∃ m, min x y = m := ⟨_, rfl⟩
      have vm : (if y < x then y else x) = m := by rw [← hm2]; split <;> omega
      rw [hx] at d1
      rw [hy] at d2
      have HM : Hid (min (l1.getD k 0) (l2.getD k 0) = m) := Lib.hid (by rw [hx, hy]; exact hm2)
      clear hc1 hc2 hx hy hm2
      have i0 : (0 : Int) ≤ (k : Int) := Int.natCast_nonneg _
      have i1 : (k : Int) < (n : Int) := by omega
      have hsz := hbl.size
      go_wp2
      have X : Ext wr wr.drew := (Ext.refl wr).drew
      have q3' : ∀ y : Xt wr.drew, y.W.cell? ⟨w.heap.size, 1, none⟩ = some (.slice A1 n c1) := fun y => y.x.cell (X.cell q3)
      have q4' : ∀ y : Xt wr.drew, y.W.cell? ⟨w.heap.size + 1, 1, none⟩ = some (.slice A2 n c2) := fun y => y.x.cell (X.cell q4)
      have q8' : ∀ y : Xt wr.drew, y.W.cell? ⟨w.heap.size + 1 + 1 + 1, 1, none⟩ = some (.slice A k c) := fun y => y.x.cell (X.cell q8)
      have d1' : ∀ y : Xt wr.drew, y.W.cell? (a1.add k) = some (.int .u32 x) := fun y => y.x.cell (X.cell d1)
      have d2' : ∀ z : Xt wr.drew, z.W.cell? (a2.add k) = some (.int .u32 y) := fun z => z.x.cell (X.cell d2)
      refine wp_region_ord [0,1,0,4,0,28,60,0,128,0,896,1920,4092,8188,16383,32767,65535] (.flo [0,1,2,3,4,5,6,7,8,9,10,11,12] (.ext 13 (.one 14 (.flo [15] (.one 16 (.fin)))))) (by kernel_rfl) (by kernel_rfl) (by intro _ _ d _ _ h; cases d <;> exact h) ?_
      (refine ord_flo (pick_cons rfl (pick_cons rfl (pick_cons rfl (pick_cons rfl (pick_cons rfl (pick_cons rfl (pick_cons rfl (pick_cons rfl (pick_cons rfl (pick_cons rfl (pick_cons rfl (pick_cons rfl (pick_cons rfl pick_nil))))))))))))) ?_; (repeat (go_big_quiet_step (fail))); refine wpQuiet_nil ?_; show ordWalk _ _ _ _ _ _ _)
      refine ord_ext (pick_cons rfl pick_nil) ?_; intro K_ hK_
      go_wp2
      refine ordNext.mk ((Ext.refl _).alloc _) ?_
      refine ord_one (pick_cons rfl pick_nil) ?_; intro K_ hK_
      go_wp2_with (at_builtin; refine wpList_append_gen _ elemWords (w.heap.size + 4) _ _ (by rfl) (by rfl) A k c _ (by rfl) ((hown.alloc _).drew) (some ⟨wr.heap.size, 0, none⟩) 1 1 _ (by rfl) ((Sl.one wr _ _ 1 rfl).drew) (by simp [Value.oneCell']) (by omega) (by omega) (by simp; omega) ?_; intro A' c' w1 ho1 hg1 hk1)
      have b81 := Bk.grown (by exact (hb8.alloc _).drew) hg1 (hown.ne (by simp))
      have f81 := b81.free 1
      have q81 : w1.cell? ⟨w.heap.size + 1 + 1 + 1, 1, none⟩ = some (.slice A k c) := b81.cell 1
      (refine ord_flo (pick_cons rfl pick_nil) ?_; (repeat (go_big_quiet_step (fail))); refine wpQuiet_nil ?_; show ordWalk _ _ _ _ _ _ _)
      refine ord_one (pick_cons rfl pick_nil) ?_; intro K_ hK_
      go_wp2
      refine ord_fin ?_
      go_wp2
      rw [← ha1, ← ha2]
      go_roundw
      case rel =>
        refine ⟨k + 1, A', c', by omega, by go_num, ?_, ?_, ?_⟩
        · exact (((hbl.alloc (by omega) _).drew).grown hg1 (by simp; omega) (fun g hg => by have := hown.lt g hg; omega)).setCell (by simp) _
        · exact b81.set 1 _
        · refine (show Own _ _ _ _ _ _ _ _ from ?_)
          have hl1 := h1.wlen
          have hl2 := h2.wlen
          have hm9 := HM.out
          rw [take_succ_getD _ _ (by omega), take_succ_getD _ _ (by omega), List.zipWith_append (by simp; omega), ← wds_append, List.zipWith_cons_cons, List.zipWith_nil_left, hm9]
          exact (ho1.far (by rcases hk1 with e | e <;> rw [e]; exact hown.ne (by simp); simp; omega) _)
      case measure => simp [intOf]; omega
    · obtain rfl : k = n := by omega
      have r0 : wr.cell? ⟨w.heap.size + 1 + 1 + 1, 0, none⟩ = some (.int .u64 v) := hb8.cell 0
      have r1 : wr.cell? ⟨w.heap.size + 1 + 1 + 1, 1, none⟩ = some (.slice A k c) := hb8.cell 1
      have b6r := b6.below hbl (by omega)
      have r2 : wr.cell? ⟨w.heap.size + 1 + 1, 0, none⟩ = some (.int .u64 0) := b6r.cell 0
      have r3 : wr.cell? ⟨w.heap.size + 1 + 1, 1, none⟩ = some (.slice none 0 0) := b6r.cell 1
      have r4 := b6r.free 0
      have r5 := b6r.free 1
      have bb := (b6r.set 0 (.int .u64 v)).set 1 (.slice A k c)
      have q0 : ((wr.setCell ⟨w.heap.size + 1 + 1, 0, none⟩ (.int .u64 v)).setCell ⟨w.heap.size + 1 + 1, 1, none⟩ (.slice A k c)).cell? ⟨w.heap.size + 1 + 1, 0, none⟩ = some (.int .u64 v) := bb.cell 0
      have q1 : ((wr.setCell ⟨w.heap.size + 1 + 1, 0, none⟩ (.int .u64 v)).setCell ⟨w.heap.size + 1 + 1, 1, none⟩ (.slice A k c)).cell? ⟨w.heap.size + 1 + 1, 1, none⟩ = some (.slice A k c) := bb.cell 1
      go_wp2
      refine bodyPost_ret (v := .tuple #[.agg #[.int .u64 v, .slice A k c], .int .i64 0]) (by simp [results, Tryz.results72, go_sem, q0, q1]) rfl ?_
      refine ⟨A, c, rfl, ?_, ?_⟩
      · have hl1 := h1.wlen
        have hl2 := h2.wlen
        rw [List.take_of_length_le (by omega), List.take_of_length_le (by omega)] at hown
        exact ((hown.mono (by omega)).far (hown.ne (by simp)) _).far (hown.ne (by simp)) _
      · have e1 : Ext w wr := Below.trans x0 (hbl.mono (by omega))
        exact (e1.set (by simp; omega) _).set (by simp; omega) _
theorem rmeet_any (e1 e2 : Int) (A1 A2 : Option Addr) (n1 n2 c1 c2 : Nat) (l1 l2 : List Int) (w : World) (h1 : Sl w 1 A1 n1 c1 (wds l1)) (h2 : Sl w 1 A2 n2 c2 (wds l2)) (hn : n1 ≤ 1000000) :
    Calls Tryz.prog 72 #[.agg #[.int .u64 e1, .slice A1 n1 c1], .agg #[.int .u64 e2, .slice A2 n2 c2]] w (RTimeOut w (meetT e1 l1 e2 l2)) := by
  have e3 := h1.wlen
  have e4 := h2.wlen
  unfold meetT
  by_cases h : n1 = n2
  · subst h
    rw [if_pos (by omega)]
    refine (rmeet_same e1 e2 A1 A2 n1 c1 c2 l1 l2 w h1 h2 (by omega)).mono ?_
    rintro r w1 ⟨A, c, rfl, ho, x⟩
    have hz : (List.zipWith min l1 l2).length = n1 := by simp; omega
    exact ⟨A, c, by simp only [hz], by simp only [hz]; exact ho, x⟩
  · rw [if_neg (by omega)]
    refine (rmeet_diff e1 e2 A1 A2 n1 n2 c1 c2 w (by simp; omega)).mono ?_
    rintro r w1 ⟨rfl, x⟩
    exact ⟨none, 0, rfl, Own.nil _ _ _ _, x⟩
end Go.Proofs.YtmdakaflmheidaaGreatDoor
