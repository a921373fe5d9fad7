/- stamp.each, Join, Meet: what they answer of any two times. Conditions: the slices are as readings give them. -/
import Derived.Test.YtmdakaflmheidaaGreatDoorOrd
import Derived.Test.YtmdakaflmheidaaGreatDoorChecked
namespace Go.Proofs.YtmdakaflmheidaaGreatDoor
open Go.RowKit

theorem elemWords : Elem Tryz.prog 24 74 1 4 (.int .u32 0) := ⟨by kernel_rfl, by kernel_rfl, rfl, by omega⟩

set_option maxRecDepth 100000 in
set_option maxHeartbeats 800000 in
theorem each_same (g : Int → Int → Int) (F : Nat) (hent : ∀ args w, Sem.run Tryz.prog (callFunc F args) w = .ok (.enter F args) w) (hF : ∀ x y w, Calls Tryz.prog F #[.int .u64 x, .int .u64 y] w fun e w' => e = .returned (.int .u64 (g x y)) ∧ w = w')
    (hg : ∀ x y, 0 ≤ x → x ≤ 4294967295 → 0 ≤ y → y ≤ 4294967295 → 0 ≤ g x y ∧ g x y ≤ 4294967295)
    (e1 e2 : Int) (A1 A2 : Option Addr) (n c1 c2 : Nat) (l1 l2 : List Int) (w : World) (h1 : Sl w 1 A1 n c1 (wds l1)) (h2 : Sl w 1 A2 n c2 (wds l2)) (u1 : U32 l1) (u2 : U32 l2) (hn : n * 4 ≤ 140737488355328) :
    Calls Tryz.prog 87 #[.agg #[.int .u64 e1, .slice A1 n c1], .agg #[.int .u64 e2, .slice A2 n c2], .func (.func F) #[] #[]] w fun e w' =>
      ∃ A c, e = .returned (.tuple #[.agg #[.int .u64 (g e1 e2), .slice A n c], .int .u16 0]) ∧ Own w' w.heap.size 74 1 A n c (wds (List.zipWith g l1 l2)) ∧ Ext w w' := by
  have hm := h1.le
  have he : ((n : Int) != (n : Int)) = false := by simp
  have HF := Lib.hid hF
  have HG := Lib.hid hg
  clear hF hg
  go_enter Tryz.func87, Tryz.ntmps87
  go_wp2_with (refine (HF.out _ _ _).mono ?_; rintro e w1 ⟨rfl, rfl⟩)
  obtain ⟨w0, hw0⟩ : ∃ w0, w0 = ((w.alloc (Obj.cells #[Value.int IntKind.u64 e1, Value.slice A1 n c1] 26)).alloc (Obj.cells #[Value.int IntKind.u64 e2, Value.slice A2 n c2] 26)).alloc
      (Obj.cells #[Value.int IntKind.u64 0, Value.slice none 0 0] 26) := ⟨_, rfl⟩
  have x0 : Ext w w0 := hw0 ▸ (((Ext.refl w).alloc _).alloc _).alloc _
  have s0 : w0.heap.size = w.heap.size + 3 := by subst hw0; simp
  have b3 : w0.cell? ⟨w.heap.size, 1, none⟩ = some (Value.slice A1 n c1) := by subst hw0; go_simp
  have b4 : w0.cell? ⟨w.heap.size + 1, 1, none⟩ = some (Value.slice A2 n c2) := by subst hw0; go_simp
  have b6 : Bk w0 (w.heap.size + 1 + 1) 26 #[Value.int IntKind.u64 0, Value.slice none 0 0] := by subst hw0; exact Bk.at (by simp)
  rw [← hw0]
  clear hw0
  have S0 := Lib.hid s0
  go_loopw [28] (fun t wr => ∃ (k : Nat) (A : Option Addr) (c : Nat), k ≤ n ∧ t = .int .i64 k ∧ Below (w.heap.size + 3) w0 wr ∧ Bk wr (w.heap.size + 1 + 1 + 1) 26 #[.int .u64 (g e1 e2), .slice A k c] ∧ Own wr (w.heap.size + 4) 74 1 A k c (wds (List.zipWith g (l1.take k) (l2.take k))))
    (fun t _ => n - (intOf t).toNat)
  case atStart =>
    refine ⟨0, _, _, Nat.zero_le _, rfl, ?_, ?_, by simpa [wds] using Own.nil _ _ _ _⟩
    · exact (Below.refl _ _).alloc (by omega) _
    · have := Bk.new w0 26 #[.int .u64 (g e1 e2), Value.slice none 0 0]
      rw [s0] at this
      exact this
  case round =>
    obtain ⟨k, A, c, hk, rfl, hbl, hb8, hown⟩ := hrel
    by_cases hlt : k < n
    · obtain ⟨a1, ha1, hc1, k1⟩ := h1.word hlt
      obtain ⟨a2, ha2, hc2, k2⟩ := h2.word hlt
      have q3 := cell_below hbl b3 (by simp)
      have q4 := cell_below hbl b4 (by simp)
      have q8 := hb8.cell 1
      have f8 := hb8.free 1
      have d1 := cell_below hbl (x0.cell hc1) (by simp only [block_add]; omega)
      have d2 := cell_below hbl (x0.cell hc2) (by simp only [block_add]; omega)
      simp at q8
      have C1 := Lib.hid hc1
      have C2 := Lib.hid hc2
      clear hc1 hc2
      have i0 : (0 : Int) ≤ (k : Int) := Int.natCast_nonneg _
      have i1 : (k : Int) < (n : Int) := by omega
      have hsz := hbl.size
      have r1 := u1.at k
      have r2 := u2.at k
      have R := HG.out _ _ r1.1 r1.2 r2.1 r2.2
      have E1 : IntKind.u64.wrap (l1[k]?.getD 0) = l1[k]?.getD 0 := IntWalk.u64_in _ (by omega)
      have E2 : IntKind.u64.wrap (l2[k]?.getD 0) = l2[k]?.getD 0 := IntWalk.u64_in _ (by omega)
      have E3 : IntKind.u32.wrap (g (l1[k]?.getD 0) (l2[k]?.getD 0)) = g (l1[k]?.getD 0) (l2[k]?.getD 0) := IntWalk.u32_in _ (by omega)
      go_wp2
      refine wp_region_ord [0,1,0,0,8,0,56,120,248,0,512,0,3584,7680,15872,32764,65532,131068,262143,524287,1048575] (.flo [0,1,2,3,4,5,6,7,8,9,10,11,12,13,14] (.ext 15 (.flo [16] (.ext 17 (.one 18 (.flo [19] (.one 20 (.fin)))))))) (by kernel_rfl) (by kernel_rfl) (by intro _ _ d _ _ h; cases d <;> exact h) ?_
      have X : Ext wr wr.drew := (Ext.refl wr).drew
      have q3' : ∀ y : Xt wr.drew, y.W.cell? ⟨w.heap.size, 1, none⟩ = some (.slice A1 n c1) := fun y => y.x.cell (X.cell q3)
      have q4' : ∀ y : Xt wr.drew, y.W.cell? ⟨w.heap.size + 1, 1, none⟩ = some (.slice A2 n c2) := fun y => y.x.cell (X.cell q4)
      have q8' : ∀ y : Xt wr.drew, y.W.cell? ⟨w.heap.size + 1 + 1 + 1, 1, none⟩ = some (.slice A k c) := fun y => y.x.cell (X.cell q8)
      have d1' : ∀ y : Xt wr.drew, y.W.cell? (a1.add k) = some (.int .u32 (l1.getD k 0)) := fun y => y.x.cell (X.cell d1)
      have d2' : ∀ y : Xt wr.drew, y.W.cell? (a2.add k) = some (.int .u32 (l2.getD k 0)) := fun y => y.x.cell (X.cell d2)
      (refine ord_flo (pick_cons rfl (pick_cons rfl (pick_cons rfl (pick_cons rfl (pick_cons rfl (pick_cons rfl (pick_cons rfl (pick_cons rfl (pick_cons rfl (pick_cons rfl (pick_cons rfl (pick_cons rfl (pick_cons rfl (pick_cons rfl (pick_cons rfl pick_nil))))))))))))))) ?_; (repeat (go_big_quiet_step (fail))); refine wpQuiet_nil ?_; show ordWalk _ _ _ _ _ _ _)
      refine ord_ext (pick_cons rfl pick_nil) ?_; intro K_ hK_
      go_wp2_with (refine (HF.out _ _ _).mono ?_; rintro e w1 ⟨rfl, rfl⟩)
      refine ordNext.mk (Ext.refl _) ?_
      (refine ord_flo (pick_cons rfl pick_nil) ?_; (repeat (go_big_quiet_step (fail))); refine wpQuiet_nil ?_; show ordWalk _ _ _ _ _ _ _)
      refine ord_ext (pick_cons rfl pick_nil) ?_; intro K_ hK_
      go_wp2
      refine ordNext.mk ((Ext.refl _).alloc _) ?_
      refine ord_one (pick_cons rfl pick_nil) ?_; intro K_ hK_
      go_wp2_with (at_builtin; refine wpList_append_gen _ elemWords (w.heap.size + 4) _ _ (by rfl) (by rfl) A k c _ (by rfl) ((hown.alloc _).drew) (some ⟨wr.heap.size, 0, none⟩) 1 1 _ (by rfl) ((Sl.one wr _ _ 1 rfl).drew) (by simp [Value.oneCell']) (by omega) (by omega) (by simp; omega) ?_; intro A' c' w1 ho1 hg1 hk1)
      have b81 := Bk.grown (by exact (hb8.alloc _).drew) hg1 (hown.ne (by simp))
      have f81 := b81.free 1
      have q81 : w1.cell? ⟨w.heap.size + 1 + 1 + 1, 1, none⟩ = some (.slice A k c) := b81.cell 1
      (refine ord_flo (pick_cons rfl pick_nil) ?_; (repeat (go_big_quiet_step (fail))); refine wpQuiet_nil ?_; show ordWalk _ _ _ _ _ _ _)
      refine ord_one (pick_cons rfl pick_nil) ?_; intro K_ hK_
      go_wp2
      refine ord_fin ?_
      go_wp2
      rw [← ha1, ← ha2]
      go_roundw
      case rel =>
        refine ⟨k + 1, A', c', by omega, by go_num, ?_, ?_, ?_⟩
        · exact (((hbl.alloc (by omega) _).drew).grown hg1 (by simp; omega) (fun g hg => by have := hown.lt g hg; omega)).setCell (by simp) _
        · exact b81.set 1 _
        · refine (show Own _ _ _ _ _ _ _ _ from ?_)
          have hl1 := h1.wlen
          have hl2 := h2.wlen
          rw [take_succ_getD _ _ (by omega), take_succ_getD _ _ (by omega), List.zipWith_append (by simp; omega), ← wds_append]
          exact (ho1.far (by rcases hk1 with e | e <;> rw [e]; exact hown.ne (by simp); simp; omega) _)
      case measure => simp [intOf]; omega
    · obtain rfl : k = n := by omega
      have r0 : wr.cell? ⟨w.heap.size + 1 + 1 + 1, 0, none⟩ = some (.int .u64 (g e1 e2)) := hb8.cell 0
      have r1 : wr.cell? ⟨w.heap.size + 1 + 1 + 1, 1, none⟩ = some (.slice A k c) := hb8.cell 1
      have b6r := b6.below hbl (by omega)
      have r2 : wr.cell? ⟨w.heap.size + 1 + 1, 0, none⟩ = some (.int .u64 0) := b6r.cell 0
      have r3 : wr.cell? ⟨w.heap.size + 1 + 1, 1, none⟩ = some (.slice none 0 0) := b6r.cell 1
      have r4 := b6r.free 0
      have r5 := b6r.free 1
      have bb := (b6r.set 0 (.int .u64 (g e1 e2))).set 1 (.slice A k c)
      have q0 : ((wr.setCell ⟨w.heap.size + 1 + 1, 0, none⟩ (.int .u64 (g e1 e2))).setCell ⟨w.heap.size + 1 + 1, 1, none⟩ (.slice A k c)).cell? ⟨w.heap.size + 1 + 1, 0, none⟩ = some (.int .u64 (g e1 e2)) := bb.cell 0
      have q1 : ((wr.setCell ⟨w.heap.size + 1 + 1, 0, none⟩ (.int .u64 (g e1 e2))).setCell ⟨w.heap.size + 1 + 1, 1, none⟩ (.slice A k c)).cell? ⟨w.heap.size + 1 + 1, 1, none⟩ = some (.slice A k c) := bb.cell 1
      go_wp2
      refine bodyPost_ret (v := .tuple #[.agg #[.int .u64 (g e1 e2), .slice A k c], .int .u16 0]) (by simp [results, Tryz.results87, go_sem, q0, q1]) rfl ?_
      refine ⟨A, c, rfl, ?_, ?_⟩
      · have hl1 := h1.wlen
        have hl2 := h2.wlen
        rw [List.take_of_length_le (by omega), List.take_of_length_le (by omega)] at hown
        exact ((hown.mono (by omega)).far (hown.ne (by simp)) _).far (hown.ne (by simp)) _
      · have e1 : Ext w wr := Below.trans x0 (hbl.mono (by omega))
        exact (e1.set (by simp; omega) _).set (by simp; omega) _
end Go.Proofs.YtmdakaflmheidaaGreatDoor
