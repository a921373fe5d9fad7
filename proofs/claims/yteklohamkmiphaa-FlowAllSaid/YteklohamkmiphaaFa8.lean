/- A row of structs that the library has sorted, in the words of owned slices. Contracts of library functions at this seat, laid by a tool of the kit. flow.order; slices.SortFunc at ways by it: a permutation that rises. A search's end: each place's ways are put in order. Regions that draw their order, where an operation may write to blocks of a set S besides making new ones: a fixed order serves every order. flow.least. The document's search: its beginning, what it tells at the end. What All tells, in memory. Conditions: each theorem states its own. -/
import Derived.Test.YteklohamkmiphaaFa4
import Derived.Shelf.SlSortCmp.WholeK
import Derived.Shelf.SlGeneric
import Derived.Ground.SlsfProg
import Derived.Test.YteklohamkmiphaaProg
import Derived.Test.YteklohamkmiphaaFa7
import Derived.Test.YteklohamkmiphaaFa6
import Derived.Test.YteklohamkmiphaaFa2
import Derived.Deep.LoopGhost
import Derived.WalkMore
namespace Go.Proofs.Yteklohamkmiphaa
open Go.RowKit

section
variable {α : Type} [Inhabited α] (enc : α → List Value) (k : Nat) (hk : ∀ x, (enc x).length = k) (k0 : 0 < k)
include hk
omit [Inhabited α] in
theorem flat_len : ∀ l : List α, (l.flatMap enc).length = l.length * k
  | [] => by simp
  | x :: l => by rw [List.flatMap_cons, List.length_append, hk, flat_len l, List.length_cons, Nat.add_mul]; omega
include k0
theorem flat_at : ∀ (l : List α) (t : Nat), t < l.length * k → (l.flatMap enc)[t]? = (enc (l.getD (t / k) default))[t % k]?
  | [], t, h => absurd h (by simp)
  | x :: l, t, h => by
    rw [List.flatMap_cons]
    by_cases q : t < k
    · rw [List.getElem?_append_left (by rw [hk]; exact q), Nat.div_eq_of_lt q, Nat.mod_eq_of_lt q]; rfl
    · rw [List.length_cons, Nat.add_mul] at h
      rw [List.getElem?_append_right (by rw [hk]; omega), hk, flat_at l (t - k) (by omega)]
      have e1 : t / k = (t - k) / k + 1 := Nat.div_eq_sub_div k0 (by omega)
      have e2 : t % k = (t - k) % k := Nat.mod_eq_sub_mod (by omega)
      rw [e1, e2]
      rfl
theorem flat_get (d : Array α) {t : Nat} (h : t < d.size * k) : (d.toList.flatMap enc)[t]? = some ((Go.Sort.flatK enc k d)[t]!) := by
  rw [flat_at enc k hk k0 _ t (by simpa using h), Go.Sort.get_flatK enc k d t h]
  have h1 : t / k < d.size := (Nat.div_lt_iff_lt_mul k0).2 h
  have h2 : t % k < k := Nat.mod_lt _ k0
  have e : d.toList.getD (t / k) default = d[t / k]! := by
    rw [List.getD_eq_getElem?_getD, Array.getElem?_toList, Array.getElem!_eq_getD, Array.getD_eq_getD_getElem?]
  rw [e]
  have h3 : t % k < (enc d[t / k]!).length := by rw [hk]; exact h2
  rw [List.getElem?_eq_getElem h3, getElem!_pos (enc d[t / k]!) _ h3]
theorem own_holds {w : World} {B blk c : Nat} {T : TypeId} {d : Array α} (h : Own w B T k (some ⟨blk, 0, none⟩) d.size c (d.toList.flatMap enc)) (hd : 0 < d.size) : Go.Sort.HoldsK enc k w blk 0 d := by
  obtain ⟨g, e, _, _, _, hc, hf⟩ := h.form hd
  injection e with e
  injection e with e
  subst e
  intro j hj
  rw [Go.Sort.size_flatK] at hj
  refine ⟨?_, hf _⟩
  rw [Nat.zero_add]
  exact hc j _ (flat_get enc k hk k0 d hj)
theorem sorted_own {w : World} {B blk c n : Nat} {T : TypeId} {d d' : Array α} {os : Array Obj} (h : Own w B T k (some ⟨blk, 0, none⟩) d.size c (d.toList.flatMap enc)) (hd : 0 < d.size) (hs : d'.size = d.size) :
    Own (sortWorldK enc k w blk 0 n d' os) B T k (some ⟨blk, 0, none⟩) d.size c (d'.toList.flatMap enc) ∧ Upd (fun q => q = blk) w (sortWorldK enc k w blk 0 n d' os) := by
  obtain ⟨h1, h2⟩ := h
  rcases h2 with h2 | ⟨g, cur, e, hb, hg, hnc, hcm, hcs, htake⟩
  · omega
  · injection e with e
    injection e with e
    subst e
    have hlt : blk < w.heap.size := (Array.getElem?_eq_some_iff.1 hg).1
    have hheap : (sortWorldK enc k w blk 0 n d' os).heap[blk]? = some (.cells (Go.Sort.putCells id 0 (Go.Sort.flatK enc k d') cur) T (0, 0)) := by
      show (w.heap.modify blk _ ++ os)[blk]? = _
      rw [Array.getElem?_append_left (by simpa using hlt), Array.getElem?_modify, if_pos rfl, hg]
      rfl
    refine ⟨⟨by rw [flat_len enc k hk, Array.length_toList, hs], .inr ⟨blk, _, rfl, hb, hheap, hnc, hcm, by simpa [Go.Sort.putCells] using hcs, ?_⟩⟩, ?_⟩
    · refine List.ext_getElem? fun t => ?_
      rw [List.getElem?_take]
      by_cases ht : t < d.size * k
      · rw [if_pos ht, flat_get enc k hk k0 d' (by rw [hs]; exact ht), Array.getElem?_toList]
        have hcz : t < cur.size := Nat.lt_of_lt_of_le (Nat.lt_of_lt_of_le ht (Nat.mul_le_mul_right _ hnc)) hcs
        simp only [Go.Sort.putCells, Array.getElem?_mapIdx, Array.getElem?_eq_getElem hcz, Option.map_some]
        rw [if_pos ⟨Nat.zero_le _, by rw [Go.Sort.size_flatK, hs]; omega⟩]
        rfl
      · rw [if_neg ht, List.getElem?_eq_none (by rw [flat_len enc k hk, Array.length_toList, hs]; omega)]
    · refine ⟨rfl, rfl, rfl, ?_, fun q hq hn => ?_⟩
      · show w.heap.size ≤ (w.heap.modify blk _ ++ os).size
        simp
      · show (w.heap.modify blk _ ++ os)[q]? = _
        rw [Array.getElem?_append_left (by simpa using hq), Array.getElem?_modify, if_neg (fun e => hn e.symm)]
end
/-- the sort's answer as lists -/
theorem sorted_list {α : Type} [Inhabited α] {lt : α → α → Bool} {d d' : Array α} (hp : Go.Sort.PermIn 0 d.size d d') (hs : Go.Sort.SortedIn lt 0 d.size d') : d'.size = d.size ∧ d'.toList.Perm d.toList ∧ d'.toList.Pairwise fun x y => lt y x = false := by
  obtain ⟨h1, _, h3⟩ := hp
  refine ⟨h1, ?_, List.pairwise_iff_getElem.2 fun i j hi hj hij => ?_⟩
  · have e1 : d.extract 0 d.size = d := by simp
    have e2 : d'.extract 0 d.size = d' := by rw [← h1]; simp
    rwa [e1, e2] at h3
  · have hi' : i < d'.size := by simpa using hi
    have hj' : j < d'.size := by simpa using hj
    have := hs i j (Nat.zero_le _) hij (by omega)
    rw [getElem!_pos d' j hj', getElem!_pos d' i hi'] at this
    simpa using this
end Go.Proofs.Yteklohamkmiphaa
namespace Go.Proofs
open Go.Shelf
def Try.sortPaths_ren : Go.Shelf.Ren := ⟨fun | 6 => 55 | 15 => 69 | 14 => 68 | 28 => 85 | 29 => 86 | 20 => 77 | 21 => 78 | 22 => 79 | 23 => 80 | 24 => 81 | 25 => 82 | 26 => 83 | 27 => 84 | 46 => 92 | 47 => 93 | 48 => 94 | 49 => 95 | 50 => 96 | 57 => 99 | n => n, fun | 22 => 42 | 24 => 47 | 25 => 111 | 3 => 3 | 39 => 131 | 0 => 0 | 53 => 45 | 55 => 29 | 4 => 4 | 46 => 141 | 45 => 140 | 50 => 38 | 5 => 5 | 9 => 9 | 66 => 152 | 70 => 156 | 76 => 159 | 77 => 160 | n => n, fun | n => n⟩
theorem Try.sortPaths : Go.Proofs.SlLaysF0.n6 Try.prog Try.sortPaths_ren := {
  mixed := by kernel_rfl
  f6 := ⟨Try.f55.name, by decide, Try.func55.trans (congrArg some (by kernel_rfl))⟩
  f14 := ⟨Try.f68.name, by decide, Try.func68.trans (congrArg some (by kernel_rfl))⟩
  f15 := Try.func69.trans (congrArg some (by kernel_rfl))
  f20 := ⟨Try.f77.name, by decide, Try.func77.trans (congrArg some (by kernel_rfl))⟩
  f21 := ⟨Try.f78.name, by decide, Try.func78.trans (congrArg some (by kernel_rfl))⟩
  f22 := ⟨Try.f79.name, by decide, Try.func79.trans (congrArg some (by kernel_rfl))⟩
  f23 := ⟨Try.f80.name, by decide, Try.func80.trans (congrArg some (by kernel_rfl))⟩
  f24 := ⟨Try.f81.name, by decide, Try.func81.trans (congrArg some (by kernel_rfl))⟩
  f25 := ⟨Try.f82.name, by decide, Try.func82.trans (congrArg some (by kernel_rfl))⟩
  f26 := ⟨Try.f83.name, by decide, Try.func83.trans (congrArg some (by kernel_rfl))⟩
  f27 := ⟨Try.f84.name, by decide, Try.func84.trans (congrArg some (by kernel_rfl))⟩
  f28 := Try.func85.trans (congrArg some (by kernel_rfl))
  f29 := Try.func86.trans (congrArg some (by kernel_rfl))
  f46 := ⟨Try.f92.name, by decide, Try.func92.trans (congrArg some (by kernel_rfl))⟩
  f47 := Try.func93.trans (congrArg some (by kernel_rfl))
  f48 := Try.func94.trans (congrArg some (by kernel_rfl))
  f49 := ⟨Try.f95.name, by decide, Try.func95.trans (congrArg some (by kernel_rfl))⟩
  f50 := ⟨Try.f96.name, by decide, Try.func96.trans (congrArg some (by kernel_rfl))⟩
  f57 := ⟨Try.f99.name, by decide, Try.func99.trans (congrArg some (by kernel_rfl))⟩
  t0 := Try.underlying0
  a0 := Try.isAgg0
  z0 := Try.sizeOf0
  v0 := Try.zeroValue0
  t3 := Try.underlying3
  a3 := Try.isAgg3
  z3 := Try.sizeOf3
  v3 := Try.zeroValue3
  t4 := Try.underlying4
  a4 := Try.isAgg4
  z4 := Try.sizeOf4
  v4 := Try.zeroValue4
  t5 := Try.underlying5
  a5 := Try.isAgg5
  z5 := Try.sizeOf5
  v5 := Try.zeroValue5
  t9 := Try.underlying9
  a9 := Try.isAgg9
  z9 := Try.sizeOf9
  v9 := Try.zeroValue9
  t22 := Try.underlying42
  a22 := Try.isAgg42
  z22 := Try.sizeOf42
  v22 := Try.zeroValue42
  t25 := Try.underlying111
  a25 := Try.isAgg111
  z25 := Try.sizeOf111
  v25 := Try.zeroValue111
  t39 := Try.underlying131
  a39 := Try.isAgg131
  z39 := Try.sizeOf131
  v39 := Try.zeroValue131
  t45 := Try.underlying140
  a45 := Try.isAgg140
  z45 := Try.sizeOf140
  v45 := Try.zeroValue140
  t46 := Try.underlying141
  a46 := Try.isAgg141
  z46 := Try.sizeOf141
  v46 := Try.zeroValue141
  t50 := Try.underlying38
  a50 := Try.isAgg38
  z50 := Try.sizeOf38
  v50 := Try.zeroValue38
  t53 := Try.underlying45
  a53 := Try.isAgg45
  z53 := Try.sizeOf45
  v53 := Try.zeroValue45
  t55 := Try.underlying29
  a55 := Try.isAgg29
  z55 := Try.sizeOf29
  v55 := Try.zeroValue29
  t66 := Try.underlying152
  a66 := Try.isAgg152
  z66 := Try.sizeOf152
  v66 := Try.zeroValue152
  t70 := Try.underlying156
  a70 := Try.isAgg156
  z70 := Try.sizeOf156
  v70 := Try.zeroValue156
  t76 := Try.underlying159
  a76 := Try.isAgg159
  z76 := Try.sizeOf159
  v76 := Try.zeroValue159
  t77 := Try.underlying160
  a77 := Try.isAgg160
  z77 := Try.sizeOf160
  v77 := Try.zeroValue160 }
end Go.Proofs
namespace Go.Proofs.Yteklohamkmiphaa
open Go.RowKit

/-- new blocks, draws: nothing else -/
def Grw (w w' : World) : Prop := ∃ q os, w' = Go.Sort.grow (w.drewN q) os
theorem Grw.refl (w : World) : Grw w w := ⟨0, #[], by rw [Go.Sort.grow_empty]; rfl⟩
theorem Grw.alloc {a w : World} (h : Grw a w) (o : Obj) : Grw a (w.alloc o) := by
  obtain ⟨q, os, rfl⟩ := h
  exact ⟨q, os ++ #[o], by rw [Go.Sort.alloc_eq_grow, Go.Sort.grow_grow]⟩
theorem Grw.drew {a w : World} (h : Grw a w) : Grw a w.drew := by
  obtain ⟨q, os, rfl⟩ := h
  exact ⟨q + 1, os, rfl⟩
theorem Grw.trans {a b c : World} (h : Grw a b) (k : Grw b c) : Grw a c := by
  obtain ⟨q, os, rfl⟩ := h
  obtain ⟨r, ot, rfl⟩ := k
  exact ⟨q + r, os ++ ot, by
    show Go.Sort.grow (Go.Sort.grow ((a.drewN q).drewN r) os) ot = _
    rw [Go.Sort.grow_grow, drewN_drewN']⟩
set_option maxRecDepth 100000 in
set_option maxHeartbeats 1000000 in
theorem order_grow (La aa Lb ab : Int) (A1 A2 : Option Addr) (n1 n2 c1 c2 : Nat) (l1 l2 : List Int) (w : World) (h1 : Sl w 1 A1 n1 c1 (wds l1)) (h2 : Sl w 1 A2 n2 c2 (wds l2)) :
    Calls Try.prog 56 #[.agg #[.int .i64 La, .int .u32 aa, .slice A1 n1 c1], .agg #[.int .i64 Lb, .int .u32 ab, .slice A2 n2 c2]] w fun e w' => e = .returned (.int .i64 (orT (cmpT La Lb) (cmpT aa ab) (cmpTT 0 l1 0 l2))) ∧ Grw w w' := by
  go_enter Try.func56, Try.ntmps56
  go_upto_region 1 with fail
  obtain ⟨w0, hw0⟩ : ∃ w0, w0 = (w.alloc (Obj.cells #[.int .i64 La, .int .u32 aa, .slice A1 n1 c1] 47)).alloc (Obj.cells #[.int .i64 Lb, .int .u32 ab, .slice A2 n2 c2] 47) := ⟨_, rfl⟩
  have x0 : Ext w w0 := hw0 ▸ ((Ext.refl w).alloc _).alloc _
  have g0 : Grw w w0 := hw0 ▸ ((Grw.refl w).alloc _).alloc _
  have a0 : Bk w0 w.heap.size 47 #[.int .i64 La, .int .u32 aa, .slice A1 n1 c1] := by subst hw0; exact (Bk.new _ _ _).alloc _
  have b0 : Bk w0 (w.heap.size + 1) 47 #[.int .i64 Lb, .int .u32 ab, .slice A2 n2 c2] := by subst hw0; exact Bk.at (by simp)
  rw [← hw0]
  clear hw0
  have X : Ext w0 w0.drew := (Ext.refl w0).drew
  have q1 : ∀ y : Xt w0.drew, y.W.cell? ⟨w.heap.size, 0, none⟩ = some (.int .i64 La) := fun y => (a0.ext (X.trans y.x)).cell 0
  have q2 : ∀ y : Xt w0.drew, y.W.cell? ⟨w.heap.size, 1, none⟩ = some (.int .u32 aa) := fun y => (a0.ext (X.trans y.x)).cell 1
  have q3 : ∀ y : Xt w0.drew, y.W.cell? ⟨w.heap.size, 2, none⟩ = some (.slice A1 n1 c1) := fun y => (a0.ext (X.trans y.x)).cell 2
  have q4 : ∀ y : Xt w0.drew, y.W.cell? ⟨w.heap.size + 1, 0, none⟩ = some (.int .i64 Lb) := fun y => (b0.ext (X.trans y.x)).cell 0
  have q5 : ∀ y : Xt w0.drew, y.W.cell? ⟨w.heap.size + 1, 1, none⟩ = some (.int .u32 ab) := fun y => (b0.ext (X.trans y.x)).cell 1
  have q6 : ∀ y : Xt w0.drew, y.W.cell? ⟨w.heap.size + 1, 2, none⟩ = some (.slice A2 n2 c2) := fun y => (b0.ext (X.trans y.x)).cell 2
  refine wp_region_ord [0,1,0,4,15,0,32,0,128,511,0,1024,3072,0,8192,24576,65535,131071,262143,524287] (.flo [0,1,2,3,5,6,7,8,10,11,12,13,14,15] (.ext 4 (.ext 9 (.one 16 (.one 17 (.one 18 (.flo [19] (.fin)))))))) (by kernel_rfl) (by kernel_rfl) (by intro _ _ d _ _ h; cases d <;> exact h) ?_
  (refine ord_flo (pick_cons rfl (pick_cons rfl (pick_cons rfl (pick_cons rfl (pick_cons rfl (pick_cons rfl (pick_cons rfl (pick_cons rfl (pick_cons rfl (pick_cons rfl (pick_cons rfl (pick_cons rfl (pick_cons rfl (pick_cons rfl pick_nil)))))))))))))) ?_; (repeat (go_big_quiet_step (fail))); refine wpQuiet_nil ?_; show ordWalk _ _ _ _ _ _ _)
  refine ord_ext (pick_cons rfl pick_nil) ?_; intro K_ hK_
  go_wp2_with (refine (compare_int _ _ _).mono ?_; rintro e w1 ⟨rfl, rfl⟩)
  refine ordNext.mk (Ext.refl _) ?_
  refine ord_ext (pick_cons rfl pick_nil) ?_; intro K_ hK_
  go_wp2_with (refine (compare_u32 _ _ _).mono ?_; rintro e w1 ⟨rfl, rfl⟩)
  refine ordNext.mk (Ext.refl _) ?_
  refine ord_one (pick_cons rfl pick_nil) ?_; intro K_ hK_
  go_wp2_with (refine (cmp_grow 0 0 _ _ _ _ _ _ _ _ _ (h1.ext (x0.trans X)) (h2.ext (x0.trans X))).mono ?_; rintro e w1 ⟨rfl, hg⟩; have HG := Lib.hid (Grw.trans g0.drew hg); clear hg)
  refine ord_one (pick_cons rfl pick_nil) ?_; intro K_ hK_
  go_wp2
  refine ord_one (pick_cons rfl pick_nil) ?_; intro K_ hK_
  go_wp2_with (refine (or_eq _ _ _ _ _ _ (by exact Bk.at (by simp))).mono ?_; rintro e w2 ⟨rfl, rfl⟩)
  (refine ord_flo (pick_cons rfl pick_nil) ?_; (repeat (go_big_quiet_step (fail))); refine wpQuiet_nil ?_; show ordWalk _ _ _ _ _ _ _)
  refine ord_fin ?_
  go_wp2
  go_ret
  exact ⟨rfl, HG.out.alloc _⟩

theorem bitsLenP (w : World) : Calls Try.prog 69 #[.int .u64 0] w fun e w' => e = .returned (.int .i64 0) ∧ w = w' := by
  have h := Any.bits_Len (SlLaysF0.n15.bits (P := Try.prog) (ρ := Try.sortPaths_ren) { Try.sortPaths with }) 0 w (by omega) (by omega)
  change Calls Try.prog 69 _ _ _ at h
  exact h.mono fun _ _ ⟨he, hw⟩ => ⟨he, hw.symm⟩
set_option maxRecDepth 100000 in
set_option maxHeartbeats 400000 in
theorem insP_nil (A : Option Addr) (c : Nat) (fv : Value) (w : World) : Calls Try.prog 77 #[.slice A 0 c, .int .i64 0, .int .i64 0, fv] w fun e w' => e = .returned (.tuple #[]) ∧ w = w' := by
  go_enter Try.func77, Try.ntmps77
  go_wp2
  refine wp_loop_rounds 1 ?_
  rw [rounds_succ]
  go_wp2
  go_end0
  exact ⟨rfl, rfl⟩
set_option maxRecDepth 100000 in
set_option maxHeartbeats 1000000 in
theorem pdqP_nil (A : Option Addr) (c : Nat) (z : Int) (fv : Value) (w : World) : Calls Try.prog 68 #[.slice A 0 c, .int .i64 0, .int .i64 0, .int .i64 z, fv] w fun e w' => e = .returned (.tuple #[]) ∧ w = w' := by
  go_enter Try.func68, Try.ntmps68
  go_wp2
  refine wp_loop_rounds 1 ?_
  rw [rounds_succ]
  go_wp2_with (go_at_call 77; refine (insP_nil _ _ _ _).mono ?_; rintro e w' ⟨rfl, rfl⟩)
  (try simp only [Exit.inBlock, Exit.then]); refine bodyPost_ret (results_none rfl _ _ _) rfl ?_
  exact ⟨rfl, rfl⟩
set_option maxRecDepth 100000 in
set_option maxHeartbeats 400000 in
theorem sortP_nil (A : Option Addr) (c : Nat) (fv : Value) (w : World) : Calls Try.prog 55 #[.slice A 0 c, fv] w fun e w' => e = .returned (.tuple #[]) ∧ w = w' := by
  go_enter Try.func55, Try.ntmps55
  go_wp2_with (first
    | (go_at_call 69; refine (bitsLenP _).mono ?_; rintro e w' ⟨rfl, rfl⟩)
    | (go_at_call 68; refine (pdqP_nil _ _ _ _ _).mono ?_; rintro e w' ⟨rfl, rfl⟩))
  go_end0
  exact ⟨rfl, rfl⟩
theorem enters_order : ∀ args w, (callFunc 56 args).run Try.prog w = .ok (.enter 56 args) w := enters_of Try.func56 (by kernel_rfl) rfl
theorem swo_way {α : Type} (v : α → Way) : Go.Sort.SWO (ltOf fun x y : α => wcmp (v x) (v y)) where
  irrefl x := by show decide (wcmp (v x) (v x) < 0) = false; rw [wcmp_zero.2 rfl]; rfl
  trans x y z h1 h2 := by
    replace h1 : decide (wcmp (v x) (v y) < 0) = true := h1
    replace h2 : decide (wcmp (v y) (v z) < 0) = true := h2
    show decide (wcmp (v x) (v z) < 0) = true
    rw [decide_eq_true_iff] at *
    exact wlt_trans _ _ _ h1 h2
  ntrans x y z h1 h2 := by
    replace h1 : decide (wcmp (v x) (v y) < 0) = false := h1
    replace h2 : decide (wcmp (v y) (v z) < 0) = false := h2
    show decide (wcmp (v x) (v z) < 0) = false
    rw [decide_eq_false_iff_not] at *
    intro h
    rcases wlt_total (v x) (v y) with c | c | c
    · exact h1 c
    · rw [c] at h; exact h2 h
    · exact h2 (wlt_trans _ _ _ c h)
theorem attach_flatP {α β : Type} (L : List α) (f : α → List β) : (L.attach.flatMap fun x => f x.1) = L.flatMap f := by
  have h : L.attach.flatMap (fun x => f x.1) = (L.attach.map Subtype.val).flatMap f := by rw [List.flatMap_map]
  rw [h, List.attach_map_subtype_val]
/-- what the sort leaves -/
def SortW (L : List Pm) (B g c m : Nat) (w : World) (e : Ending) (w' : World) : Prop :=
  e = .returned (.tuple #[]) ∧ ∃ L' : List Pm, L'.Perm L ∧ (L'.Pairwise fun x y => ¬ wlt y.w x.w) ∧ Own w' B 47 3 (some ⟨g, 0, none⟩) m c (L'.flatMap pmC) ∧ Upd (fun k => k = g) w w'
set_option maxRecDepth 100000 in
theorem sort_ways (L : List Pm) (B g c m : Nat) (w : World) (hm : m = L.length) (h0 : 0 < m) (o : Own w B 47 3 (some ⟨g, 0, none⟩) m c (L.flatMap pmC)) (ls : ∀ x ∈ L, ∀ w', Upd (fun k => k = g) w w' → PmR w' x) (h9 : m < 4611686018427387904) :
    Calls Try.prog 55 #[.slice (some ⟨g, 0, none⟩) m c, .func (.func 56) #[] #[]] w (SortW L B g c m w) := by
  haveI : Inhabited {x : Pm // x ∈ L} := ⟨⟨L.head (by intro e; subst e; simp at hm; omega), List.head_mem _⟩⟩
  obtain ⟨d, hd⟩ : ∃ d : Array {x : Pm // x ∈ L}, d = L.attach.toArray := ⟨_, rfl⟩
  have ds : d.size = m := by rw [hd, hm]; simp
  have hflat : (d.toList.flatMap fun x => pmC x.1) = L.flatMap pmC := by rw [hd]; exact attach_flatP L pmC
  have hk : ∀ x : {x : Pm // x ∈ L}, (pmC x.1).length = 3 := fun _ => rfl
  have o' : Own w B 47 3 (some ⟨g, 0, none⟩) d.size c (d.toList.flatMap fun x => pmC x.1) := by rw [hflat, ds]; exact o
  have hcmp : CmpLays Try.prog 56 #[] (fun x : {x : Pm // x ∈ L} => pmC x.1) 3 (fun x y => wcmp x.1.w y.1.w) g 0 d.size w := fun q os dk hdk x y => by
    have u := (sorted_own (fun x : {x : Pm // x ∈ L} => pmC x.1) 3 hk (by decide) (n := q) (os := os) o' (by omega) hdk).2
    exact order_grow x.1.w.leave x.1.w.add y.1.w.leave y.1.w.add x.1.A y.1.A x.1.w.enter.length y.1.w.enter.length x.1.c y.1.c x.1.w.enter y.1.w.enter _ (ls _ x.2 _ u) (ls _ y.2 _ u)
  have hcon := AnyQ.slices_SortFunc Try.sortPaths 3 Try.isAgg47 Try.sizeOf47 (fun x : {x : Pm // x ∈ L} => pmC x.1) hk (fun x v hv => pmC_one x.1 v hv) (fun x y => wcmp x.1.w y.1.w) (swo_way fun x : {x : Pm // x ∈ L} => x.1.w) 56 #[] g 0 c d w enters_order hcmp
    (own_holds _ 3 hk (by decide) o' (by omega)) (by have := (o.lt g (by unfold blk; obtain ⟨_, h2⟩ := o.le; cases c with | zero => have := o.le.1; omega | succ c => rfl)).2; exact this) (by omega)
  change Calls Try.prog 55 _ _ _ at hcon
  rw [ds] at hcon
  refine hcon.mono ?_
  rintro e w' ⟨rfl, d', n, os, hp, hs, rfl⟩
  rw [← ds] at hp hs
  obtain ⟨h1, h2, h3⟩ := sorted_list hp hs
  have q := sorted_own (fun x : {x : Pm // x ∈ L} => pmC x.1) 3 hk (by decide) (n := n) (os := os) o' (by omega) h1
  refine ⟨rfl, d'.toList.map Subtype.val, ?_, ?_, ?_, q.2⟩
  · have := h2.map Subtype.val
    rw [hd, List.attach_map_subtype_val] at this
    exact this
  · rw [List.pairwise_map]
    refine h3.imp fun {x y} h => ?_
    replace h : decide (wcmp y.1.w x.1.w < 0) = false := h
    rw [decide_eq_false_iff_not] at h
    exact h
  · have := q.1
    rw [ds] at this
    rw [List.flatMap_map]
    exact this
end Go.Proofs.Yteklohamkmiphaa
namespace Go.Proofs.Yteklohamkmiphaa
open Go.RowKit

/-- a table of least ways in memory -/
structure LeastM (w w' : World) (g : Gr) (fr : Pt) (st : Prop) (kb : Nat) : Prop where
  ex : ∃ L ck K, KmR w w' kb L ck K ∧ Tab g fr st (fun q => (K q).map Pm.w) ∧ (∀ q, ((K q).map Pm.w).Pairwise wlt) ∧ (∀ q, (K q).length ≤ 1263007198127) ∧ ∀ q, ∀ x ∈ K q, Few32 x.w
  x : Ext w w'
/-- the sorts under way -/
structure SrtI (w0 w : World) (kb r : Nat) (L : List Pe) (ck : Nat) (K : Pt → List Pm) (seen : Array Nat) (K' : Pt → List Pm) : Prop where
  ex : Ext w0 w
  tr : TR w kb r L ck seen
  r0 : w0.heap.size ≤ r
  km : KmR w0 w kb L ck K'
  pm : ∀ q, (K' q).Perm (K q)
  so : ∀ x ∈ L, seen.contains x.born = true → (K' x.p).Pairwise (fun a b => ¬ wlt b.w a.w)
section
variable {w0 w w1 w2 : World} {kb r ck : Nat} {L : List Pe} {K K' : Pt → List Pm} {seen : Array Nat}
theorem SrtI.start (k : KmR w0 w kb L ck K) (e0 : Ext w0 w) (e : Ext w w1) (t : TR w1 kb w.heap.size L ck #[]) : SrtI w0 w1 kb w.heap.size L ck K #[] K :=
  ⟨e0.trans e, t, e0.size, k.ext e, fun _ => List.Perm.refl _, fun x _ h => by simp at h⟩
/-- the loop has gone on by one: its list -/
theorem SrtI.take (I : SrtI w0 w kb r L ck K seen K') (g : w.grownBy w1 (some r)) : Ext w0 w1 ∧ KmR w0 w1 kb L ck K' := by
  have u : Upd (fun k => k = r) w w1 := (Upd.refl _ w).grown g (fun k hk => .inl (by injection hk with hk; exact hk.symm))
  refine ⟨upd_ext0 I.ex u (fun k e => by rw [e]; exact I.r0), I.km.upd u (fun k hk e => ?_) (fun k e => by rw [e]; exact I.tr.not_ty _)⟩
  rcases hk with hk | ⟨q, hk⟩
  · exact I.tr.ne (e.symm.trans hk)
  · rw [e] at hk; exact I.tr.not_ty _ (I.km.ty hk)
theorem SrtI.list (I : SrtI w0 w kb r L ck K seen K') (g : w.grownBy w1 (some r)) {x : Pe} (hx : x ∈ L) : ∃ A c, x.v = .slice A (K' x.p).length c ∧ KAt w0 w1 (getE L x.p) (K' x.p) A c := by
  obtain ⟨_, k⟩ := I.take g
  obtain ⟨A, c, a⟩ := k.ls x.p
  refine ⟨A, c, ?_, a⟩
  have := a.hd
  rw [getE_some k.tm.np hx] at this
  exact this
/-- .. and it is sorted -/
theorem SrtI.next (I : SrtI w0 w kb r L ck K seen K') (g : w.grownBy w1 (some r)) {x : Pe} (hx : x ∈ L) (t : TR w1 kb r L ck (seen.push x.born)) {A : Option Addr} {c : Nat} (a : KAt w0 w1 (getE L x.p) (K' x.p) A c) {l : List Pm} (hl : l.Perm (K' x.p)) (hs : l.Pairwise (fun a b => ¬ wlt b.w a.w)) (o : Own w2 w0.heap.size 47 3 A l.length c (l.flatMap pmC)) (u : Upd (fun k => blk A c = some k) w1 w2) :
    SrtI w0 w2 kb r L ck K (seen.push x.born) (fun q => if q = x.p then l else K' q) := by
  obtain ⟨e1, k1⟩ := I.take g
  have bk : ∀ k, blk A c = some k → blkV (getE L x.p) = some k := fun k hk => a.bk.trans hk
  have hr : ¬ blk A c = some r := fun e => t.not_ty _ (k1.ty (bk _ e))
  refine ⟨upd_ext0 e1 u (fun k hk => (k1.lt (.inr ⟨_, bk k hk⟩)).1), t.upd u (fun e => k1.ne_kb (bk _ e)) hr, I.r0, k1.turn a u hl.length_eq o (fun y hy => hl.mem_iff.1 hy), fun q => ?_, fun y hy hq => ?_⟩
  · by_cases e : q = x.p
    · rw [if_pos e, e]; exact hl.trans (I.pm _)
    · rw [if_neg e]; exact I.pm q
  · by_cases e : y.p = x.p
    · rw [if_pos e]; exact hs
    · rw [if_neg e]
      refine I.so y hy ?_
      rw [Array.contains_push] at hq
      simp only [Bool.or_eq_true, beq_iff_eq] at hq
      rcases hq with hq | hq
      · exact hq
      · exfalso
        obtain ⟨i, hi⟩ := List.getElem?_of_mem hy
        obtain ⟨j, hj⟩ := List.getElem?_of_mem hx
        obtain ⟨i1, i2⟩ := List.getElem?_eq_some_iff.1 hi
        obtain ⟨j1, j2⟩ := List.getElem?_eq_some_iff.1 hj
        have nb := List.pairwise_iff_getElem.1 (List.nodup_iff_pairwise_ne.1 k1.tm.nb)
        rcases Nat.lt_trichotomy i j with q | q | q
        · have := nb i j (by simpa using i1) (by simpa using j1) q
          simp only [List.getElem_map, i2, j2] at this
          exact this hq
        · subst q; exact e (by rw [← i2, ← j2])
        · have := nb j i (by simpa using j1) (by simpa using i1) q
          simp only [List.getElem_map, i2, j2] at this
          exact this hq.symm
theorem KmR.lower {a : World} (h : KmR w0 w kb L ck K) (e : a.heap.size ≤ w0.heap.size) : KmR a w kb L ck K :=
  ⟨h.tm, Nat.le_trans e h.kb0, fun q => by obtain ⟨A, c, k⟩ := h.ls q; exact ⟨A, c, k.hd, k.ow.mono e, k.bk⟩, fun q x hx => Own.mono (h.wy q x hx) e, h.ap⟩
theorem SrtI.done {a : World} {g : Gr} {fr : Pt} {st : Prop} {Q : List Ent} (I : SrtI w0 w kb r L ck K seen K') (hall : ∀ x ∈ L, seen.contains x.born = true) (B : BInv g fr st Q Q.length 0) (G : GOK g) (F : GFew g) (hf : (g.dep fr).isSome) (T : Kn g fr st Q (fun q => (K q).map Pm.w)) (ea : Ext a w0) : LeastM a w g fr st kb := by
  have t0 := B.tab G hf T
  have pm : ∀ q, ((K' q).map Pm.w).Perm ((K q).map Pm.w) := fun q => (I.pm q).map _
  have t1 : Tab g fr st (fun q => (K' q).map Pm.w) := ⟨fun q w hw => t0.rt q w ((pm q).mem_iff.1 hw), fun q w hw => by obtain ⟨x, h1, h2⟩ := t0.cl q w hw; exact ⟨x, (pm q).mem_iff.2 h1, h2⟩, fun q => ((pm q).pairwise_iff (fun {a b} h => ⟨h.2, h.1⟩)).2 (t0.an q)⟩
  refine ⟨⟨L, ck, K', I.km.lower ea.size, t1, fun q => ?_, fun q => ?_, fun q x hx => ?_⟩, ea.trans I.ex⟩
  · have hs : (K' q).Pairwise (fun a b => ¬ wlt b.w a.w) := by
      cases hq : getE L q with
      | none =>
        obtain ⟨A, c, k⟩ := I.km.ls q
        have := k.hd
        rw [hq] at this
        injection this with _ h2 _
        have : K' q = [] := List.eq_nil_of_length_eq_zero h2.symm
        rw [this]; exact List.Pairwise.nil
      | some v =>
        obtain ⟨x, hx, rfl, _⟩ := getE_mem hq
        exact I.so x hx (hall x hx)
    have an := t1.an q
    rw [List.pairwise_map] at an ⊢
    refine (hs.and an).imp_of_mem fun {x y} hx hy ⟨h1, h2⟩ => ?_
    rcases wlt_total x.w y.w with c | c | c
    · exact c
    · have gw := (G.route hf (t1.rt q y.w (List.mem_map.2 ⟨y, hy, rfl⟩)).route).2
      rw [c, pl_refl gw] at h2
      exact absurd h2.1 (by simp)
    · exact absurd c h1
  · rw [(I.pm q).length_eq]
    have := T.few B G hf F q
    rwa [List.length_map] at this
  · have gw := (G.route hf (t1.rt q x.w (List.mem_map.2 ⟨x, hx, rfl⟩)).route).2
    refine ⟨gw.u, ?_⟩
    have h1 := gw.pe; have h2 := gw.p3; have h3 := gw.l1
    omega
end
end Go.Proofs.Yteklohamkmiphaa
namespace Go.Proofs.Yteklohamkmiphaa
open Go.RowKit

/-- the worlds that have come of w by writes to S, and by new memory -/
structure Yt (S : Nat → Prop) (w : World) where
  W : World
  x : Upd S w W
instance Yt.any (S : Nat → Prop) (w : World) : Nonempty (Yt S w) := ⟨⟨w, Upd.refl S w⟩⟩
section
variable {P : Program} {ops : Array Oper} {Q : Exit → Act → World → Prop} {bs : Array Nat} {S : Nat → Prop}
/-- whatever order is picked from here on, and operations of the set X at most make new memory -/
def wpXU (S : Nat → Prop) (P : Program) (ops : Array Oper) (Q : Exit → Act → World → Prop) (X : Nat → Bool) : Nat → Array Bool → Act → World → Prop
  | 0, listed, a, w => Region.ready .any ops listed = [] ∧ Q .normal a w
  | fuel + 1, listed, a, w =>
    (Region.ready .any ops listed = [] → Q .normal a w) ∧
    ∀ i ∈ Region.ready .any ops listed, wpOp P ops Q i (fun a' w' => (X i = true → Upd S w w') ∧ wpXU S P ops Q X fuel (listed.setIfInBounds i true) a' w') a w

theorem wpAny_of_XU {X : Nat → Bool} : ∀ (fuel : Nat) (listed : Array Bool) (a : Act) (w : World), wpXU S P ops Q X fuel listed a w → wpAny P .any ops Q fuel listed a w
  | 0, _, _, _, h => h
  | fuel + 1, _, _, _, h => ⟨h.1, fun i hi => wpOp_mono (fun a' w' h' => wpAny_of_XU fuel _ a' w' h'.2) (h.2 i hi)⟩

theorem wpX_doneU {X : Nat → Bool} {listed : Array Bool} {a : Act} {w : World} (hr : Region.ready .any ops listed = []) (h : Q .normal a w) : ∀ fuel, wpXU S P ops Q X fuel listed a w
  | 0 => ⟨hr, h⟩
  | _ + 1 => ⟨fun _ => h, by rw [hr]; simp⟩

theorem yields_laterU {o : Oper} {v : Value} {a : Act} {w w' : World} (h : YieldsIf P ops (Upd S w) o v a) (x : Upd S w w') : YieldsIf P ops (Upd S w') o v a :=
  h.imp (fun ⟨h1, h2⟩ => ⟨h1, fun u hu => h2 u (x.trans hu)⟩) id

theorem wpX_firstU {X : Nat → Bool} (hok : ancOkB ops bs = true) {i : Nat} {oi : Oper} {v : Value} (hi : ops[i]? = some oi) (hsel : ∀ (j : Nat) (o : Oper) cs b, ops[j]? = some o → o.op ≠ .select cs b)
    (hQ : ∀ c a d v w, Q (.panic c) (a.put d v) w → Q (.panic c) a w) :
    ∀ (fuel : Nat) (listed : Array Bool) (a : Act) (w : World), Closed ops bs listed →
      (∀ j oj, ops[j]? = some oj → j ≠ i → listed.getD j true = false → ancB ops bs i j = false → oi.apart ops oj = true ∧ X j = true) →
      i ∈ Region.ready .any ops listed → YieldsIf P ops (Upd S w) oi v a →
      wpXU S P ops Q X fuel (listed.setIfInBounds i true) (a.put oi.dst v) w → wpXU S P ops Q X (fuel + 1) listed a w := by
  intro fuel
  induction fuel with
  | zero =>
    intro listed a w hcl _ hr hy H
    refine ⟨fun h => (by rw [h] at hr; cases hr), fun j hj => ?_⟩
    by_cases hji : j = i
    · subst hji; exact hy.wpOp hi (Upd.refl S w) ⟨fun _ => Upd.refl S w, H⟩
    · have := ready_mono hj hji
      rw [H.1] at this
      cases this
  | succ fuel ih =>
    intro listed a w hcl hfree hr hy H
    refine ⟨fun h => (by rw [h] at hr; cases hr), fun j hj => ?_⟩
    by_cases hji : j = i
    · subst hji; exact hy.wpOp hi (Upd.refl S w) ⟨fun _ => Upd.refl S w, H⟩
    · have h1 := H.2 j (ready_mono hj hji)
      obtain ⟨hjun, oj, hoj, hall⟩ := mem_ready.1 hj
      have hiun := (mem_ready.1 hr).1
      have hnot : ancB ops bs i j = false := by
        cases hb : ancB ops bs i j with
        | false => rfl
        | true =>
          have h2 := ready_anc hok hcl hj hb
          rcases Nat.lt_or_ge i listed.size with h' | h'
          · simp [h'] at h2 hiun; rw [hiun] at h2; cases h2
          · simp [Array.getElem?_eq_none h'] at h2
      obtain ⟨hap, hX⟩ := hfree j oj hoj hji hjun hnot
      have h2 := wpOp_putIf hoj hap (fun cs b => hsel i oi cs b hi) (fun cs b => hsel j oj cs b hoj) (fun c a w => hQ c a _ _ w) hy h1
      have hfree' : ∀ k ok, ops[k]? = some ok → k ≠ i → (listed.setIfInBounds j true).getD k true = false → ancB ops bs i k = false → oi.apart ops ok = true ∧ X k = true := fun k ok hk hki hun hno => by
        refine hfree k ok hk hki ?_ hno
        by_cases hjk : j = k
        · subst hjk; exact hjun
        · rw [getD_set_ne true hjk] at hun; exact hun
      refine wpOp_mono (fun a' w' h3 => ⟨h3.2.1, ih (listed.setIfInBounds j true) a' w' (hcl.add hok hj) hfree' (ready_mono hr (Ne.symm hji)) (yields_laterU h3.1 (h3.2.1 hX)) ?_⟩) h2
      rw [Array.setIfInBounds_comm _ _ hji]
      exact h3.2.2

theorem wpX_first_pureU {X : Nat → Bool} (hok : ancOkB ops bs = true) {i : Nat} {oi : Oper} {v : Value} (hi : ops[i]? = some oi) (hsel : ∀ (j : Nat) (o : Oper) cs b, ops[j]? = some o → o.op ≠ .select cs b)
    (hQ : ∀ c a d v w, Q (.panic c) (a.put d v) w → Q (.panic c) a w) :
    ∀ (fuel : Nat) (listed : Array Bool) (a : Act) (w : World), Closed ops bs listed →
      (∀ j oj, ops[j]? = some oj → j ≠ i → listed.getD j true = false → ancB ops bs i j = false → oi.apart ops oj = true) →
      i ∈ Region.ready .any ops listed → YieldsIf P ops (fun _ => True) oi v a →
      wpXU S P ops Q X fuel (listed.setIfInBounds i true) (a.put oi.dst v) w → wpXU S P ops Q X (fuel + 1) listed a w := by
  intro fuel
  induction fuel with
  | zero =>
    intro listed a w hcl _ hr hy H
    refine ⟨fun h => (by rw [h] at hr; cases hr), fun j hj => ?_⟩
    by_cases hji : j = i
    · subst hji; exact hy.wpOp hi trivial ⟨fun _ => Upd.refl S w, H⟩
    · have := ready_mono hj hji
      rw [H.1] at this
      cases this
  | succ fuel ih =>
    intro listed a w hcl hfree hr hy H
    refine ⟨fun h => (by rw [h] at hr; cases hr), fun j hj => ?_⟩
    by_cases hji : j = i
    · subst hji; exact hy.wpOp hi trivial ⟨fun _ => Upd.refl S w, H⟩
    · have h1 := H.2 j (ready_mono hj hji)
      obtain ⟨hjun, oj, hoj, hall⟩ := mem_ready.1 hj
      have hiun := (mem_ready.1 hr).1
      have hnot : ancB ops bs i j = false := by
        cases hb : ancB ops bs i j with
        | false => rfl
        | true =>
          have h2 := ready_anc hok hcl hj hb
          rcases Nat.lt_or_ge i listed.size with h' | h'
          · simp [h'] at h2 hiun; rw [hiun] at h2; cases h2
          · simp [Array.getElem?_eq_none h'] at h2
      have hap := hfree j oj hoj hji hjun hnot
      have h2 := wpOp_putIf hoj hap (fun cs b => hsel i oi cs b hi) (fun cs b => hsel j oj cs b hoj) (fun c a w => hQ c a _ _ w) hy h1
      have hfree' : ∀ k ok, ops[k]? = some ok → k ≠ i → (listed.setIfInBounds j true).getD k true = false → ancB ops bs i k = false → oi.apart ops ok = true := fun k ok hk hki hun hno => by
        refine hfree k ok hk hki ?_ hno
        by_cases hjk : j = k
        · subst hjk; exact hjun
        · rw [getD_set_ne true hjk] at hun; exact hun
      refine wpOp_mono (fun a' w' h3 => ⟨h3.2.1, ih (listed.setIfInBounds j true) a' w' (hcl.add hok hj) hfree' (ready_mono hr (Ne.symm hji)) h3.1 ?_⟩) h2
      rw [Array.setIfInBounds_comm _ _ hji]
      exact h3.2.2

/-! #### the walk in the fixed order: 'flo': operations that only read; 'ext': one that may make new memory; 'one': one that is alone; 'both': either of two comes up -/
/-- b: the world of which the facts at hand speak; what is at hand has grown out of it -/
def ordWalkU (S : Nat → Prop) (P : Program) (ops : Array Oper) (Q : Exit → Act → World → Prop) : Plan → World → Act → World → Prop
  | .fin, _, a, w => Q .normal a w
  | .flo l r, b, a, w => wpQuiet P ops (fun w' => ∃ y : Yt S b, w' = y.W) (fun a' => ordWalkU S P ops Q r b a' w) (pickOps ops l) a
  | .pur l r, b, a, w => wpQuiet P ops (fun _ => True) (fun a' => ordWalkU S P ops Q r b a' w) (pickOps ops l) a
  | .ext i r, b, a, w => wpList P ops (Exit.then (fun a' w' => Upd S w w' ∧ ordWalkU S P ops Q r b a' w') Q) (pickOps ops [i]) a w
  | .one i r, _, a, w => wpList P ops (Exit.then (fun a' w' => ordWalkU S P ops Q r w' a' w') Q) (pickOps ops [i]) a w
  | .both i j r q, b, a, w => wpList P ops (Exit.then (fun a' w' => Upd S w w' ∧ ordWalkU S P ops Q r b a' w') Q) (pickOps ops [i]) a w ∧ wpList P ops (Exit.then (fun a' w' => Upd S w w' ∧ ordWalkU S P ops Q q b a' w') Q) (pickOps ops [j]) a w

theorem quiet_yieldsU {o : Oper} {a : Act} {w : World} {K : Act → Prop} (ho : isFlo o.op = true) (h : o.quiet P a (fun w' => ∃ y : Yt S w, w' = y.W) K) :
    ∃ v, (∀ u, Upd S w u → (execOp a.eval o).run P u = .ok (.value v) u) ∧ K (a.put o.dst v) := by
  obtain ⟨v, h1, h2⟩ := h
  refine ⟨v, fun u hu => ?_, h2⟩
  have h3 := h1 u ⟨⟨u, hu⟩, rfl⟩
  unfold Oper.quietAt at h3
  cases hr : (execOp a.eval o).run P u with
  | ok n u' =>
    rw [hr] at h3
    obtain ⟨x, rfl⟩ := flo_value ho hr
    obtain ⟨e1, e2⟩ := h3
    rw [e1, e2]
  | halt x u' => rw [hr] at h3; exact h3.elim

theorem X_of_ordU (hok : ancOkB ops bs = true) (hsel : Region.noSelect ops = true) (hQ : ∀ c a d v w, Q (.panic c) (a.put d v) w → Q (.panic c) a w) (es : List Nat) :
    ∀ (p : Plan) (b : World) (listed : Array Bool) (a : Act) (w : World) (fuel : Nat), Upd S b w → total p ≤ fuel → Closed ops bs listed → ordB ops bs es p listed = true → ordWalkU S P ops Q p b a w →
      wpXU S P ops Q (inX ops es) fuel listed a w := by
  intro p
  induction p with
  | fin =>
    intro b listed a w fuel _ _ _ hB h
    exact wpX_doneU (by simpa [ordB] using hB) h fuel
  | flo l r ih =>
    induction l with
    | nil =>
      intro b listed a w fuel hx hf hc hB h
      refine ih b listed a w fuel hx (by simpa [total] using hf) hc (by simpa [ordB, flosB, listAll] using hB) ?_
      simpa [ordWalkU, pickOps, wpQuiet] using h
    | cons i l ihl =>
      intro b listed a w fuel hx hf hc hB h
      simp only [ordB, flosB, listAll, Bool.and_eq_true] at hB
      obtain ⟨⟨hi, hl⟩, hr⟩ := hB
      cases ho : ops[i]? with
      | none => simp [floB, ho] at hi
      | some oi =>
        simp only [floB, ho, Bool.and_eq_true] at hi
        obtain ⟨⟨hflo, hrd⟩, hfr⟩ := hi
        have hrd' : i ∈ Region.ready .any ops listed := by simpa using hrd
        obtain ⟨fuel, rfl⟩ : ∃ f, fuel = f + 1 := ⟨fuel - 1, by simp [total] at hf; omega⟩
        have hfree : ∀ j oj, ops[j]? = some oj → j ≠ i → listed.getD j true = false → ancB ops bs i j = false → oi.apart ops oj = true ∧ inX ops es j = true := by
          intro j oj hj hne hun hno
          have := List.all_eq_true.1 hfr j (List.mem_range.2 (Array.getElem?_eq_some_iff.1 hj).1)
          simpa [hne, hun, hno, hj] using this
        have hp : pickOps ops (i :: l) = oi :: pickOps ops l := by simp [pickOps, ho]
        simp only [ordWalkU, hp] at h
        unfold wpQuiet at h
        have go : ∀ v, YieldsIf P ops (Upd S w) oi v a → wpQuiet P ops (fun w' => ∃ y : Yt S b, w' = y.W) (fun a' => ordWalkU S P ops Q r b a' w) (pickOps ops l) (a.put oi.dst v) → wpXU S P ops Q (inX ops es) (fuel + 1) listed a w := by
          intro v hy hk
          refine wpX_firstU hok ho (Region.noSelect_spec hsel) hQ fuel listed a w hc hfree hrd' hy ?_
          refine ihl b (listed.setIfInBounds i true) (a.put oi.dst v) w fuel hx (by simp [total] at hf ⊢; omega) (hc.add hok hrd') ?_ ?_
          · simp only [ordB, Bool.and_eq_true]; exact ⟨hl, hr⟩
          · simpa only [ordWalkU] using hk
        split at h
        · rename_i hw
          obtain ⟨v, hv, hk⟩ := quiet_yieldsU hflo h
          exact go v (.inl ⟨hw, fun u hu => hv u (hx.trans hu)⟩) hk
        · rename_i hw
          exact go undef (.inr ⟨by simpa using hw, rfl⟩) h
  | pur l r ih =>
    induction l with
    | nil =>
      intro b listed a w fuel hx hf hc hB h
      refine ih b listed a w fuel hx (by simpa [total] using hf) hc (by simpa [ordB, pursB, listAll] using hB) ?_
      simpa [ordWalkU, pickOps, wpQuiet] using h
    | cons i l ihl =>
      intro b listed a w fuel hx hf hc hB h
      simp only [ordB, pursB, listAll, Bool.and_eq_true] at hB
      obtain ⟨⟨hi, hl⟩, hr⟩ := hB
      cases ho : ops[i]? with
      | none => simp [purB, ho] at hi
      | some oi =>
        simp only [purB, ho, Bool.and_eq_true] at hi
        obtain ⟨⟨hflo, hrd⟩, hfr⟩ := hi
        have hrd' : i ∈ Region.ready .any ops listed := by simpa using hrd
        obtain ⟨fuel, rfl⟩ : ∃ f, fuel = f + 1 := ⟨fuel - 1, by simp [total] at hf; omega⟩
        have hfree : ∀ j oj, ops[j]? = some oj → j ≠ i → listed.getD j true = false → ancB ops bs i j = false → oi.apart ops oj = true := by
          intro j oj hj hne hun hno
          have := List.all_eq_true.1 hfr j (List.mem_range.2 (Array.getElem?_eq_some_iff.1 hj).1)
          simpa [hne, hun, hno, hj] using this
        have hp : pickOps ops (i :: l) = oi :: pickOps ops l := by simp [pickOps, ho]
        simp only [ordWalkU, hp] at h
        unfold wpQuiet at h
        have go : ∀ v, YieldsIf P ops (fun _ => True) oi v a → wpQuiet P ops (fun _ => True) (fun a' => ordWalkU S P ops Q r b a' w) (pickOps ops l) (a.put oi.dst v) → wpXU S P ops Q (inX ops es) (fuel + 1) listed a w := by
          intro v hy hk
          refine wpX_first_pureU hok ho (Region.noSelect_spec hsel) hQ fuel listed a w hc hfree hrd' hy ?_
          refine ihl b (listed.setIfInBounds i true) (a.put oi.dst v) w fuel hx (by simp [total] at hf ⊢; omega) (hc.add hok hrd') ?_ ?_
          · simp only [ordB, Bool.and_eq_true]; exact ⟨hl, hr⟩
          · simpa only [ordWalkU] using hk
        split at h
        · rename_i hw
          obtain ⟨v, hv, hk⟩ := quiet_yields_pure hflo h
          exact go v (.inl ⟨hw, fun u _ => hv u⟩) hk
        · rename_i hw
          exact go undef (.inr ⟨by simpa using hw, rfl⟩) h
  | ext i r ih =>
    intro b listed a w fuel hx hf hc hB h
    simp only [ordB, Bool.and_eq_true] at hB
    obtain ⟨hr, hr2⟩ := hB
    have hr' : Region.ready .any ops listed = [i] := by simpa using hr
    have hmem : i ∈ Region.ready .any ops listed := by rw [hr']; simp
    obtain ⟨_, o, ho, _⟩ := mem_ready.1 hmem
    obtain ⟨fuel, rfl⟩ : ∃ f, fuel = f + 1 := ⟨fuel - 1, by simp [total] at hf; omega⟩
    refine ⟨fun h0 => (by rw [hr'] at h0; cases h0), fun j hj => ?_⟩
    rw [hr'] at hj
    obtain rfl : j = i := by simpa using hj
    exact wpOp_mono (fun a' w' hh => ⟨fun _ => hh.1, ih b _ a' w' fuel (hx.trans hh.1) (by simp [total] at hf ⊢; omega) (hc.add hok hmem) hr2 hh.2⟩) (one_step ho h)
  | one i r ih =>
    intro b listed a w fuel hx hf hc hB h
    simp only [ordB, Bool.and_eq_true] at hB
    obtain ⟨⟨hr, hk⟩, hr2⟩ := hB
    have hr' : Region.ready .any ops listed = [i] := by simpa using hr
    have hmem : i ∈ Region.ready .any ops listed := by rw [hr']; simp
    obtain ⟨_, o, ho, _⟩ := mem_ready.1 hmem
    obtain ⟨fuel, rfl⟩ : ∃ f, fuel = f + 1 := ⟨fuel - 1, by simp [total] at hf; omega⟩
    refine ⟨fun h0 => (by rw [hr'] at h0; cases h0), fun j hj => ?_⟩
    rw [hr'] at hj
    obtain rfl : j = i := by simpa using hj
    have hnx : inX ops es j = false := by simpa using hk
    exact wpOp_mono (fun a' w' hh => ⟨fun hX => (by rw [hnx] at hX; cases hX), ih w' _ a' w' fuel (Upd.refl S w') (by simp [total] at hf ⊢; omega) (hc.add hok hmem) hr2 hh⟩) (one_step ho h)
  | both i j r q ihr ihq =>
    intro b listed a w fuel hx hf hc hB h
    simp only [ordB, Bool.and_eq_true] at hB
    obtain ⟨⟨hr, hr2⟩, hq2⟩ := hB
    have hr' : Region.ready .any ops listed = [i, j] := by simpa using hr
    obtain ⟨fuel, rfl⟩ : ∃ f, fuel = f + 1 := ⟨fuel - 1, by simp [total] at hf; omega⟩
    have mi : i ∈ Region.ready .any ops listed := by rw [hr']; simp
    have mj : j ∈ Region.ready .any ops listed := by rw [hr']; simp
    refine ⟨fun h0 => (by rw [hr'] at h0; cases h0), fun k hk => ?_⟩
    rw [hr'] at hk
    rcases List.mem_cons.1 hk with rfl | hk
    · obtain ⟨_, o, ho, _⟩ := mem_ready.1 mi
      exact wpOp_mono (fun a' w' hh => ⟨fun _ => hh.1, ihr b _ a' w' fuel (hx.trans hh.1) (by simp [total] at hf ⊢; omega) (hc.add hok mi) hr2 hh.2⟩) (one_step ho h.1)
    · obtain rfl : k = j := by simpa using hk
      obtain ⟨_, o, ho, _⟩ := mem_ready.1 mj
      exact wpOp_mono (fun a' w' hh => ⟨fun _ => hh.1, ihq b _ a' w' fuel (hx.trans hh.1) (by simp [total] at hf ⊢; omega) (hc.add hok mj) hq2 hh.2⟩) (one_step ho h.2)

/-- A REGION THAT DRAWS ITS ORDER, WALKED IN ONE ORDER. 'bs': of each operation those that come ahead of it in every order, as bits. -/
theorem wp_region_ordU {id : Nat} {a : Act} {w : World} {l : List Oper} (bs : List Nat) (p : Plan) (hm : P.follows .mixedOrders = true)
    (hB : (ancOkB l.toArray bs.toArray && Region.noSelect l.toArray && ordB l.toArray bs.toArray (extIdx p) p (Array.replicate l.toArray.size false) && decide (total p ≤ l.toArray.size)) = true)
    (hQ : ∀ c a d v w, Q (.panic c) (a.put d v) w → Q (.panic c) a w)
    (h : ordWalkU S P l.toArray Q p w.drew a w.drew) : (Code.region id l.toArray true).wp P Q a w := by
  simp only [Bool.and_eq_true, decide_eq_true_eq] at hB
  obtain ⟨⟨⟨h1, h2⟩, h3⟩, h4⟩ := hB
  refine wp_region_any hm (wpAny_of_XU _ _ _ _ (X_of_ordU h1 h2 hQ _ p w.drew _ a w.drew _ (Upd.refl S _) h4 ?_ h3 h))
  intro j hj
  exfalso
  rcases Nat.lt_or_ge j l.toArray.size with h' | h'
  · simp [Array.getD] at hj
  · simp [Array.getD] at hj

/-- the steps of such a walk -/
def ordNextU (S : Nat → Prop) (P : Program) (ops : Array Oper) (Q : Exit → Act → World → Prop) (r : Plan) (b w : World) (a' : Act) (w' : World) : Prop := Upd S w w' ∧ ordWalkU S P ops Q r b a' w'
theorem ordNextU.mk {r : Plan} {b w w' : World} {a : Act} (x : Upd S w w') (h : ordWalkU S P ops Q r b a w') : ordNextU S P ops Q r b w a w' := ⟨x, h⟩
theorem ord_floU {l : List Nat} {r : Plan} {a : Act} {b w : World} {ol : List Oper} (hp : pickOps ops l = ol)
    (h : wpQuiet P ops (fun w' => ∃ y : Yt S b, w' = y.W) (fun a' => ordWalkU S P ops Q r b a' w) ol a) : ordWalkU S P ops Q (.flo l r) b a w := by
  subst hp; exact h
theorem ord_extU {i : Nat} {r : Plan} {a : Act} {b w : World} {o : Oper} (hp : pickOps ops [i] = [o])
    (h : ∀ K : Act → World → Prop, (∀ a' w', ordNextU S P ops Q r b w a' w' → K a' w') → wpList P ops (Exit.then K Q) [o] a w) : ordWalkU S P ops Q (.ext i r) b a w := by
  show wpList P ops _ (pickOps ops [i]) a w
  rw [hp]; exact h _ fun _ _ h => h
theorem ord_oneU {i : Nat} {r : Plan} {a : Act} {b w : World} {o : Oper} (hp : pickOps ops [i] = [o])
    (h : ∀ K : Act → World → Prop, (∀ a' w', ordWalkU S P ops Q r w' a' w' → K a' w') → wpList P ops (Exit.then K Q) [o] a w) : ordWalkU S P ops Q (.one i r) b a w := by
  show wpList P ops _ (pickOps ops [i]) a w
  rw [hp]; exact h _ fun _ _ h => h
theorem ord_finU {a : Act} {b w : World} (h : Q .normal a w) : ordWalkU S P ops Q .fin b a w := h
end
end Go.Proofs.Yteklohamkmiphaa
namespace Go.Proofs.Yteklohamkmiphaa
open Go.RowKit

def LeastOut (w : World) (g : Gr) (fr : Pt) (st : Prop) (e : Ending) (w' : World) : Prop := ∃ kb, e = .returned (.map (some kb)) ∧ LeastM w w' g fr st kb
/-- the table at the start -/
structure LsS (w0 w : World) (fr : Pt) (st : Bool) (kb : Nat) : Prop where
  ex : Ext w0 w
  kn : ∃ L ck K, KmR w0 w kb L ck K ∧ (∀ q, q ≠ fr → K q = []) ∧ K fr = if st then [Pm.zero] else []
theorem KmR.none (w : World) : KmR w (w.alloc (.map #[] 0)) w.heap.size [] 0 (fun _ => []) :=
  ⟨TM.made w, Nat.le_refl _, fun q => ⟨Option.none, 0, rfl, Own.nil _ _ _ _, rfl⟩, fun q x hx => (nomatch hx), fun q r k _ h => by cases h⟩
theorem own_new1 {w : World} {B : Nat} {T : TypeId} (cs : List Value) (hB : B ≤ w.heap.size) : Own (w.alloc (.cells cs.toArray T)) B T cs.length (some ⟨w.heap.size, 0, none⟩) 1 1 cs :=
  ⟨by simp, .inr ⟨w.heap.size, _, rfl, hB, heap_alloc_new w _, Nat.le_refl _, by decide, by simp, by simp⟩⟩
theorem wy_zero (w0 w : World) : Wy w0 w Pm.zero := Own.nil _ _ _ _
theorem LsS.start {w0 : World} (fr : Pt) : LsS w0 (w0.alloc (.map #[] 0)) fr false w0.heap.size := ⟨(Ext.refl w0).alloc _, [], 0, _, KmR.none w0, fun _ _ => rfl, rfl⟩
theorem LsS.put {w0 w2 : World} {fr : Pt} {L' : List Pe} {ck' : Nat} (tm : TM w2 w0.heap.size L' ck') (pp : Put [] fr (.slice (some ⟨w0.heap.size + 1, 0, none⟩) 1 1) L') (gm : ((w0.alloc (.map #[] 0)).alloc (.cells #[.int .i64 0, .int .u32 0, .slice none 0 0] 47)).grownBy w2 (some w0.heap.size)) : LsS w0 w2 fr true w0.heap.size := by
  have k := KmR.none w0
  have o := own_new1 (w := w0.alloc (.map #[] 0)) (B := w0.heap.size) (T := 47) (pmC Pm.zero) (by simp)
  rw [show (w0.alloc (.map #[] 0)).heap.size = w0.heap.size + 1 by simp] at o
  have q := k.put (q := fr) (l := [Pm.zero]) ⟨rfl, Own.nil _ _ _ _, rfl⟩ (Upd.ext ((Ext.refl _).alloc (.cells #[.int .i64 0, .int .u32 0, .slice none 0 0] 47))) o (fun x hx => by rw [List.mem_singleton.1 hx]; exact wy_zero _ _) (fun j hj => .inr (by injection hj with hj; simp only at hj; rw [← hj]; simp)) tm pp gm
  refine ⟨?_, L', ck', _, q, fun r hr => if_neg hr, if_pos rfl⟩
  have x1 : Ext w0 ((w0.alloc (.map #[] 0)).alloc (.cells #[.int .i64 0, .int .u32 0, .slice none 0 0] 47)) := ((Ext.refl w0).alloc _).alloc _
  exact x1.grown gm (fun k hk => by injection hk with hk; omega)
theorem LsS.go {w0 w : World} {g : Gr} {fr : Pt} {st : Bool} {kb : Nat} (h : LsS w0 w fr st kb) (hg : pl idW idW (g.dp fr) = true) : LsI w0 (w.alloc (.cells #[.int .i64 fr.n, .bool fr.o, .int .i64 fr.p, .int .i64 0, .int .u32 0, .slice none 0 0] 99)) g fr (st = true) kb [⟨[], fr, idW, 0, 0⟩] 0 0 0 (some ⟨w.heap.size, 0, none⟩) 1 [⟨fr, Pm.zero⟩] := by
  obtain ⟨L, ck, K, k, h1, h2⟩ := h.kn
  refine ⟨h.ex.alloc _, BInv.start g fr _, Nat.zero_le _, OwnQ.of (own_new1 (w := w) (B := w0.heap.size) (T := 99) (spC ⟨fr, Pm.zero⟩) h.ex.size), rfl, fun x hx => by rw [List.mem_singleton.1 hx]; exact wy_zero _ _, L, ck, K, k.ext ((Ext.refl w).alloc _), ?_⟩
  refine Kn.start g fr _ (fun q hq => by rw [h1 q hq]; rfl) (fun hs => by rw [h2, if_pos hs]; rfl) (fun hs => by rw [h2, if_neg hs]; rfl) hg
/-- the head of what waits -/
theorem LsI.head {w0 w : World} {g : Gr} {fr : Pt} {st : Prop} {kb : Nat} {Q : List Ent} {i j o : Nat} {A : Option Addr} {c : Nat} {x : Sm} {P : List Sm} (I : LsI w0 w g fr st kb Q i j o A c (x :: P)) : ∃ b f, A = some ⟨b, f, none⟩ ∧ P.length + 1 ≤ c ∧ c ≤ 9223372036854775807 ∧ w.cell? ⟨b, f, none⟩ = some (.int .i64 x.q.n) ∧ w.cell? ⟨b, f + 1, none⟩ = some (.bool x.q.o) ∧ w.cell? ⟨b, f + 2, none⟩ = some (.int .i64 x.q.p) ∧
    w.cell? ⟨b, f + 3, none⟩ = some (.int .i64 x.b.w.leave) ∧ w.cell? ⟨b, f + 4, none⟩ = some (.int .u32 x.b.w.add) ∧ w.cell? ⟨b, f + 5, none⟩ = some (.slice x.b.A x.b.w.enter.length x.b.c) := by
  have hle := I.q.le
  rcases I.q.2 with ⟨_, h⟩ | ⟨b, f, cur, rfl, _⟩
  · cases h
  · obtain ⟨ad, h1, h2⟩ := I.q.sl.2.2.2.2 (by simp)
    injection h1 with h1
    subst h1
    have t : ∀ j u, ((x :: P).flatMap spC)[j]? = some u → w.cell? ⟨b, f + j, none⟩ = some u := fun j u hu => by have := h2 j u hu; rwa [addr_at] at this
    exact ⟨b, f, rfl, hle.1, hle.2, t 0 _ rfl, t 1 _ rfl, t 2 _ rfl, t 3 _ rfl, t 4 _ rfl, t 5 _ rfl⟩
theorem few_good {d p : Int} {v : Way} (h : GoodW d p v) : Few32 v := ⟨h.u, by have h1 := h.pe; have h2 := h.p3; have h3 := h.l1; omega⟩
theorem few_of {g : Gr} {fr : Pt} {st : Prop} {Q : List Ent} {i j : Nat} {K : Pt → List Pm} (T : Kn g fr st Q (fun q => (K q).map Pm.w)) (B : BInv g fr st Q i j) (G : GOK g) (hf : (g.dep fr).isSome) {q : Pt} {x : Pm} (hx : x ∈ K q) : Few32 x.w := by
  obtain ⟨a, e, h1, _, h3, h4⟩ := T.of q x.w (List.mem_map.2 ⟨x, hx, rfl⟩)
  rw [← h4]
  exact few_good (B.good G hf h1).2
set_option maxRecDepth 100000 in
set_option maxHeartbeats 4000000 in
theorem least_any (st : Bool) (bm : Nat) (g : Gr) (fn : Int) (fo : Bool) (fp : Int) (d : Int) (w : World) (hm : Hid (StR w bm g)) (G : Hid (GOK g)) (F : Hid (GFew g)) (hd : Hid (g.dep ⟨fn, fo, fp⟩ = some d)) (hn : Hid (∀ p, (g.dep p).isSome → P64 p)) :
    Calls Try.prog 29 #[.map (some bm), .agg #[.int .i64 fn, .bool fo, .int .i64 fp], .int .i64 d, .bool st] w (LeastOut w g ⟨fn, fo, fp⟩ (st = true)) := by
  have hmm := @run_makeMap Try.prog
  go_enter Try.func29, Try.ntmps29
  go_upto_if 22 with fail
  obtain ⟨w0, hw0⟩ : ∃ w0, w0 = (w.alloc (Obj.cells #[.int .i64 fn, .bool fo, .int .i64 fp] 27)).alloc (Obj.cells #[.int .i64 d] 3) := ⟨_, rfl⟩
  have hs0 : w0.heap.size = w.heap.size + 1 + 1 := by rw [hw0]; simp
  have X0 : Hid (Ext w w0) := Lib.hid (by rw [hw0]; exact ((Ext.refl w).alloc _).alloc _)
  have B1 : Bk w0 w.heap.size 27 #[.int .i64 fn, .bool fo, .int .i64 fp] := by rw [hw0]; exact (Bk.new _ _ _).alloc _
  have B2 : Bk w0 (w.heap.size + 1) 3 #[.int .i64 d] := by rw [hw0]; exact Bk.at (by simp)
  rw [← hw0, ← hs0]
  obtain ⟨bf, hbf⟩ : ∃ b, b = w.heap.size := ⟨_, rfl⟩
  rw [← hbf] at B1 B2 ⊢
  have H1 := Lib.hid B1
  have H2 := Lib.hid B2
  have HDP : Hid (g.dp ⟨fn, fo, fp⟩ = d) := Lib.hid (by unfold Gr.dp; rw [hd.out]; rfl)
  have HBF : Hid (w.heap.size ≤ bf ∧ w0.heap.size = bf + 2) := Lib.hid ⟨by omega, by omega⟩
  clear hw0 B1 B2 hs0 hbf
  go_cut [] (fun wx => LsS w0 wx ⟨fn, fo, fp⟩ st w0.heap.size)
  case first =>
    cases st with
    | false =>
      go_wp2
      go_meet
      case rel => exact LsS.start _
    | true =>
      have z := H1.out.alloc (.map #[] 0)
      have z0 := z.cell 0
      have z1 := z.cell 1
      have z2 := z.cell 2
      have T0 := Lib.hid ((TM.made w0).ext ((Ext.refl _).alloc (.cells #[.int .i64 0, .int .u32 0, .slice none 0 0] 47)))
      clear z
      go_wp2_with (first
        | (at_mapUpdate; go_loud (refine wpList_put_tm rfl Try.underlying81 _ _ _ rfl rfl ⟨fn, fo, fp⟩ rfl _ rfl T0.out (hn.out _ (by rw [hd.out]; rfl)) ?_); intro w2 L2 ck2 tm2 pp2 gm2 sz2; have R2 := Lib.hid (LsS.put tm2 pp2 gm2); clear tm2 pp2 gm2 sz2))
      go_meet
      case rel => exact R2.out
  case rest =>
    have HS := Lib.hid hcut
    have z := H1.out.ext hcut.ex
    have z0 := z.cell 0
    have z1 := z.cell 1
    have z2 := z.cell 2
    clear hcut z
    obtain ⟨B, hB⟩ := G.out.ends (by rw [hd.out]; rfl) F.out
    have HB := Lib.hid hB
    clear hB
    go_wp2
    have I0 := Lib.hid (HS.out.go (g := g) (pl_refl (G.out.route (fr := ⟨fn, fo, fp⟩) (by rw [hd.out]; rfl) .nil).2))
    go_loopg [10, 11, 13, 14, 15, 17, 18] (B + 1) (fun gg s10 _ _ _ _ _ _ wr => ∃ (Q : List Ent) (i : Nat) (A : Option Addr) (c n : Nat) (P : List Sm), s10 = .slice A n c ∧ n = P.length ∧ B + 1 - i ≤ gg ∧ Hid (LsI w0 wr g ⟨fn, fo, fp⟩ (st = true) w0.heap.size Q i 0 i A c P))
    case atStart => exact ⟨_, 0, _, _, _, _, rfl, rfl, by omega, I0⟩
    case round =>
      obtain ⟨Q, i, A, c, n, P, rfl, hnP, hgg, HI⟩ := hrel
      obtain ⟨wo, hwo⟩ : ∃ wo : World, wo = wr := ⟨_, rfl⟩
      rw [← hwo] at HI ⊢
      clear hwo I0 HS z0 z1 z2
      cases P with
      | nil =>
        obtain rfl : n = 0 := hnP
        have HD := Lib.hid HI.out.done
        obtain ⟨L, ck, K, km, T⟩ := HI.out.kn
        have HT := Lib.hid T
        have HK := Lib.hid km
        clear T km
        go_wp2_with (first
          | (at_range; refine wpList_range_tm rfl Try.underlying81 _ rfl rfl HK.out.tm ?_; intro w1 tr1 ex1 sz1; have HR := Lib.hid (SrtI.start HK.out HI.out.ex ex1 tr1); clear tr1 ex1 sz1))
        go_frame
        go_loopg [20] (leftOf (L.map entT).toArray #[]).size (fun z _ wr => ∃ (seen : Array Nat) (K' : Pt → List Pm), z = (leftOf (L.map entT).toArray seen).size ∧ Hid (SrtI w0 wr w0.heap.size wo.heap.size L ck K seen K'))
        case atStart => exact ⟨#[], K, rfl, HR⟩
        case round =>
          clear HR
          obtain ⟨seen, K', rfl, HR⟩ := hrel
          go_wp2_with (first
            | (at_next; go_loud (refine wpList_next_tm rfl _ rfl rfl HR.out.tr ?_ ?_)))
          · intro hdone
            have HDN := Lib.hid hdone
            clear hdone
            go_wp2
            go_ret
            exact ⟨w0.heap.size, rfl, HR.out.done (fun x hx => by simpa using HDN.out x hx) HD.out G.out F.out (by rw [hd.out]; rfl) HT.out X0.out⟩
          · intro x w1 hx hs tr1 g1 z1 hen hlt
            obtain ⟨A1, c1, hv, a⟩ := HR.out.list g1 hx
            obtain ⟨n1, hn1⟩ : ∃ n, n = (K' x.p).length := ⟨_, rfl⟩
            rw [← hn1] at hv
            rw [hv] at hen ⊢
            have HX := Lib.hid hx
            have HTR := Lib.hid tr1
            have HG1 := Lib.hid g1
            have HAT := Lib.hid a
            have HN1 := Lib.hid hn1
            clear hx hs tr1 g1 z1 hv a hn1
            by_cases h0 : n1 = 0
            · subst h0
              have hnil : K' x.p = [] := List.eq_nil_of_length_eq_zero HN1.out.symm
              have HNL := Lib.hid hnil
              clear hnil
              go_wp2_with (first
                | (go_at_call 55; go_loud (refine (sortP_nil A1 c1 _ _).mono ?_); rintro e w2 ⟨rfl, rfl⟩))
              go_roundg (leftOf (L.map entT).toArray (seen.push x.born)).size
              case measure => exact hlt
              case rel =>
                refine ⟨_, _, rfl, Lib.hid (HR.out.next HG1.out HX.out HTR.out HAT.out (List.Perm.refl _) ?_ HAT.out.ow (Upd.refl _ _))⟩
                rw [HNL.out]; exact List.Pairwise.nil
            · obtain ⟨gb, e1, e2, _⟩ := HAT.out.ow.form (by rw [← HN1.out]; omega)
              subst e1
              have kk := (HR.out.take HG1.out).2
              have hcall := sort_ways (K' x.p) w0.heap.size gb c1 n1 w1 HN1.out (by omega) (by rw [HN1.out]; exact HAT.out.ow) (fun y hy w' u => ((kk.wy _ y hy).upd u (fun k e => by rw [e]; exact kk.not_u32 (.inr ⟨x.p, HAT.out.bk.trans e2⟩))).pmR) (by rw [HN1.out]; have := (HT.out.few HD.out G.out (by rw [hd.out]; rfl) F.out x.p); rw [List.length_map] at this; rw [(HR.out.pm x.p).length_eq]; omega)
              have HC := Lib.hid hcall
              have HE2 := Lib.hid e2
              clear hcall kk e2
              go_wp2_with (first
                | (go_at_call 55; go_loud (refine HC.out.mono ?_); rintro e w2 ⟨rfl, l2, p2, s2, o2, u2⟩; have HO := Lib.hid o2; have HU := Lib.hid u2; have HP2 := Lib.hid p2; have HS2 := Lib.hid s2; clear o2 u2 p2 s2))
              go_roundg (leftOf (L.map entT).toArray (seen.push x.born)).size
              case measure => exact hlt
              case rel =>
                refine ⟨_, _, rfl, Lib.hid (HR.out.next HG1.out HX.out HTR.out HAT.out HP2.out HS2.out ?_ (HU.out.mono (fun k _ e => by rw [e]; exact HE2.out)))⟩
                rw [HP2.out.length_eq, ← HN1.out]; exact HO.out
      | cons x P =>
        obtain ⟨⟨qn, qo, qp⟩, ⟨xA, xc, ⟨xl, xa, xe⟩⟩⟩ := x
        obtain ⟨I1, f, hf, hq, hw, hy⟩ := HI.out.pop
        obtain ⟨qb, qf, rfl, hPc, hc63, c0, c1, c2, c3, c4, c5⟩ := HI.out.head
        obtain ⟨hdq, gwq⟩ := HI.out.b.good G.out (by rw [hd.out]; rfl) hf
        simp only at hq hw
        rw [hq] at hdq
        rw [hq, hw] at gwq
        have P6 := hn.out _ hdq
        obtain ⟨sA, sc, xs, hlk, hsl, hsp, hsv⟩ := hm.out.look Try.underlying74 zeroSs P6
        obtain ⟨nx, hnx⟩ : ∃ n, n = xe.length := ⟨_, rfl⟩
        simp only at c0 c1 c2 c3 c4 c5
        rw [← hnx] at c5
        have hne : n = P.length + 1 := hnP
        have hnz : (0 : Int) < (n : Int) := by omega
        have h1n : 1 ≤ n := by omega
        have hnc : n ≤ c := by omega
        have hlk1 := hlk _ ((X0.out.trans HI.out.ex).alloc (.cells #[.int .i64 qn, .bool qo, .int .i64 qp, .int .i64 xl, .int .u32 xa, .slice xA nx xc] 99))
        have hlen : xs.length ≤ 9223372036854775807 := hsl.le
        obtain ⟨ns, hns⟩ : ∃ n, n = xs.length := ⟨_, rfl⟩
        unfold ptV at hlk1
        rw [← hns] at hlk1 hlen
        have HI1 := Lib.hid I1
        have HF := Lib.hid hf
        have HQ := Lib.hid hq
        have HW := Lib.hid hw
        have HY := Lib.hid hy
        have HGW := Lib.hid gwq
        have HDQ := Lib.hid hdq
        have HSL := Lib.hid hsl
        have HSP := Lib.hid hsp
        have HSV := Lib.hid hsv
        have HNS := Lib.hid hns
        have HNX := Lib.hid hnx
        have HNE := Lib.hid hne
        clear I1 hf hq hw hy gwq hdq hsl hsp hsv hns hnx hne hnP hlk P6
        go_wp2
        go_step3
        go_upto_region 7 with fail
        obtain ⟨w1, hw1⟩ : ∃ w1, w1 = wo.alloc (.cells #[.int .i64 qn, .bool qo, .int .i64 qp, .int .i64 xl, .int .u32 xa, .slice xA nx xc] 99) := ⟨_, rfl⟩
        have X1 : Hid (Ext wo w1) := Lib.hid (by rw [hw1]; exact (Ext.refl wo).alloc _)
        have B1 : Hid (Bk w1 wo.heap.size 99 #[.int .i64 qn, .bool qo, .int .i64 qp, .int .i64 xl, .int .u32 xa, .slice xA nx xc]) := Lib.hid (by rw [hw1]; exact Bk.new _ _ _)
        have I2 := HI1.out.ext X1.out
        have hbk : ∀ k, blk (some ⟨qb, qf, none⟩) c = some k → k < wo.heap.size := fun k hk => (HI.out.q.lt k hk).2
        rw [← hw1] at hlk1 ⊢
        obtain ⟨wb, hwb⟩ : ∃ b, b = wo.heap.size := ⟨_, rfl⟩
        rw [← hwb] at B1 hbk ⊢
        have HWB := Lib.hid hwb
        clear hw1 hwb c0 c1 c2 c3 c4 c5
        go_cut [10] from 36 to 37 (fun s10 wx => wx = w1 ∧ ∃ A' c', s10 = .slice A' P.length c' ∧ LsI w0 w1 g ⟨fn, fo, fp⟩ (st = true) w0.heap.size Q i 0 (i + 1) A' c' P ∧ ∀ k, blk A' c' = some k → k < wb)
        case first =>
          have hn1 : n - 1 = P.length := by rw [HNE.out]; rfl
          by_cases hc1 : c = 1
          · subst hc1
            rw [if_pos rfl] at I2
            have HI2 := Lib.hid I2
            have HN1 := Lib.hid hn1
            clear I2 hn1 hbk
            go_wp2
            go_meet
            case rel => exact ⟨rfl, _, _, by rw [show P.length = 0 by omega], HI2.out, fun k hk => by rw [Nat.sub_self, blk_zero] at hk; cases hk⟩
          · rw [if_neg hc1, Option.map_some, addr_at] at I2
            have HI2 := Lib.hid I2
            have HN1 := Lib.hid hn1
            have HBK := Lib.hid hbk
            clear I2 hn1 hbk
            go_wp2
            go_meet
            case rel =>
              refine ⟨rfl, _, _, by rw [HN1.out], HI2.out, fun k hk => HBK.out k ?_⟩
              obtain ⟨c', rfl⟩ : ∃ c', c = c' + 1 := ⟨c - 1, by omega⟩
              obtain ⟨c'', rfl⟩ : ∃ c'', c' = c'' + 1 := ⟨c' - 1, by omega⟩
              exact hk
        case rest =>
          obtain ⟨rfl, A', c', rfl, I3, hb3⟩ := hcut
          have HI3 := Lib.hid I3
          have HB3 : Hid (∀ k, blk A' c' = some k → k ≠ wb) := Lib.hid (fun k hk => Nat.ne_of_lt (hb3 k hk))
          have HY3 := Lib.hid (HY.out.ext X1.out)
          have e0 := B1.out.cell 0
          have e1 := B1.out.cell 1
          have e2 := B1.out.cell 2
          clear I3 hb3 I2 hbk
          go_wp2
          go_step3
          go_wp2
          clear e0 e1 e2 hlk1
          go_loopg [10, 13, 14, 15, 17, 18, 43] ns (fun gg s10 _ _ _ _ _ s43 wr => ∃ (Q' : List Ent) (j : Nat) (A' : Option Addr) (c' n' : Nat) (P' : List Sm), s10 = .slice A' n' c' ∧ n' = P'.length ∧ s43 = .int .i64 j ∧ j ≤ ns ∧ gg = ns - j ∧ Hid (LsI w0 wr g ⟨fn, fo, fp⟩ (st = true) w0.heap.size Q' i j (i + 1) A' c' P') ∧ Hid (Q'[i]? = some f) ∧ Hid (∀ k, blk A' c' = some k → k ≠ wb) ∧ Hid (Wy w0 wr ⟨xA, xc, ⟨xl, xa, xe⟩⟩) ∧ Hid (Bk wr wb 99 #[.int .i64 qn, .bool qo, .int .i64 qp, .int .i64 xl, .int .u32 xa, .slice xA nx xc]))
          case atStart => exact ⟨Q, 0, A', c', _, P, rfl, rfl, rfl, Nat.zero_le _, rfl, HI3, HF, HB3, HY3, B1⟩
          case round =>
            clear HI3 HB3 HY3 B1
            obtain ⟨Q', j, A', c', n', P', rfl, hnP', rfl, hjs, rfl, HI, HF, HB3, HY, B1⟩ := hrel
            have HNP := Lib.hid hnP'
            clear hnP'
            by_cases hlt : j < ns
            · have hjl : j < xs.length := by rw [← HNS.out]; exact hlt
              have hltz : (j : Int) < (ns : Int) := by omega
              obtain ⟨ad, hsA, h0, h1⟩ := els_at spC 6 spC_len Sm.zero (HSL.out.ext (X0.out.trans HI.out.ex)) rfl hjl (by omega)
              subst hsA
              have hsm := getD_mem' Sm.zero hjl
              have hmj : ((g.mvs f.at').map g.mvv)[j]? = some (xs.getD j Sm.zero).v := by
                rw [HQ.out, ← HSV.out, List.getElem?_map, List.getD_eq_getElem?_getD, List.getElem?_eq_getElem hjl]; rfl
              obtain ⟨⟨⟨sn, so, sp⟩, ⟨bA, bc, ⟨bl, ba, be⟩⟩⟩, hs⟩ : ∃ s, xs.getD j Sm.zero = s := ⟨_, rfl⟩
              rw [hs] at h0 h1 hsm hmj
              obtain ⟨nb, hnb⟩ : ∃ n, n = be.length := ⟨_, rfl⟩
              have q0 := h0 _ rfl
              have q1 := h1 0 _ rfl
              have q2 := h1 1 _ rfl
              have q3 := h1 2 _ rfl
              have q4 := h1 3 _ rfl
              have q5 := h1 4 _ rfl
              simp only at q0 q1 q2 q3 q4 q5
              rw [← hnb] at q5
              rw [List.getElem?_map] at hmj
              obtain ⟨m, hm1, hm2⟩ : ∃ m, (g.mvs f.at')[j]? = some m ∧ g.mvv m = (⟨sn, so, sp⟩, ⟨bl, ba, be⟩) := by
                cases hmm : (g.mvs f.at')[j]? with
                | none => rw [hmm] at hmj; cases hmj
                | some m => rw [hmm] at hmj; injection hmj with hmj; exact ⟨m, rfl, hmj⟩
              have ht : g.tgt m = ⟨sn, so, sp⟩ := congrArg Prod.fst hm2
              have hmw : g.mw m = ⟨bl, ba, be⟩ := congrArg Prod.snd hm2
              obtain ⟨gB, gt⟩ := G.out.goodB (List.mem_of_getElem? hm1) (by rw [HQ.out]; exact HDQ.out)
              rw [ht] at gt
              have P6 := hn.out _ gt
              have gW : GoodW (g.dp ⟨fn, fo, fp⟩) (g.dp f.at') f.w := by rw [HQ.out, HW.out]; exact HGW.out
              have nx3 : nx ≤ 3 := by have h1 := HGW.out.pe; have h2 := HGW.out.p3; have h3 := HGW.out.l1; rw [HNX.out]; simp only at h1 h2 h3; omega
              have nb6 : nb ≤ 6 := by have h1 := gB.qe; have h2 := gB.q3; have h3 := gB.b1; have h4 := (G.out.dp3 f.at').2; have h5 := (G.out.dp3 f.at').1; rw [hmw] at h1 h3; rw [hnb]; simp only at h1 h3; omega
              have HS1 : ∀ w', Ext wr w' → Sl w' 1 xA nx xc (wds xe) := fun w' e => by rw [HNX.out]; exact (HY.out.ext e).pmR
              have HS2 : ∀ w', Ext wr w' → Sl w' 1 bA nb bc (wds be) := fun w' e => by rw [hnb]; exact (HSP.out _ hsm).ext ((X0.out.trans HI.out.ex).trans e)
              have hT : ∀ w', Ext wr w' → Calls Try.prog 52 #[.agg #[.int .i64 xl, .int .u32 xa, .slice xA nx xc], .agg #[.int .i64 bl, .int .u32 ba, .slice bA nb bc]] w' (WayOut w' (thenT xl xa xe bl ba be)) := fun w' e => then_any xl xa bl ba xA bA nx nb xc bc xe be w' (HS1 w' e) (HS2 w' e) HGW.out.u ⟨HGW.out.a0, HGW.out.a1⟩ (by have h1 := gB.c0; have h2 := gB.c1; rw [hmw] at h1 h2; exact ⟨h1, h2⟩) (by omega) (by omega)
              obtain ⟨⟨⟨vl, va, ve⟩, er⟩, hr⟩ : ∃ r, thenT xl xa xe bl ba be = r := ⟨_, rfl⟩
              rw [hr] at hT
              have hthn : thn f.w (g.mw m) = (⟨vl, va, ve⟩, er) := by rw [HW.out, hmw]; exact hr
              have HT := Lib.hid hT
              have HM := Lib.hid hm1
              have HTG := Lib.hid ht
              have HTH := Lib.hid hthn
              have HGB := Lib.hid gB
              have HGF := Lib.hid gW
              have HP6 := Lib.hid P6
              have C0 : Hid (Ext wr (wr.alloc (.cells #[.int .i64 sn, .bool so, .int .i64 sp, .int .i64 bl, .int .u32 ba, .slice bA nb bc] 99))) := Lib.hid ((Ext.refl wr).alloc _)
              have bw := B1.out.ext C0.out
              have b3 := bw.cell 3
              have b4 := bw.cell 4
              have b5 := bw.cell 5
              clear h0 h1 hsm hmj hs hm1 hm2 ht hmw gB gt P6 gW HS1 HS2 hT hr hthn bw hnb hjl
              by_cases her : er = 0
              · subst her
                go_upto_region 13 with (first
                  | (go_at_call 52; go_loud (refine (HT.out _ C0.out).mono ?_); rintro e w6 ⟨vA, vc, rfl, ho, x6⟩; have HO := Lib.hid ho; have X6 := Lib.hid x6; clear ho x6))
                obtain ⟨w7, hw7⟩ : ∃ w7, w7 = w6.alloc (.cells #[.int .i64 vl, .int .u32 va, .slice vA ve.length vc] 47) := ⟨_, rfl⟩
                have E7 : Hid (Ext wr w7) := Lib.hid (by rw [hw7]; exact (C0.out.trans X6.out).alloc _)
                have E67 : Ext w6 w7 := by rw [hw7]; exact (Ext.refl w6).alloc _
                obtain ⟨pb, hpb⟩ : ∃ b, b = w6.heap.size := ⟨_, rfl⟩
                have B7 : Hid (Bk w7 pb 47 #[.int .i64 vl, .int .u32 va, .slice vA ve.length vc]) := Lib.hid (by rw [hw7, hpb]; exact Bk.new _ _ _)
                have HPB : Hid (wr.heap.size ≤ pb) := Lib.hid (by rw [hpb]; exact (C0.out.trans X6.out).size)
                have HY7 : Hid (Wy w0 w7 ⟨vA, vc, ⟨vl, va, ve⟩⟩) := Lib.hid (Own.mono (HO.out.ext E67) (by have h1 := HI.out.ex.size; have h2 := C0.out.size; omega))
                have S7 : Hid (Bk w7 wr.heap.size 99 #[.int .i64 sn, .bool so, .int .i64 sp, .int .i64 bl, .int .u32 ba, .slice bA nb bc]) := Lib.hid (((Bk.new _ _ _).ext X6.out).ext E67)
                obtain ⟨sb, hsb⟩ : ∃ b, b = wr.heap.size := ⟨_, rfl⟩
                rw [← hw7, ← hpb, ← hsb]
                rw [← hsb] at S7
                obtain ⟨L, ck, K, km, T⟩ := HI.out.kn
                obtain ⟨kA, kc, ka⟩ := km.ls ⟨sn, so, sp⟩
                obtain ⟨nk, hnk⟩ : ∃ n, n = (K ⟨sn, so, sp⟩).length := ⟨_, rfl⟩
                have HLK : ∀ w', Ext w7 w' → (Instr.lookup 81 (.map (some w0.heap.size)) (.agg #[.int .i64 sn, .bool so, .int .i64 sp]) false).run Try.prog w' = .ok (.slice kA nk kc) w' := fun w' e => by
                  have := (km.ext (E7.out.trans e)).tm.look HP6.out Try.underlying81 (zeroPs w')
                  rw [show (getE L ⟨sn, so, sp⟩).getD (.slice none 0 0) = _ from ka.hd, ← hnk] at this
                  exact this
                have hlk7 := HLK w7 (Ext.refl w7)
                have HLK := Lib.hid HLK
                have HKM := Lib.hid km
                have HTK := Lib.hid T
                have HKA := Lib.hid ka
                have HNK := Lib.hid hnk
                have hk63 : nk ≤ 9223372036854775807 := by rw [hnk]; exact ka.ow.sl.le
                have s0 := S7.out.cell 0
                have s1 := S7.out.cell 1
                have s2 := S7.out.cell 2
                have HSB := Lib.hid hsb
                clear hw7 hpb hsb km T ka hnk E67 HO q0 q1 q2 q3 q4 q5 b3 b4 b5
                go_wp2
                clear hlk7 s0 s1 s2
                go_loopg [17, 62] nk (fun gg _ s62 wr3 => ∃ k : Nat, s62 = .int .i64 k ∧ k ≤ nk ∧ gg = nk - k ∧ Hid (Ext w7 wr3) ∧ Hid (∀ y ∈ (K ⟨sn, so, sp⟩).take k, pl y.w ⟨vl, va, ve⟩ d = false))
                case atStart => exact ⟨0, rfl, Nat.zero_le _, rfl, Lib.hid (Ext.refl _), Lib.hid (fun y hy => by rw [List.take_zero] at hy; cases hy)⟩
                case round =>
                  obtain ⟨k, rfl, hkn, rfl, EX, AF⟩ := hrel
                  by_cases hkl : k < nk
                  · have hkz : (k : Int) < (nk : Int) := by omega
                    have hkL : k < (K ⟨sn, so, sp⟩).length := by rw [← HNK.out]; exact hkl
                    obtain ⟨ak, hka, h0, h1⟩ := els_at pmC 3 pmC_len Pm.zero (HKA.out.ow.sl.ext (E7.out.trans EX.out)) rfl hkL (by omega)
                    subst hka
                    have hym := getD_mem' Pm.zero hkL
                    have htk : (K ⟨sn, so, sp⟩).take (k + 1) = (K ⟨sn, so, sp⟩).take k ++ [(K ⟨sn, so, sp⟩).getD k Pm.zero] := by
                      rw [List.take_succ_eq_append_getElem hkL, List.getD_eq_getElem?_getD, List.getElem?_eq_getElem hkL]; rfl
                    obtain ⟨⟨yA, yc, ⟨yl, ya, ye⟩⟩, hy⟩ : ∃ y, (K ⟨sn, so, sp⟩).getD k Pm.zero = y := ⟨_, rfl⟩
                    rw [hy] at h0 h1 hym htk
                    obtain ⟨ny, hny⟩ : ∃ n, n = ye.length := ⟨_, rfl⟩
                    have q0 := h0 _ rfl
                    have q1 := h1 0 _ rfl
                    have q2 := h1 1 _ rfl
                    simp only at q0 q1 q2
                    rw [← hny] at q2
                    have fy := few_of HTK.out HI.out.b G.out (by rw [hd.out]; rfl) hym
                    have fv : Few32 ⟨vl, va, ve⟩ := few_good (HGB.out.goes HGF.out HTH.out)
                    have C8 : Hid (Ext wr (wr.alloc (.cells #[.int .i64 yl, .int .u32 ya, .slice yA ny yc] 47))) := Lib.hid ((Ext.refl wr).alloc _)
                    have hs8 : ∀ W, PmR W ⟨yA, yc, ⟨yl, ya, ye⟩⟩ → Sl W 1 yA ny yc (wds ye) := fun W h => by rw [hny]; exact h
                    have hE := pleq_any yl ya vl va d yA vA ny ve.length yc vc ye ve _ (hs8 _ ((HKM.out.wy _ _ hym).ext ((E7.out.trans EX.out).trans C8.out)).pmR) ((HY7.out.ext (EX.out.trans C8.out)).pmR) fy.1 fv.1 (by rw [hny]; exact fy.2) fv.2
                    have b7 := B7.out.ext (EX.out.trans C8.out)
                    have b0 := b7.cell 0
                    have b1 := b7.cell 1
                    have b2 := b7.cell 2
                    have bd := (H2.out.ext (((HI.out.ex.trans E7.out).trans EX.out).trans C8.out)).cell 0
                    have HYM := Lib.hid hym
                    have HTKK := Lib.hid htk
                    obtain ⟨bb, hbb⟩ : ∃ b, pathLeqT yl ya ye vl va ve d = b := ⟨_, rfl⟩
                    rw [hbb] at hE
                    have HE := Lib.hid hE
                    have HBB := Lib.hid hbb
                    clear h0 h1 hym htk hy hny fy fv hE b7 hbb hkL hs8
                    cases bb with
                    | true =>
                      go_wp2_with (first
                        | (go_at_call 27; go_loud (refine HE.out.mono ?_); rintro e w9 ⟨rfl, x9⟩; have X9 := Lib.hid (E7.out.trans (EX.out.trans (C8.out.trans x9))); clear x9))
                      go_roundg (ns - (j + 1))
                      case measure => omega
                      case rel => exact ⟨Q', j + 1, A', c', n', P', rfl, HNP.out, by go_num, by omega, rfl, Lib.hid ((HI.out.ext X9.out).skip HF.out HM.out HTH.out HTK.out (by rw [HTG.out]; exact HYM.out) (by rw [HDP.out]; exact HBB.out)), HF, HB3, Lib.hid (HY.out.ext X9.out), Lib.hid (B1.out.ext X9.out)⟩
                    | false =>
                      go_wp2_with (first
                        | (go_at_call 27; go_loud (refine HE.out.mono ?_); rintro e w9 ⟨rfl, x9⟩; have X9 := Lib.hid (EX.out.trans (C8.out.trans x9)); clear x9))
                      go_roundg (nk - (k + 1))
                      case measure => omega
                      case rel =>
                        refine ⟨k + 1, by go_num, by omega, rfl, X9, Lib.hid (fun y hy => ?_)⟩
                        rw [HTKK.out] at hy
                        rcases List.mem_append.1 hy with hy | hy
                        · exact AF.out y hy
                        · rw [List.mem_singleton.1 hy]; exact HBB.out
                  · obtain rfl : k = nk := by omega
                    have EWR := E7.out.trans EX.out
                    have kx := HKM.out.ext EWR
                    have hlkx := HLK.out wr EX.out
                    have sx := S7.out.ext EX.out
                    have s0 := sx.cell 0
                    have s1 := sx.cell 1
                    have s2 := sx.cell 2
                    have px := B7.out.ext EX.out
                    have fv : Few32 ⟨vl, va, ve⟩ := few_good (HGB.out.goes HGF.out HTH.out)
                    have hD := delete_own (fun x => pl ⟨vl, va, ve⟩ x.w d) 54 (.pointer (some ⟨pb, 0, none⟩)) (.pointer (some ⟨bf + 1, 0, none⟩)) (fun _ _ => by kernel_rfl) w0.heap.size kA kc (K ⟨sn, so, sp⟩) wr (HKA.out.ow.ext EWR) (fun b hb => least1_pred (w0 := w0) (p := ⟨vA, vc, ⟨vl, va, ve⟩⟩) (fun x hx => kx.wy _ x hx) (HY7.out.ext EX.out) (fun x hx => few_of HTK.out HI.out.b G.out (by rw [hd.out]; rfl) hx) fv ⟨px.cell 0, px.cell 1, px.cell 2⟩ ((H2.out.ext (HI.out.ex.trans EWR)).cell 0) (kx.not_u32 (.inr ⟨_, HKA.out.bk.trans hb⟩)) (by have h1 := (HKA.out.ow.lt b hb).2; have h2 := HPB.out; omega) (by have h1 := (HKA.out.ow.lt b hb).1; have h2 := HBF.out.2; omega))
                    unfold DelOwn at hD
                    obtain ⟨FL, hFL⟩ : ∃ l, l = (K ⟨sn, so, sp⟩).filter (fun x => !pl ⟨vl, va, ve⟩ x.w d) := ⟨_, rfl⟩
                    obtain ⟨nf, hnf⟩ : ∃ n, n = FL.length := ⟨_, rfl⟩
                    rw [← hFL, ← hnf, ← HNK.out] at hD
                    have hfew : nf ≤ 1263007198127 := by
                      have h1 := HTK.out.few HI.out.b G.out (by rw [hd.out]; rfl) F.out ⟨sn, so, sp⟩
                      rw [List.length_map] at h1
                      have h2 := List.length_filter_le (fun x : Pm => !pl ⟨vl, va, ve⟩ x.w d) (K ⟨sn, so, sp⟩)
                      rw [← hFL, ← hnf] at h2
                      omega
                    have HD := Lib.hid hD
                    have HFL := Lib.hid hFL
                    have HNF := Lib.hid hnf
                    have HSX := Lib.hid sx
                    have HPX := Lib.hid px
                    have HKX := Lib.hid kx
                    clear hD hFL hnf sx px kx fv
                    go_upto_region 19 with (first
                      | (go_at_call 53; go_loud (refine HD.out.mono ?_); rintro e w9 ⟨rfl, o9, u9⟩; have O9 := Lib.hid o9; have U9 := Lib.hid u9; clear o9 u9))
                    clear s0 s1 s2 hlkx
                    have nsb : ¬ blk kA kc = some sb := fun e => by have h1 := (HKA.out.ow.lt _ e).2; have h2 := HSB.out; omega
                    have npb : ¬ blk kA kc = some pb := fun e => by have h1 := (HKA.out.ow.lt _ e).2; have h2 := HPB.out; omega
                    have S9 := HSX.out.updB U9.out nsb
                    have P9 := HPX.out.updB U9.out npb
                    have xd : Ext w9 w9.drew := (Ext.refl w9).drew
                    have Q1 : ∀ y : Yt (fun k => blk kA kc = some k) w9.drew, y.W.cell? ⟨sb, 0, none⟩ = some (.int .i64 sn) := fun y => Bk.cell (Bk.updB (S9.ext xd) y.x nsb) 0
                    have Q2 : ∀ y : Yt (fun k => blk kA kc = some k) w9.drew, y.W.cell? ⟨sb, 1, none⟩ = some (.bool so) := fun y => Bk.cell (Bk.updB (S9.ext xd) y.x nsb) 1
                    have Q3 : ∀ y : Yt (fun k => blk kA kc = some k) w9.drew, y.W.cell? ⟨sb, 2, none⟩ = some (.int .i64 sp) := fun y => Bk.cell (Bk.updB (S9.ext xd) y.x nsb) 2
                    have Q4 : ∀ y : Yt (fun k => blk kA kc = some k) w9.drew, y.W.cell? ⟨pb, 0, none⟩ = some (.int .i64 vl) := fun y => Bk.cell (Bk.updB (P9.ext xd) y.x npb) 0
                    have Q5 : ∀ y : Yt (fun k => blk kA kc = some k) w9.drew, y.W.cell? ⟨pb, 1, none⟩ = some (.int .u32 va) := fun y => Bk.cell (Bk.updB (P9.ext xd) y.x npb) 1
                    have Q6 : ∀ y : Yt (fun k => blk kA kc = some k) w9.drew, y.W.cell? ⟨pb, 2, none⟩ = some (.slice vA ve.length vc) := fun y => Bk.cell (Bk.updB (P9.ext xd) y.x npb) 2
                    have HS9 := Lib.hid S9
                    have HP9 := Lib.hid P9
                    have HNB := Lib.hid (And.intro nsb npb)
                    clear S9 P9 nsb npb
                    refine wp_region_ordU (S := (fun k => blk kA kc = some k)) [0,0,2,0,0,16,56,127] (.flo [0,1,2,3,4] (.ext 5 (.ext 6 (.one 7 (.fin))))) (by kernel_rfl) (by kernel_rfl) (by intro _ _ d _ _ h; cases d <;> exact h) ?_
                    (refine ord_floU (pick_cons rfl (pick_cons rfl (pick_cons rfl (pick_cons rfl (pick_cons rfl pick_nil))))) ?_; (repeat (go_big_quiet_step (fail))); refine wpQuiet_nil ?_; show ordWalkU _ _ _ _ _ _ _ _)
                    refine ord_extU (pick_cons rfl pick_nil) ?_; intro K_ hK_
                    go_wp2
                    refine ordNextU.mk (Upd.ext ((Ext.refl _).alloc _)) ?_
                    refine ord_extU (pick_cons rfl pick_nil) ?_; intro K_ hK_
                    have XA : Hid (Ext w9 (w9.drew.alloc (.cells #[.int .i64 vl, .int .u32 va, .slice vA ve.length vc] 47))) := Lib.hid (xd.alloc _)
                    have HOW := Lib.hid (O9.out.ext XA.out)
                    have hb9 : w0.heap.size ≤ (w9.drew.alloc (.cells #[.int .i64 vl, .int .u32 va, .slice vA ve.length vc] 47)).heap.size := by have h1 := HI.out.ex.size; have h2 := EWR.size; have h3 := U9.out.size; have h4 := XA.out.size; omega
                    clear Q1 Q2 Q3 Q4 Q5 Q6
                    go_wp2_with (at_builtin; go_loud (refine wpList_append_two _ elem_pm w0.heap.size _ _ rfl rfl kA nf kc (FL.flatMap pmC) rfl HOW.out (some ⟨w9.drew.heap.size, 0, none⟩) 1 1 [.int .i64 vl, .int .u32 va, .slice vA ve.length vc] rfl (Sl.one w9.drew #[.int .i64 vl, .int .u32 va, .slice vA ve.length vc] 47 3 rfl) (by intro u hu; simp at hu; rcases hu with rfl | rfl | rfl <;> rfl) (by omega) (by decide) hb9 ?_); intro A5 c5 w5 o5 g5 x5; have HO5 := Lib.hid o5; have HG5 := Lib.hid g5; have HX5 := Lib.hid x5; clear o5 g5 x5)
                    go_simp
                    have U5 : Upd (fun k => blk kA kc = some k) (w9.drew.alloc (.cells #[.int .i64 vl, .int .u32 va, .slice vA ve.length vc] 47)) w5 := (Upd.refl _ _).grown HG5.out (fun k hk => .inl hk)
                    refine ordNextU.mk U5 ?_
                    have U95 : Hid (Upd (fun k => blk kA kc = some k) wr w5) := Lib.hid (U9.out.trans ((Upd.ext XA.out).trans U5))
                    have HTM : Hid (TM w5 w0.heap.size L ck) := Lib.hid (HKX.out.tm.upd U95.out (fun e => HKX.out.ne_kb (q := ⟨sn, so, sp⟩) (HKA.out.bk.trans e)))
                    clear U5
                    refine ord_oneU (pick_cons rfl pick_nil) ?_; intro K_ hK_
                    go_wp2_with (at_mapUpdate; go_loud (refine wpList_put_tm rfl Try.underlying81 _ _ _ rfl rfl ⟨sn, so, sp⟩ rfl _ rfl HTM.out HP6.out ?_); intro w6' L2 ck2 tm2 pp2 gm2 sz2; have HT2 := Lib.hid tm2; have HPP := Lib.hid pp2; have HGM := Lib.hid gm2; clear tm2 pp2 gm2 sz2)
                    go_simp
                    refine ord_finU ?_
                    have um : Upd (fun k => k = w0.heap.size) w5 w6' := (Upd.refl _ w5).grown HGM.out (fun k hk => .inl (by injection hk with hk; exact hk.symm))
                    have S6 : Bk w6' sb 99 #[.int .i64 sn, .bool so, .int .i64 sp, .int .i64 bl, .int .u32 ba, .slice bA nb bc] := (HSX.out.updB U95.out HNB.out.1).updB um (fun e => HTM.out.not_ty _ (by rw [← e]; exact (HSX.out.updB U95.out HNB.out.1).ty))
                    have P6' : Bk w6' pb 47 #[.int .i64 vl, .int .u32 va, .slice vA ve.length vc] := (HPX.out.updB U95.out HNB.out.2).updB um (fun e => HTM.out.not_ty _ (by rw [← e]; exact (HPX.out.updB U95.out HNB.out.2).ty))
                    have s0 := S6.cell 0
                    have s1 := S6.cell 1
                    have s2 := S6.cell 2
                    have p0 := P6'.cell 0
                    have p1 := P6'.cell 1
                    have p2 := P6'.cell 2
                    have qr := (HI.out.ext EWR).q
                    have q5 := qr.upd U95.out (fun q hq e => HKX.out.not_sp (.inr ⟨_, HKA.out.bk.trans e⟩) (qr.ty hq))
                    have q6 := q5.upd um (fun q hq e => by rw [e] at hq; exact HTM.out.not_ty _ (q5.ty hq))
                    have HQA : Hid (OwnQ (w6'.alloc (.cells #[.int .i64 sn, .bool so, .int .i64 sp, .int .i64 vl, .int .u32 va, .slice vA ve.length vc] 99)) w0.heap.size 99 6 A' n' c' (P'.flatMap spC)) := Lib.hid (by rw [HNP.out]; exact q6.ext ((Ext.refl w6').alloc _))
                    have HQR := Lib.hid qr
                    have hwait : n' ≤ 3462030453680 := by
                      have h1 := congrArg List.length HI.out.pv
                      rw [List.length_map, List.length_map, List.length_drop] at h1
                      have h2 := HI.out.b.waits G.out (by rw [hd.out]; rfl) F.out (List.getElem?_eq_some_iff.1 HF.out).1
                      rw [HNP.out]; omega
                    have hb6 : w0.heap.size ≤ (w6'.alloc (.cells #[.int .i64 sn, .bool so, .int .i64 sp, .int .i64 vl, .int .u32 va, .slice vA ve.length vc] 99)).heap.size := by
                      have h1 := HI.out.ex.size; have h2 := EWR.size; have h3 := U95.out.size; have h4 := um.size; have h5 := ((Ext.refl w6').alloc (.cells #[.int .i64 sn, .bool so, .int .i64 sp, .int .i64 vl, .int .u32 va, .slice vA ve.length vc] 99)).size
                      omega
                    have HUM := Lib.hid um
                    clear qr q5 q6 um S6 P6'
                    go_wp2_with (first
                      | (at_builtin; go_loud (refine wpList_append_q _ elem_sp w0.heap.size _ _ rfl rfl A' n' c' (P'.flatMap spC) rfl HQA.out (some ⟨w6'.heap.size, 0, none⟩) 1 1 [.int .i64 sn, .bool so, .int .i64 sp, .int .i64 vl, .int .u32 va, .slice vA ve.length vc] rfl (Sl.one w6' #[.int .i64 sn, .bool so, .int .i64 sp, .int .i64 vl, .int .u32 va, .slice vA ve.length vc] 99 6 rfl) (by intro u hu; simp at hu; rcases hu with rfl | rfl | rfl | rfl | rfl | rfl <;> rfl) (by omega) (by omega) (by decide) hb6 ?_); intro A9 c9 w10 o9 g9 x9; have HO9 := Lib.hid o9; have HG9 := Lib.hid g9; have HX9 := Lib.hid x9; clear o9 g9 x9))
                    go_roundg (ns - (j + 1))
                    case measure => omega
                    case rel =>
                      have u3 : Upd (fun k => blk A' c' = some k) w6' w10 := ((Upd.refl _ w6').alloc _).grown HG9.out (fun k hk => .inl hk)
                      have ka2 : KAt w0 wr (getE L ⟨sn, so, sp⟩) (K ⟨sn, so, sp⟩) kA kc := ⟨HKA.out.hd, HKA.out.ow.ext EWR, HKA.out.bk⟩
                      obtain ⟨fy, fb⟩ := push_frame HKX.out ka2 U95.out HGM.out HQR.out u3
                      have hl1 : (FL ++ [(⟨vA, vc, ⟨vl, va, ve⟩⟩ : Pm)]).length = nf + 1 := by rw [List.length_append, ← HNF.out]; rfl
                      have I9 := (HI.out.ext EWR).push (p := ⟨vA, vc, ⟨vl, va, ve⟩⟩) (l := FL ++ [⟨vA, vc, ⟨vl, va, ve⟩⟩]) (A2 := A5) (c2 := c5) (A3 := A9) (c3 := c9) G.out (by rw [hd.out]; rfl) HF.out HM.out HTH.out (HGB.out.goes HGF.out HTH.out) HTG.out (HY7.out.ext EX.out) HKX.out HTK.out (fun x hx => by rw [HDP.out]; exact AF.out x (by rw [HNK.out, List.take_length]; exact hx)) ka2 U95.out (by rw [HFL.out, HDP.out]) (by rw [hl1, List.flatMap_append]; exact HO5.out) (fun k hk => by
                          rcases HX5.out with ⟨e1, e2⟩ | ⟨e1, _⟩
                          · rw [e1, e2] at hk; exact .inl hk
                          · rw [e1] at hk; exact .inr (by rw [← Option.some.inj hk]; exact Nat.le_trans U9.out.size XA.out.size)) HT2.out (by rw [hl1]; exact HPP.out) HGM.out (by have := HO9.out; rw [HNP.out] at this; exact this) u3
                      refine ⟨_, j + 1, A9, c9, n' + 1, _, rfl, by rw [List.length_append, ← HNP.out]; rfl, by go_num, by omega, rfl, Lib.hid I9, Lib.hid (by rw [List.getElem?_append_left (List.getElem?_eq_some_iff.1 HF.out).1]; exact HF.out), Lib.hid (fun k hk => ?_), Lib.hid (fy (HY.out.ext EWR)), Lib.hid (fb (B1.out.ext EWR) HB3.out)⟩
                      rcases HX9.out with ⟨e1, e2⟩ | ⟨e1, _⟩
                      · rw [e1, e2] at hk; exact HB3.out k hk
                      · rw [e1] at hk
                        rw [← Option.some.inj hk]
                        have h1 := B1.out.lt; have h2 := EWR.size; have h3 := U95.out.size; have h4 := HUM.out.size; have h5 := ((Ext.refl w6').alloc (.cells #[.int .i64 sn, .bool so, .int .i64 sp, .int .i64 vl, .int .u32 va, .slice vA ve.length vc] 99)).size
                        omega
              · have hne : (er != 0) = true := by simpa using her
                have HER := Lib.hid her
                clear her
                go_wp2_with (first
                  | (go_at_call 52; go_loud (refine (HT.out _ C0.out).mono ?_); rintro e w6 ⟨vA, vc, rfl, ho, x6⟩; have X6 := Lib.hid (C0.out.trans x6); clear ho x6))
                go_roundg (ns - (j + 1))
                case measure => omega
                case rel =>
                  have E6 := X6.out.alloc (.cells #[.int .i64 vl, .int .u32 va, .slice vA ve.length vc] 47)
                  exact ⟨Q', j + 1, A', c', n', P', rfl, HNP.out, by go_num, by omega, rfl, Lib.hid ((HI.out.ext E6).off HF.out HM.out (by rw [HTH.out]; exact HER.out)), HF, HB3, Lib.hid (HY.out.ext E6), Lib.hid (B1.out.ext E6)⟩
            · obtain rfl : j = ns := by omega
              go_wp2
              rw [Exit.noGoto_normal]
              go_wp2
              go_roundg (B + 1 - (i + 1))
              case measure =>
                have hi := (List.getElem?_eq_some_iff.1 HF.out).1
                have := HB.out _ _ _ _ HI.out.b
                omega
              case rel =>
                exact ⟨Q', i + 1, A', c', n', P', rfl, HNP.out, Nat.le_refl _, Lib.hid (HI.out.next HF.out (by rw [HQ.out]; have := congrArg List.length HSV.out; rw [List.length_map, List.length_map, ← HNS.out] at this; omega))⟩
end Go.Proofs.Yteklohamkmiphaa
namespace Go.Proofs.Yteklohamkmiphaa
open Go.RowKit

/-- of what types their blocks are -/
structure WysT (w : World) (A : Option Addr) (c : Nat) (M : List Pm) : Prop where
  t : ∀ k, blk A c = some k → Ty w k 47
  y : ∀ x ∈ M, ∀ k, blk x.A x.c = some k → Ty w k 45
theorem Ty.onE {w w' : World} {k : Nat} {e : TypeId} (h : Ty w k e) (x : Ext w w') : Ty w' k e := by
  obtain ⟨a, b, h⟩ := h
  exact ⟨a, b, (x.block k (Array.getElem?_eq_some_iff.1 h).1).trans h⟩
theorem WysT.ext {w w' : World} {A : Option Addr} {c : Nat} {M : List Pm} (h : WysT w A c M) (e : Ext w w') : WysT w' A c M := ⟨fun k hk => (h.t k hk).onE e, fun x hx k hk => (h.y x hx k hk).onE e⟩
structure RaT (w w' : World) (gm : Gm) (fr : Pt) (st : Prop) (KA : Option Addr) (kn kc : Nat) (KS : List Kw) : Prop where
  ln : kn = KS.length
  ks : Sl w' 4 KA kn kc (KS.flatMap knC)
  kl : ∀ x ∈ KS, WysR w' x.A x.ws.length x.c x.ws
  kt : ∀ x ∈ KS, WysT w' x.A x.c x.ws
  ky : ∀ k, blk KA kc = some k → Ty w' k 118
  so : ∀ q, ((kw KS q).map Pm.w).Pairwise wlt
  tb : Tab gm.v fr st (fun q => (kw KS q).map Pm.w)
  kd : (KS.map Kw.q).Nodup
  n9 : kn ≤ 1001
  few : ∀ q, (kw KS q).length ≤ 1263007198127
  ex : Ext w w'
def RAllOut (gm : Gm) (fr : Pt) (st : Prop) (w : World) (e : Ending) (w' : World) : Prop := ∃ KA kn kc KS, e = .returned (.slice KA kn kc) ∧ RaT w w' gm fr st KA kn kc KS
theorem kw_cases (q : Pt) : ∀ l : List Kw, kw l q = [] ∨ ∃ x ∈ l, x.q = q ∧ kw l q = x.ws
  | [] => .inl rfl
  | x :: l => by
    by_cases h : x.q = q
    · exact .inr ⟨x, List.mem_cons_self, h, by rw [kw, if_pos h]⟩
    · rcases kw_cases q l with e | ⟨y, hy, h1, h2⟩
      · exact .inl (by rw [kw, if_neg h]; exact e)
      · exact .inr ⟨y, List.mem_cons_of_mem _ hy, h1, by rw [kw, if_neg h]; exact h2⟩
theorem kw_mem {l : List Kw} (nd : (l.map Kw.q).Nodup) {x : Kw} (hx : x ∈ l) : kw l x.q = x.ws := by
  obtain ⟨k, hk, rfl⟩ := List.getElem_of_mem hx
  have := kw_at l k hk nd
  rw [List.getD_eq_getElem?_getD, List.getElem?_eq_getElem hk] at this
  exact this
section
variable {w0 w a : World} {gm : Gm} {fr : Pt} {st : Prop} {Q : List Ent} {i j o : Nat} {A : Option Addr} {c : Nat} {P : List Sm} {KA : Option Addr} {kc : Nat} {KS : List Kw}
theorem RaI.fewW (I : RaI w0 w gm fr st Q i j o A c P KA kc KS) (G : GOK gm.v) (hf : (gm.v.dep fr).isSome) {x : Kw} (hx : x ∈ KS) {y : Pm} (hy : y ∈ x.ws) : Few32 y.w := by
  have e := kw_mem I.kd hx
  obtain ⟨k, f, h1, _, h3, h4⟩ := I.kn.of x.q y.w (List.mem_map.2 ⟨y, by rw [e]; exact hy, rfl⟩)
  rw [← h4]
  exact few_good (I.b.good G hf h1).2
theorem RaI.wys (I : RaI w0 w gm fr st Q i j o A c P KA kc KS) (G : GOK gm.v) (hf : (gm.v.dep fr).isSome) {x : Kw} (hx : x ∈ KS) : WysR w x.A x.ws.length x.c x.ws :=
  ⟨rfl, (I.kl x hx).1.sl, fun y hy => ⟨((I.kl x hx).2.1 y hy).pmR, I.fewW G hf hx hy⟩⟩
theorem RaI.tell (I : RaI w0 w gm fr st Q i 0 i A c [] KA kc KS) (G : GOK gm.v) (F : GFew gm.v) (hf : (gm.v.dep fr).isSome) (b9 : (allS gm).length ≤ 1000) (ea : Ext a w0) : RaT a w gm fr st KA KS.length kc KS := by
  refine ⟨rfl, I.ks.sl, fun x hx => I.wys G hf hx, fun x hx => ⟨fun k hk => (I.kl x hx).1.ty hk, fun y hy k hk => Own.ty ((I.kl x hx).2.1 y hy) hk⟩, fun k hk => I.ks.ty hk, fun q => ?_, I.done.tab G hf I.kn, I.kd, I.few b9, fun q => ?_, ea.trans I.ex⟩
  · rcases kw_cases q KS with e | ⟨x, hx, _, e⟩
    · rw [e]; exact List.Pairwise.nil
    · rw [e]; exact (I.kl x hx).2.2
  · have := I.kn.few I.done G hf F q
    rwa [List.length_map] at this
theorem RaI.fewK (I : RaI w0 w gm fr st Q i j o A c P KA kc KS) (G : GOK gm.v) (F : GFew gm.v) (hf : (gm.v.dep fr).isSome) {x : Kw} (hx : x ∈ KS) : x.ws.length ≤ 1263007198127 := by
  have := I.kn.few I.b G hf F x.q
  rw [List.length_map, kw_mem I.kd hx] at this
  exact this
theorem RaI.start (ex : Ext w0 w) (q : OwnQ w w0.heap.size 115 6 A 1 c (spC ⟨fr, Pm.zero⟩)) (ks : Own w w0.heap.size 118 4 KA KS.length kc (KS.flatMap knC))
    (kl : ∀ x ∈ KS, Own w w0.heap.size 47 3 x.A x.ws.length x.c (x.ws.flatMap pmC) ∧ (∀ y ∈ x.ws, Wy w0 w y) ∧ (x.ws.map Pm.w).Pairwise wlt) (kd : (KS.map Kw.q).Nodup) (ki : ∀ x ∈ KS, x.q = fr ∨ x.q ∈ goals gm) (kn : Kn gm.v fr st [⟨[], fr, idW, 0, 0⟩] (fun q => (kw KS q).map Pm.w)) :
    RaI w0 w gm fr st [⟨[], fr, idW, 0, 0⟩] 0 0 0 A c [⟨fr, Pm.zero⟩] KA kc KS :=
  ⟨ex, BInv.start gm.v fr st, Nat.zero_le _, by rw [List.flatMap_singleton]; exact q, rfl, fun x hx => by rw [List.mem_singleton.1 hx]; exact wy_zero _ _, ks, kl, kd, ki, kn⟩
theorem RaI.start_no (w0 : World) (gm : Gm) (fr : Pt) (hg : pl idW idW (gm.v.dp fr) = true) : RaI w0 (w0.alloc (.cells #[.int .i64 fr.n, .bool fr.o, .int .i64 fr.p, .int .i64 0, .int .u32 0, .slice none 0 0] 115)) gm fr (false = true) [⟨[], fr, idW, 0, 0⟩] 0 0 0 (some ⟨w0.heap.size, 0, none⟩) 1 [⟨fr, Pm.zero⟩] none 0 [] :=
  RaI.start ((Ext.refl w0).alloc _) (OwnQ.of (own_new1 (w := w0) (B := w0.heap.size) (T := 115) (spC ⟨fr, Pm.zero⟩) (Nat.le_refl _))) (Own.nil _ _ _ _) (fun x hx => (nomatch hx)) List.nodup_nil (fun x hx => (nomatch hx))
    (Kn.start gm.v fr _ (fun q _ => rfl) (fun h => absurd h (by decide)) (fun _ => rfl) hg)
/-- .. with the way that changes nothing: wq has what waits in it, wp the way besides -/
theorem RaI.start_yes {st : Prop} (hst : st) {w0 wq w' : World} {gm : Gm} {fr : Pt} (hg : pl idW idW (gm.v.dp fr) = true) (hq : wq = w0.alloc (.cells #[.int .i64 fr.n, .bool fr.o, .int .i64 fr.p, .int .i64 0, .int .u32 0, .slice none 0 0] 115)) {KA : Option Addr} {kc : Nat} (g : ((wq.alloc (.cells #[.int .i64 0, .int .u32 0, .slice none 0 0] 47)).alloc (.cells #[.int .i64 fr.n, .bool fr.o, .int .i64 fr.p, .slice (some ⟨wq.heap.size, 0, none⟩) 1 1] 118)).grownBy w' none)
    (o : Own w' w0.heap.size 118 4 KA 1 kc (knC ⟨fr, some ⟨wq.heap.size, 0, none⟩, 1, [Pm.zero]⟩)) : RaI w0 w' gm fr st [⟨[], fr, idW, 0, 0⟩] 0 0 0 (some ⟨w0.heap.size, 0, none⟩) 1 [⟨fr, Pm.zero⟩] KA kc [⟨fr, some ⟨wq.heap.size, 0, none⟩, 1, [Pm.zero]⟩] := by
  have x1 : Ext w0 wq := by rw [hq]; exact (Ext.refl w0).alloc _
  have x2 : Ext wq w' := (((Ext.refl wq).alloc _).alloc _).grown g (fun k hk => nomatch hk)
  have q0 : OwnQ wq w0.heap.size 115 6 (some ⟨w0.heap.size, 0, none⟩) 1 1 (spC ⟨fr, Pm.zero⟩) := by rw [hq]; exact OwnQ.of (own_new1 (w := w0) (B := w0.heap.size) (T := 115) (spC ⟨fr, Pm.zero⟩) (Nat.le_refl _))
  have p0 : Own (wq.alloc (.cells #[.int .i64 0, .int .u32 0, .slice none 0 0] 47)) w0.heap.size 47 3 (some ⟨wq.heap.size, 0, none⟩) 1 1 (pmC Pm.zero) := own_new1 (w := wq) (B := w0.heap.size) (T := 47) (pmC Pm.zero) x1.size
  refine RaI.start (x1.trans x2) (q0.ext x2) (by rw [List.flatMap_singleton]; exact o) (fun x hx => ?_) (by simp) (fun x hx => ?_) (Kn.start gm.v fr _ (fun q h => ?_) (fun _ => ?_) (fun h => absurd hst h) hg)
  · rw [List.mem_singleton.1 hx]
    refine ⟨?_, fun y hy => ?_, ?_⟩
    · show Own w' w0.heap.size _ 3 _ 1 1 ([Pm.zero].flatMap pmC)
      rw [List.flatMap_singleton]
      exact p0.ext (((Ext.refl _).alloc _).grown g (fun k hk => nomatch hk))
    · rw [List.mem_singleton.1 hy]; exact wy_zero _ _
    · exact List.pairwise_singleton _ _
  · rw [List.mem_singleton.1 hx]; exact .inl rfl
  · show (kw [_] q).map Pm.w = []
    rw [kw, if_neg (fun e => h e.symm)]; rfl
  · show (kw [_] fr).map Pm.w = [idW]
    rw [kw, if_pos rfl]; rfl
/-- the head of what waits -/
theorem RaI.head {x : Sm} (I : RaI w0 w gm fr st Q i j o A c (x :: P) KA kc KS) : ∃ b f, A = some ⟨b, f, none⟩ ∧ P.length + 1 ≤ c ∧ c ≤ 9223372036854775807 ∧ w.cell? ⟨b, f, none⟩ = some (.int .i64 x.q.n) ∧ w.cell? ⟨b, f + 1, none⟩ = some (.bool x.q.o) ∧ w.cell? ⟨b, f + 2, none⟩ = some (.int .i64 x.q.p) ∧
    w.cell? ⟨b, f + 3, none⟩ = some (.int .i64 x.b.w.leave) ∧ w.cell? ⟨b, f + 4, none⟩ = some (.int .u32 x.b.w.add) ∧ w.cell? ⟨b, f + 5, none⟩ = some (.slice x.b.A x.b.w.enter.length x.b.c) := by
  have hle := I.q.le
  rcases I.q.2 with ⟨_, h⟩ | ⟨b, f, cur, rfl, _⟩
  · cases h
  · obtain ⟨ad, h1, h2⟩ := I.q.sl.2.2.2.2 (by simp)
    injection h1 with h1
    subst h1
    have t : ∀ j u, ((x :: P).flatMap spC)[j]? = some u → w.cell? ⟨b, f + j, none⟩ = some u := fun j u hu => by have := h2 j u hu; rwa [addr_at] at this
    exact ⟨b, f, rfl, hle.1, hle.2, t 0 _ rfl, t 1 _ rfl, t 2 _ rfl, t 3 _ rfl, t 4 _ rfl, t 5 _ rfl⟩
end
end Go.Proofs.Yteklohamkmiphaa
namespace Go.Proofs.Yteklohamkmiphaa
open Go.RowKit

structure Ld where
  fr : Pt
  tt : Pt
  A : Option Addr
  c : Nat
  ws : List Pm
def Ld.zero : Ld := ⟨⟨0, false, 0⟩, ⟨0, false, 0⟩, none, 0, []⟩
instance : Inhabited Ld := ⟨Ld.zero⟩
def ldC (x : Ld) : List Value := [.int .i64 x.fr.n, .bool x.fr.o, .int .i64 x.fr.p, .int .i64 x.tt.n, .bool x.tt.o, .int .i64 x.tt.p, .slice x.A x.ws.length x.c]
theorem ldC_len (x : Ld) : (ldC x).length = 7 := rfl
def Ld.v (x : Ld) : Pt × Pt × List Way := (x.fr, x.tt, x.ws.map Pm.w)
theorem elem_ld : Elem Try.prog 61 67 7 72 (.agg #[.int .i64 0, .bool false, .int .i64 0, .int .i64 0, .bool false, .int .i64 0, .slice none 0 0]) := ⟨by kernel_rfl, by kernel_rfl, rfl, by decide⟩
theorem WysR.upd {S : Nat → Prop} {w w' : World} {A : Option Addr} {n c : Nat} {M : List Pm} (h : WysR w A n c M) (t : WysT w A c M) (u : Upd S w w') (hS : ∀ k, S k → ¬ Ty w k 47 ∧ ¬ Ty w k 45) : WysR w' A n c M :=
  ⟨h.ln, h.sl.upd u (fun k hk e => (hS k e).1 (t.t k hk)), fun x hx => ⟨Sl.upd (h.pr x hx).1 u (fun k hk e => (hS k e).2 (t.y x hx k hk)), (h.pr x hx).2⟩⟩
theorem Ty.updE {S : Nat → Prop} {w w' : World} {k : Nat} {e : TypeId} (h : Ty w k e) (u : Upd S w w') (hn : ¬ S k) : Ty w' k e := by
  obtain ⟨a, b, h⟩ := h
  exact ⟨a, b, (u.block k (Array.getElem?_eq_some_iff.1 h).1 hn).trans h⟩
theorem WysT.upd {S : Nat → Prop} {w w' : World} {A : Option Addr} {c : Nat} {M : List Pm} (t : WysT w A c M) (u : Upd S w w') (hS : ∀ k, S k → ¬ Ty w k 47 ∧ ¬ Ty w k 45) : WysT w' A c M :=
  ⟨fun k hk => (t.t k hk).updE u (fun e => (hS k e).1 (t.t k hk)), fun x hx k hk => (t.y x hx k hk).updE u (fun e => (hS k e).2 (t.y x hx k hk))⟩
/-- what has been told so far -/
structure LdI (w0 wr : World) (A : Option Addr) (n c : Nat) (Ls : List Ld) : Prop where
  ln : n = Ls.length
  ow : Own wr w0.heap.size 67 7 A n c (Ls.flatMap ldC)
  ws : ∀ x ∈ Ls, WysR wr x.A x.ws.length x.c x.ws ∧ WysT wr x.A x.c x.ws
  ex : Ext w0 wr
section
variable {w0 w w' : World} {A : Option Addr} {n c : Nat} {Ls : List Ld}
theorem LdI.nil (w0 : World) : LdI w0 w0 none 0 0 [] := ⟨rfl, Own.nil _ _ _ _, fun x hx => (nomatch hx), Ext.refl _⟩
theorem LdI.ext (h : LdI w0 w A n c Ls) (e : Ext w w') : LdI w0 w' A n c Ls := ⟨h.ln, h.ow.ext e, fun x hx => ⟨(h.ws x hx).1.ext e, (h.ws x hx).2.ext e⟩, h.ex.trans e⟩
theorem LdI.push (h : LdI w0 w A n c Ls) {x : Ld} (hx : WysR w x.A x.ws.length x.c x.ws ∧ WysT w x.A x.c x.ws) (g : w.grownBy w' (blk A c)) {A' : Option Addr} {c' : Nat} (o : Own w' w0.heap.size 67 7 A' (n + 1) c' (Ls.flatMap ldC ++ ldC x)) : LdI w0 w' A' (n + 1) c' (Ls ++ [x]) := by
  have u : Upd (fun k => blk A c = some k) w w' := (Upd.refl _ w).grown g (fun k hk => .inl hk)
  have hS : ∀ k, blk A c = some k → ¬ Ty w k 47 ∧ ¬ Ty w k 45 := fun k hk => ⟨fun e => absurd ((h.ow.ty hk).ne e) (by decide), fun e => absurd ((h.ow.ty hk).ne e) (by decide)⟩
  refine ⟨by rw [h.ln, List.length_append]; rfl, by rw [List.flatMap_append, List.flatMap_singleton]; exact o, fun y hy => ?_, h.ex.grown g (fun k hk => (h.ow.lt k hk).1)⟩
  have key : WysR w y.A y.ws.length y.c y.ws ∧ WysT w y.A y.c y.ws := by
    rcases List.mem_append.1 hy with hy | hy
    · exact h.ws y hy
    · rw [List.mem_singleton.1 hy]; exact hx
  exact ⟨key.1.upd key.2 u hS, key.2.upd u hS⟩
end
/-- what is known, in whatever memory -/
structure KnR (w : World) (KA : Option Addr) (kn kc : Nat) (KS : List Kw) : Prop where
  ln : kn = KS.length
  sl : Sl w 4 KA kn kc (KS.flatMap knC)
  ty : ∀ k, blk KA kc = some k → Ty w k 118
  ws : ∀ x ∈ KS, WysR w x.A x.ws.length x.c x.ws ∧ WysT w x.A x.c x.ws
section
variable {w0 w w' : World} {A : Option Addr} {n c : Nat} {Ls : List Ld} {KA : Option Addr} {kn kc : Nat} {KS : List Kw}
theorem KnR.of {a : World} {gm : Gm} {fr : Pt} {st : Prop} (h : RaT a w gm fr st KA kn kc KS) : KnR w KA kn kc KS := ⟨h.ln, h.ks, h.ky, fun x hx => ⟨h.kl x hx, h.kt x hx⟩⟩
theorem KnR.ext (h : KnR w KA kn kc KS) (e : Ext w w') : KnR w' KA kn kc KS := ⟨h.ln, h.sl.ext e, fun k hk => (h.ty k hk).onE e, fun x hx => ⟨(h.ws x hx).1.ext e, (h.ws x hx).2.ext e⟩⟩
theorem KnR.upd {S : Nat → Prop} (h : KnR w KA kn kc KS) (u : Upd S w w') (hS : ∀ k, S k → Ty w k 67) : KnR w' KA kn kc KS := by
  have hS2 : ∀ k, S k → ¬ Ty w k 47 ∧ ¬ Ty w k 45 := fun k hk => ⟨fun e => absurd ((hS k hk).ne e) (by decide), fun e => absurd ((hS k hk).ne e) (by decide)⟩
  have hS3 : ∀ k, blk KA kc = some k → ¬ S k := fun k hk e => absurd ((hS k e).ne (h.ty k hk)) (by decide)
  exact ⟨h.ln, h.sl.upd u hS3, fun k hk => (h.ty k hk).updE u (hS3 k hk), fun x hx => ⟨(h.ws x hx).1.upd (h.ws x hx).2 u hS2, (h.ws x hx).2.upd u hS2⟩⟩
/-- under way, from one place -/
structure LdK (w0 wr : World) (A : Option Addr) (n c : Nat) (Ls : List Ld) (KA : Option Addr) (kn kc : Nat) (KS : List Kw) (fb : Nat) (pn : Int) (po : Bool) (pp : Int) : Prop where
  ld : LdI w0 wr A n c Ls
  kr : KnR wr KA kn kc KS
  bk : Bk wr fb 27 #[.int .i64 pn, .bool po, .int .i64 pp]
theorem LdK.ext {fb : Nat} {pn : Int} {po : Bool} {pp : Int} (h : LdK w0 w A n c Ls KA kn kc KS fb pn po pp) (e : Ext w w') : LdK w0 w' A n c Ls KA kn kc KS fb pn po pp := ⟨h.ld.ext e, h.kr.ext e, h.bk.ext e⟩
theorem LdK.push {fb : Nat} {pn : Int} {po : Bool} {pp : Int} (h : LdK w0 w A n c Ls KA kn kc KS fb pn po pp) {x : Ld} (hx : WysR w x.A x.ws.length x.c x.ws ∧ WysT w x.A x.c x.ws) (g : w.grownBy w' (blk A c)) {A' : Option Addr} {c' : Nat} (o : Own w' w0.heap.size 67 7 A' (n + 1) c' (Ls.flatMap ldC ++ ldC x)) : LdK w0 w' A' (n + 1) c' (Ls ++ [x]) KA kn kc KS fb pn po pp := by
  have u : Upd (fun k => blk A c = some k) w w' := (Upd.refl _ w).grown g (fun k hk => .inl hk)
  exact ⟨h.ld.push hx g o, h.kr.upd u (fun k hk => h.ld.ow.ty hk), h.bk.updB u (fun e => absurd ((h.ld.ow.ty e).ne h.bk.ty) (by decide))⟩
end
/-- what either All answers -/
structure LdOut (w w' : World) (g : Gm) (A : Option Addr) (n c : Nat) (Ls : List Ld) (e : Int) : Prop where
  ln : n = Ls.length
  sl : Sl w' 7 A n c (Ls.flatMap ldC)
  ws : ∀ x ∈ Ls, WysR w' x.A x.ws.length x.c x.ws
  is_ : AllIs g (Ls.map Ld.v) e
  ex : Ext w w'
end Go.Proofs.Yteklohamkmiphaa
