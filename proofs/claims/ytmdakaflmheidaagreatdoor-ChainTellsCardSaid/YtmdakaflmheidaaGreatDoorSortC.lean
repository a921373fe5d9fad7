/- slices.SortFunc at changes by their times: a permutation that rises. Conditions: the row lies in memory of its own; the times are as readings give them. -/
import Derived.Test.YtmdakaflmheidaaGreatDoorSortT
import Derived.Test.YtmdakaflmheidaaGreatDoorChg
namespace Go.Proofs.YtmdakaflmheidaaGreatDoor
open Go.RowKit

set_option maxRecDepth 100000 in
set_option maxHeartbeats 400000 in
theorem insC_nil (A : Option Addr) (c : Nat) (fv : Value) (w : World) : Calls Tryz.prog 98 #[.slice A 0 c, .int .i64 0, .int .i64 0, fv] w fun e w' => e = .returned (.tuple #[]) ∧ w = w' := by
  go_enter Tryz.func98, Tryz.ntmps98
  go_wp2
  refine wp_loop_rounds 1 ?_
  rw [rounds_succ]
  go_wp2
  go_end0
  exact ⟨rfl, rfl⟩
set_option maxRecDepth 100000 in
set_option maxHeartbeats 1000000 in
theorem pdqC_nil (A : Option Addr) (c : Nat) (z : Int) (fv : Value) (w : World) : Calls Tryz.prog 81 #[.slice A 0 c, .int .i64 0, .int .i64 0, .int .i64 z, fv] w fun e w' => e = .returned (.tuple #[]) ∧ w = w' := by
  go_enter Tryz.func81, Tryz.ntmps81
  go_wp2
  refine wp_loop_rounds 1 ?_
  rw [rounds_succ]
  go_wp2_with (go_at_call 98; refine (insC_nil _ _ _ _).mono ?_; rintro e w' ⟨rfl, rfl⟩)
  (try simp only [Exit.inBlock, Exit.then]); refine bodyPost_ret (results_none rfl _ _ _) rfl ?_
  exact ⟨rfl, rfl⟩
set_option maxRecDepth 100000 in
set_option maxHeartbeats 400000 in
theorem sortC_nil (A : Option Addr) (c : Nat) (fv : Value) (w : World) : Calls Tryz.prog 41 #[.slice A 0 c, fv] w fun e w' => e = .returned (.tuple #[]) ∧ w = w' := by
  go_enter Tryz.func41, Tryz.ntmps41
  go_wp2_with (first
    | (go_at_call 82; refine (bitsLen0 _).mono ?_; rintro e w' ⟨rfl, rfl⟩)
    | (go_at_call 81; refine (pdqC_nil _ _ _ _ _).mono ?_; rintro e w' ⟨rfl, rfl⟩))
  go_end0
  exact ⟨rfl, rfl⟩
set_option maxRecDepth 100000 in
set_option maxHeartbeats 600000 in
theorem upd2_grow (x y : Cg) (w : World) (h1 : Sl w 1 x.t.A x.t.l.length x.t.c (wds x.t.l)) (h2 : Sl w 1 y.t.A y.t.l.length y.t.c (wds y.t.l)) :
    Calls Tryz.prog 42 #[cgV x, cgV y] w fun e w' => e = .returned (.int .i64 (tcmp x.t.v y.t.v)) ∧ ∃ q os, w' = Go.Sort.grow (w.drewN q) os := by
  obtain ⟨⟨e1, A1, c1, l1⟩, d1⟩ := x
  obtain ⟨⟨e2, A2, c2, l2⟩, d2⟩ := y
  unfold cgV
  replace h1 := Lib.hid h1
  replace h2 := Lib.hid h2
  obtain ⟨n1, hn1⟩ : ∃ n1, l1.length = n1 := ⟨_, rfl⟩
  obtain ⟨n2, hn2⟩ : ∃ n2, l2.length = n2 := ⟨_, rfl⟩
  simp only [hn1, hn2] at h1 h2 ⊢
  clear hn1 hn2
  go_enter Tryz.func42, Tryz.ntmps42
  go_wp2_with (go_at_call 40; refine (cmp_grow e1 e2 A1 A2 n1 n2 c1 c2 l1 l2 _ (h1.out.ext (((Ext.refl w).alloc _).alloc _)) (h2.out.ext (((Ext.refl w).alloc _).alloc _))).mono ?_; rintro e w' ⟨rfl, q, os, rfl⟩)
  go_ret
  exact ⟨rfl, q, _, by rw [Go.Sort.alloc_eq_grow, Go.Sort.alloc_eq_grow, Go.Sort.grow_grow]; show Go.Sort.grow (Go.Sort.grow (w.drewN q) _) os = _; rw [Go.Sort.grow_grow]⟩
theorem enters_upd2 : ∀ args w, (callFunc 42 args).run Tryz.prog w = .ok (.enter 42 args) w := enters_of Tryz.func42 (by kernel_rfl) rfl
/-- what the sort leaves -/
def SortOutC (L : List Cg) (B : Nat) (A : Option Addr) (c m : Nat) (w : World) (e : Ending) (w' : World) : Prop :=
  e = .returned (.tuple #[]) ∧ ∃ L' : List Cg, L'.Perm L ∧ (L'.Pairwise fun x y => tcmp x.t.v y.t.v ≤ 0) ∧ Own w' B 29 3 A m c (cgsC L') ∧ Upd (fun k => B ≤ k) w w'
set_option maxRecDepth 100000 in
theorem sort_chgs (L : List Cg) (B g c m : Nat) (w0 w : World) (hm : m = L.length) (h0 : 0 < m) (o : Own w B 29 3 (some ⟨g, 0, none⟩) m c (cgsC L)) (ls : ∀ x ∈ L, Sl w0 1 x.t.A x.t.l.length x.t.c (wds x.t.l)) (x0 : Ext w0 w) (hb : w0.heap.size ≤ g) (h9 : m ≤ 1000000) (hBg : B ≤ g) :
    Calls Tryz.prog 41 #[.slice (some ⟨g, 0, none⟩) m c, .func (.func 42) #[] #[]] w (SortOutC L B (some ⟨g, 0, none⟩) c m w) := by
  haveI : Inhabited {x : Cg // x ∈ L} := ⟨⟨L.head (by intro e; subst e; simp at hm; omega), List.head_mem _⟩⟩
  obtain ⟨d, hd⟩ : ∃ d : Array {x : Cg // x ∈ L}, d = L.attach.toArray := ⟨_, rfl⟩
  have ds : d.size = m := by rw [hd, hm]; simp
  have hflat : (d.toList.flatMap fun x => cgC x.1) = cgsC L := by rw [hd]; exact attach_flat L cgC
  have hk : ∀ x : {x : Cg // x ∈ L}, (cgC x.1).length = 3 := fun _ => rfl
  have o' : Own w B 29 3 (some ⟨g, 0, none⟩) d.size c (d.toList.flatMap fun x => cgC x.1) := by rw [hflat, ds]; exact o
  have hcmp : CmpLays Tryz.prog 42 #[] (fun x : {x : Cg // x ∈ L} => cgC x.1) 3 (fun x y => tcmp x.1.t.v y.1.t.v) g 0 d.size w := fun q os dk hdk x y => by
    have u := (sorted_own (fun x : {x : Cg // x ∈ L} => cgC x.1) 3 hk (by decide) (n := q) (os := os) o' (by omega) hdk).2
    have e : Ext w0 (sortWorldK (fun x : {x : Cg // x ∈ L} => cgC x.1) 3 w g 0 q dk os) := ext_upd x0 u (fun k hk => by omega)
    exact upd2_grow x.1 y.1 _ ((ls _ x.2).ext e) ((ls _ y.2).ext e)
  have hcon := AnyQ.slices_SortFunc Tryz.sortChanges 3 Tryz.isAgg29 Tryz.sizeOf29 (fun x : {x : Cg // x ∈ L} => cgC x.1) hk (fun x v hv => by simp [cgC] at hv; rcases hv with rfl | rfl | rfl <;> rfl) (fun x y => tcmp x.1.t.v y.1.t.v) (swo_by fun x : {x : Cg // x ∈ L} => x.1.t.v) 42 #[] g 0 c d w enters_upd2 hcmp
    (own_holds _ 3 hk (by decide) o' (by omega)) (by have := (o.lt g (by unfold blk; obtain ⟨_, h2⟩ := o.le; cases c with | zero => have := o.le.1; omega | succ c => rfl)).2; exact this) (by omega)
  change Calls Tryz.prog 41 _ _ _ at hcon
  rw [ds] at hcon
  refine hcon.mono ?_
  rintro e w' ⟨rfl, d', n, os, hp, hs, rfl⟩
  rw [← ds] at hp hs
  obtain ⟨h1, h2, h3⟩ := sorted_list hp hs
  have q := sorted_own (fun x : {x : Cg // x ∈ L} => cgC x.1) 3 hk (by decide) (n := n) (os := os) o' (by omega) h1
  refine ⟨rfl, d'.toList.map Subtype.val, ?_, ?_, ?_, q.2.mono (fun k _ hk => by omega)⟩
  · have := h2.map Subtype.val
    rw [hd, List.attach_map_subtype_val] at this
    exact this
  · rw [List.pairwise_map]
    refine h3.imp fun {x y} h => ?_
    replace h : decide (tcmp y.1.t.v x.1.t.v < 0) = false := h
    rw [decide_eq_false_iff_not] at h
    have := tcmp_neg x.1.t.v y.1.t.v
    omega
  · have := q.1
    rw [ds] at this
    unfold cgsC
    rw [List.flatMap_map]
    exact this
theorem sortC_any (L : List Cg) (B : Nat) (A : Option Addr) (c m : Nat) (w0 w : World) (hm : Hid (m = L.length)) (o : Hid (Own w B 29 3 A m c (cgsC L))) (ls : Hid (∀ x ∈ L, Sl w0 1 x.t.A x.t.l.length x.t.c (wds x.t.l))) (x0 : Hid (Ext w0 w)) (hb : Hid (w0.heap.size ≤ B)) (h9 : m ≤ 1000000) :
    Calls Tryz.prog 41 #[.slice A m c, .func (.func 42) #[] #[]] w (SortOutC L B A c m w) := by
  rcases Nat.eq_zero_or_pos m with h | h
  · subst h
    have hl : L = [] := List.eq_nil_of_length_eq_zero hm.out.symm
    subst hl
    refine (sortC_nil A c _ w).mono ?_
    rintro e w' ⟨rfl, rfl⟩
    exact ⟨rfl, [], List.Perm.nil, List.Pairwise.nil, o.out, Upd.refl _ _⟩
  · obtain ⟨g, rfl, hg, hB, _⟩ := o.out.form h
    exact sort_chgs L B g c m w0 w hm.out h o.out ls.out x0.out (Nat.le_trans hb.out hB) h9 hB
end Go.Proofs.YtmdakaflmheidaaGreatDoor
