/- slices.SortFunc at times by stamp.Cmp: a permutation that rises. Conditions: the row lies in memory of its own; the times are as readings give them. -/
import Derived.Test.YtmdakaflmheidaaGreatDoorSortGen
import Derived.Test.YtmdakaflmheidaaGreatDoorCmpG
import Derived.Test.YtmdakaflmheidaaGreatDoorTms
import Derived.Test.YtmdakaflmheidaaGreatDoorChShelf
namespace Go.Proofs.YtmdakaflmheidaaGreatDoor
open Go.RowKit

theorem bitsLen0 (w : World) : Calls Tryz.prog 82 #[.int .u64 0] w fun e w' => e = .returned (.int .i64 0) ∧ w = w' := by
  have h := Any.bits_Len (SlLaysF0.n15.bits (P := Tryz.prog) (ρ := Tryz.sortTimes_ren) { Tryz.sortTimes with }) 0 w (by omega) (by omega)
  change Calls Tryz.prog 82 _ _ _ at h
  exact h.mono fun _ _ ⟨he, hw⟩ => ⟨he, hw.symm⟩
set_option maxRecDepth 100000 in
set_option maxHeartbeats 400000 in
theorem insT_nil (A : Option Addr) (c : Nat) (fv : Value) (w : World) : Calls Tryz.prog 108 #[.slice A 0 c, .int .i64 0, .int .i64 0, fv] w fun e w' => e = .returned (.tuple #[]) ∧ w = w' := by
  go_enter Tryz.func108, Tryz.ntmps108
  go_wp2
  refine wp_loop_rounds 1 ?_
  rw [rounds_succ]
  go_wp2
  go_end0
  exact ⟨rfl, rfl⟩
set_option maxRecDepth 100000 in
set_option maxHeartbeats 1000000 in
theorem pdqT_nil (A : Option Addr) (c : Nat) (z : Int) (fv : Value) (w : World) : Calls Tryz.prog 86 #[.slice A 0 c, .int .i64 0, .int .i64 0, .int .i64 z, fv] w fun e w' => e = .returned (.tuple #[]) ∧ w = w' := by
  go_enter Tryz.func86, Tryz.ntmps86
  go_wp2
  refine wp_loop_rounds 1 ?_
  rw [rounds_succ]
  go_wp2_with (go_at_call 108; refine (insT_nil _ _ _ _).mono ?_; rintro e w' ⟨rfl, rfl⟩)
  (try simp only [Exit.inBlock, Exit.then]); refine bodyPost_ret (results_none rfl _ _ _) rfl ?_
  exact ⟨rfl, rfl⟩
set_option maxRecDepth 100000 in
set_option maxHeartbeats 400000 in
theorem sortT_nil (A : Option Addr) (c : Nat) (fv : Value) (w : World) : Calls Tryz.prog 61 #[.slice A 0 c, fv] w fun e w' => e = .returned (.tuple #[]) ∧ w = w' := by
  go_enter Tryz.func61, Tryz.ntmps61
  go_wp2_with (first
    | (go_at_call 82; refine (bitsLen0 _).mono ?_; rintro e w' ⟨rfl, rfl⟩)
    | (go_at_call 86; refine (pdqT_nil _ _ _ _ _).mono ?_; rintro e w' ⟨rfl, rfl⟩))
  go_end0
  exact ⟨rfl, rfl⟩
theorem enters_cmp : ∀ args w, (callFunc 40 args).run Tryz.prog w = .ok (.enter 40 args) w := enters_of Tryz.func40 (by kernel_rfl) rfl
theorem swo_by {α : Type} (v : α → TV) : Go.Sort.SWO (ltOf fun x y : α => tcmp (v x) (v y)) where
  irrefl x := by show decide (tcmp (v x) (v x) < 0) = false; rw [tcmp_zero.2 rfl]; rfl
  trans x y z h1 h2 := by
    replace h1 : decide (tcmp (v x) (v y) < 0) = true := h1
    replace h2 : decide (tcmp (v y) (v z) < 0) = true := h2
    show decide (tcmp (v x) (v z) < 0) = true
    rw [decide_eq_true_iff] at *
    exact tcmp_lt_trans h1 (by omega)
  ntrans x y z h1 h2 := by
    replace h1 : decide (tcmp (v x) (v y) < 0) = false := h1
    replace h2 : decide (tcmp (v y) (v z) < 0) = false := h2
    show decide (tcmp (v x) (v z) < 0) = false
    rw [decide_eq_false_iff_not] at *
    have a := tcmp_neg (v x) (v y)
    have b := tcmp_neg (v y) (v z)
    have c := tcmp_neg (v x) (v z)
    have d := tcmp_trans (v z) (v y) (v x) (by omega) (by omega)
    omega
theorem attach_flat {α β : Type} (L : List α) (f : α → List β) : (L.attach.flatMap fun x => f x.1) = L.flatMap f := by
  have h : L.attach.flatMap (fun x => f x.1) = (L.attach.map Subtype.val).flatMap f := by rw [List.flatMap_map]
  rw [h, List.attach_map_subtype_val]
/-- what the sort leaves -/
def SortOut (L : List Tm) (B g c m : Nat) (w : World) (e : Ending) (w' : World) : Prop :=
  e = .returned (.tuple #[]) ∧ ∃ L' : List Tm, L'.Perm L ∧ (L'.Pairwise fun x y => tcmp x.v y.v ≤ 0) ∧ Own w' B 26 2 (some ⟨g, 0, none⟩) m c (tmsC L') ∧ Upd (fun k => k = g) w w'
set_option maxRecDepth 100000 in
theorem sort_times (L : List Tm) (B g c m : Nat) (w0 w : World) (hm : m = L.length) (h0 : 0 < m) (o : Own w B 26 2 (some ⟨g, 0, none⟩) m c (tmsC L)) (ls : ∀ x ∈ L, Sl w0 1 x.A x.l.length x.c (wds x.l)) (x0 : Ext w0 w) (hb : w0.heap.size ≤ g) (h9 : m ≤ 1000000) :
    Calls Tryz.prog 61 #[.slice (some ⟨g, 0, none⟩) m c, .func (.func 40) #[] #[]] w (SortOut L B g c m w) := by
  haveI : Inhabited {x : Tm // x ∈ L} := ⟨⟨L.head (by intro e; subst e; simp at hm; omega), List.head_mem _⟩⟩
  obtain ⟨d, hd⟩ : ∃ d : Array {x : Tm // x ∈ L}, d = L.attach.toArray := ⟨_, rfl⟩
  have ds : d.size = m := by rw [hd, hm]; simp
  have hflat : (d.toList.flatMap fun x => tmC x.1) = tmsC L := by rw [hd]; exact attach_flat L tmC
  have hk : ∀ x : {x : Tm // x ∈ L}, (tmC x.1).length = 2 := fun _ => rfl
  have o' : Own w B 26 2 (some ⟨g, 0, none⟩) d.size c (d.toList.flatMap fun x => tmC x.1) := by rw [hflat, ds]; exact o
  have hcmp : CmpLays Tryz.prog 40 #[] (fun x : {x : Tm // x ∈ L} => tmC x.1) 2 (fun x y => tcmp x.1.v y.1.v) g 0 d.size w := fun q os dk hdk x y => by
    have u := (sorted_own (fun x : {x : Tm // x ∈ L} => tmC x.1) 2 hk (by decide) (n := q) (os := os) o' (by omega) hdk).2
    have e : Ext w0 (sortWorldK (fun x : {x : Tm // x ∈ L} => tmC x.1) 2 w g 0 q dk os) := ext_upd x0 u (fun k hk => by omega)
    exact cmp_grow x.1.e y.1.e x.1.A y.1.A x.1.l.length y.1.l.length x.1.c y.1.c x.1.l y.1.l _ ((ls _ x.2).ext e) ((ls _ y.2).ext e)
  have hcon := AnyQ.slices_SortFunc Tryz.sortTimes 2 Tryz.isAgg26 Tryz.sizeOf26 (fun x : {x : Tm // x ∈ L} => tmC x.1) hk (fun x v hv => by simp [tmC] at hv; rcases hv with rfl | rfl <;> rfl) (fun x y => tcmp x.1.v y.1.v) (swo_by fun x : {x : Tm // x ∈ L} => x.1.v) 40 #[] g 0 c d w enters_cmp hcmp
    (own_holds _ 2 hk (by decide) o' (by omega)) (by have := (o.lt g (by unfold blk; obtain ⟨_, h2⟩ := o.le; cases c with | zero => have := o.le.1; omega | succ c => rfl)).2; exact this) (by omega)
  change Calls Tryz.prog 61 _ _ _ at hcon
  rw [ds] at hcon
  refine hcon.mono ?_
  rintro e w' ⟨rfl, d', n, os, hp, hs, rfl⟩
  rw [← ds] at hp hs
  obtain ⟨h1, h2, h3⟩ := sorted_list hp hs
  have q := sorted_own (fun x : {x : Tm // x ∈ L} => tmC x.1) 2 hk (by decide) (n := n) (os := os) o' (by omega) h1
  refine ⟨rfl, d'.toList.map Subtype.val, ?_, ?_, ?_, q.2⟩
  · have := h2.map Subtype.val
    rw [hd, List.attach_map_subtype_val] at this
    exact this
  · rw [List.pairwise_map]
    refine h3.imp fun {x y} h => ?_
    replace h : decide (tcmp y.1.v x.1.v < 0) = false := h
    rw [decide_eq_false_iff_not] at h
    have := tcmp_neg x.1.v y.1.v
    omega
  · have := q.1
    rw [ds] at this
    unfold tmsC
    rw [List.flatMap_map]
    exact this
end Go.Proofs.YtmdakaflmheidaaGreatDoor
