/- Contracts of library functions at this seat, laid by a tool of the kit. slices.SortFunc at times by stamp.Cmp: a permutation that rises. chain.Of: the antichain of any times, in memory of its own. (*chain.Counts).Frontier: the antichain of all times whose count is above 0. (*chain.Counts).Update's inner function: it tells the times of one list that another one lacks. The map of counts, changed at one time. slices.SortFunc at changes by their times: a permutation that rises. (*chain.Counts).Update: counts change; how the frontier does. (*chain.Counts).Count: a time's count; chain.New. The document's way to change counts. Plain. The document's counts, changed one by one; how a frontier moves, told one by one. Plain. penstockref04.Leq, Cmp: what they answer. penstockref04.Cmp: what it answers. Conditions: each theorem states its own. -/
import Derived.Shelf.SlGeneric
import Derived.Shelf.SlSortCmp.WholeK
import Derived.Ground.SlsfProg
import Derived.Test.YtdgbkpoickbidaaGreatDoorProg
import Derived.Test.YtdgbkpoickbidaaGreatDoorCc3
import Derived.Test.YtdgbkpoickbidaaGreatDoorCc2
import Derived.Deep.LoopGhost
import Derived.Test.YtdgbkpoickbidaaGreatDoorCc1
namespace Go.Proofs
open Go.Shelf
def Tryz.sortTimes_ren : Go.Shelf.Ren := ⟨fun | 6 => 200 | 15 => 209 | 14 => 230 | 28 => 246 | 29 => 247 | 20 => 258 | 21 => 259 | 22 => 260 | 23 => 261 | 24 => 262 | 25 => 263 | 26 => 264 | 27 => 265 | 46 => 285 | 47 => 274 | 48 => 275 | 49 => 286 | 50 => 287 | 57 => 296 | n => n, fun | 22 => 27 | 24 => 26 | 25 => 184 | 3 => 3 | 39 => 267 | 0 => 0 | 53 => 180 | 55 => 23 | 4 => 4 | 46 => 300 | 45 => 299 | 50 => 200 | 5 => 5 | 9 => 9 | 66 => 326 | 70 => 329 | 76 => 347 | 77 => 348 | n => n, fun | n => n⟩
theorem Tryz.sortTimes : Go.Proofs.SlLaysF0.n6 Tryz.prog Tryz.sortTimes_ren := {
  mixed := by kernel_rfl
  f6 := ⟨Tryz.f200.name, by decide, Tryz.func200.trans (congrArg some (by kernel_rfl))⟩
  f14 := ⟨Tryz.f230.name, by decide, Tryz.func230.trans (congrArg some (by kernel_rfl))⟩
  f15 := Tryz.func209.trans (congrArg some (by kernel_rfl))
  f20 := ⟨Tryz.f258.name, by decide, Tryz.func258.trans (congrArg some (by kernel_rfl))⟩
  f21 := ⟨Tryz.f259.name, by decide, Tryz.func259.trans (congrArg some (by kernel_rfl))⟩
  f22 := ⟨Tryz.f260.name, by decide, Tryz.func260.trans (congrArg some (by kernel_rfl))⟩
  f23 := ⟨Tryz.f261.name, by decide, Tryz.func261.trans (congrArg some (by kernel_rfl))⟩
  f24 := ⟨Tryz.f262.name, by decide, Tryz.func262.trans (congrArg some (by kernel_rfl))⟩
  f25 := ⟨Tryz.f263.name, by decide, Tryz.func263.trans (congrArg some (by kernel_rfl))⟩
  f26 := ⟨Tryz.f264.name, by decide, Tryz.func264.trans (congrArg some (by kernel_rfl))⟩
  f27 := ⟨Tryz.f265.name, by decide, Tryz.func265.trans (congrArg some (by kernel_rfl))⟩
  f28 := Tryz.func246.trans (congrArg some (by kernel_rfl))
  f29 := Tryz.func247.trans (congrArg some (by kernel_rfl))
  f46 := ⟨Tryz.f285.name, by decide, Tryz.func285.trans (congrArg some (by kernel_rfl))⟩
  f47 := Tryz.func274.trans (congrArg some (by kernel_rfl))
  f48 := Tryz.func275.trans (congrArg some (by kernel_rfl))
  f49 := ⟨Tryz.f286.name, by decide, Tryz.func286.trans (congrArg some (by kernel_rfl))⟩
  f50 := ⟨Tryz.f287.name, by decide, Tryz.func287.trans (congrArg some (by kernel_rfl))⟩
  f57 := ⟨Tryz.f296.name, by decide, Tryz.func296.trans (congrArg some (by kernel_rfl))⟩
  t0 := Tryz.underlying0
  a0 := Tryz.isAgg0
  z0 := Tryz.sizeOf0
  v0 := Tryz.zeroValue0
  t3 := Tryz.underlying3
  a3 := Tryz.isAgg3
  z3 := Tryz.sizeOf3
  v3 := Tryz.zeroValue3
  t4 := Tryz.underlying4
  a4 := Tryz.isAgg4
  z4 := Tryz.sizeOf4
  v4 := Tryz.zeroValue4
  t5 := Tryz.underlying5
  a5 := Tryz.isAgg5
  z5 := Tryz.sizeOf5
  v5 := Tryz.zeroValue5
  t9 := Tryz.underlying9
  a9 := Tryz.isAgg9
  z9 := Tryz.sizeOf9
  v9 := Tryz.zeroValue9
  t22 := Tryz.underlying27
  a22 := Tryz.isAgg27
  z22 := Tryz.sizeOf27
  v22 := Tryz.zeroValue27
  t25 := Tryz.underlying184
  a25 := Tryz.isAgg184
  z25 := Tryz.sizeOf184
  v25 := Tryz.zeroValue184
  t39 := Tryz.underlying267
  a39 := Tryz.isAgg267
  z39 := Tryz.sizeOf267
  v39 := Tryz.zeroValue267
  t45 := Tryz.underlying299
  a45 := Tryz.isAgg299
  z45 := Tryz.sizeOf299
  v45 := Tryz.zeroValue299
  t46 := Tryz.underlying300
  a46 := Tryz.isAgg300
  z46 := Tryz.sizeOf300
  v46 := Tryz.zeroValue300
  t50 := Tryz.underlying200
  a50 := Tryz.isAgg200
  z50 := Tryz.sizeOf200
  v50 := Tryz.zeroValue200
  t53 := Tryz.underlying180
  a53 := Tryz.isAgg180
  z53 := Tryz.sizeOf180
  v53 := Tryz.zeroValue180
  t55 := Tryz.underlying23
  a55 := Tryz.isAgg23
  z55 := Tryz.sizeOf23
  v55 := Tryz.zeroValue23
  t66 := Tryz.underlying326
  a66 := Tryz.isAgg326
  z66 := Tryz.sizeOf326
  v66 := Tryz.zeroValue326
  t70 := Tryz.underlying329
  a70 := Tryz.isAgg329
  z70 := Tryz.sizeOf329
  v70 := Tryz.zeroValue329
  t76 := Tryz.underlying347
  a76 := Tryz.isAgg347
  z76 := Tryz.sizeOf347
  v76 := Tryz.zeroValue347
  t77 := Tryz.underlying348
  a77 := Tryz.isAgg348
  z77 := Tryz.sizeOf348
  v77 := Tryz.zeroValue348 }
def Tryz.sortChanges_ren : Go.Shelf.Ren := ⟨fun | 6 => 147 | 15 => 209 | 14 => 208 | 28 => 246 | 29 => 247 | 20 => 238 | 21 => 239 | 22 => 240 | 23 => 241 | 24 => 242 | 25 => 243 | 26 => 244 | 27 => 245 | 46 => 273 | 47 => 274 | 48 => 275 | 49 => 276 | 50 => 277 | 57 => 294 | n => n, fun | 22 => 58 | 24 => 60 | 25 => 188 | 3 => 3 | 39 => 267 | 0 => 0 | 53 => 180 | 55 => 23 | 4 => 4 | 46 => 300 | 45 => 299 | 50 => 200 | 5 => 5 | 9 => 9 | 66 => 326 | 70 => 329 | 76 => 347 | 77 => 348 | n => n, fun | n => n⟩
theorem Tryz.sortChanges : Go.Proofs.SlLaysF0.n6 Tryz.prog Tryz.sortChanges_ren := {
  mixed := by kernel_rfl
  f6 := ⟨Tryz.f147.name, by decide, Tryz.func147.trans (congrArg some (by kernel_rfl))⟩
  f14 := ⟨Tryz.f208.name, by decide, Tryz.func208.trans (congrArg some (by kernel_rfl))⟩
  f15 := Tryz.func209.trans (congrArg some (by kernel_rfl))
  f20 := ⟨Tryz.f238.name, by decide, Tryz.func238.trans (congrArg some (by kernel_rfl))⟩
  f21 := ⟨Tryz.f239.name, by decide, Tryz.func239.trans (congrArg some (by kernel_rfl))⟩
  f22 := ⟨Tryz.f240.name, by decide, Tryz.func240.trans (congrArg some (by kernel_rfl))⟩
  f23 := ⟨Tryz.f241.name, by decide, Tryz.func241.trans (congrArg some (by kernel_rfl))⟩
  f24 := ⟨Tryz.f242.name, by decide, Tryz.func242.trans (congrArg some (by kernel_rfl))⟩
  f25 := ⟨Tryz.f243.name, by decide, Tryz.func243.trans (congrArg some (by kernel_rfl))⟩
  f26 := ⟨Tryz.f244.name, by decide, Tryz.func244.trans (congrArg some (by kernel_rfl))⟩
  f27 := ⟨Tryz.f245.name, by decide, Tryz.func245.trans (congrArg some (by kernel_rfl))⟩
  f28 := Tryz.func246.trans (congrArg some (by kernel_rfl))
  f29 := Tryz.func247.trans (congrArg some (by kernel_rfl))
  f46 := ⟨Tryz.f273.name, by decide, Tryz.func273.trans (congrArg some (by kernel_rfl))⟩
  f47 := Tryz.func274.trans (congrArg some (by kernel_rfl))
  f48 := Tryz.func275.trans (congrArg some (by kernel_rfl))
  f49 := ⟨Tryz.f276.name, by decide, Tryz.func276.trans (congrArg some (by kernel_rfl))⟩
  f50 := ⟨Tryz.f277.name, by decide, Tryz.func277.trans (congrArg some (by kernel_rfl))⟩
  f57 := ⟨Tryz.f294.name, by decide, Tryz.func294.trans (congrArg some (by kernel_rfl))⟩
  t0 := Tryz.underlying0
  a0 := Tryz.isAgg0
  z0 := Tryz.sizeOf0
  v0 := Tryz.zeroValue0
  t3 := Tryz.underlying3
  a3 := Tryz.isAgg3
  z3 := Tryz.sizeOf3
  v3 := Tryz.zeroValue3
  t4 := Tryz.underlying4
  a4 := Tryz.isAgg4
  z4 := Tryz.sizeOf4
  v4 := Tryz.zeroValue4
  t5 := Tryz.underlying5
  a5 := Tryz.isAgg5
  z5 := Tryz.sizeOf5
  v5 := Tryz.zeroValue5
  t9 := Tryz.underlying9
  a9 := Tryz.isAgg9
  z9 := Tryz.sizeOf9
  v9 := Tryz.zeroValue9
  t22 := Tryz.underlying58
  a22 := Tryz.isAgg58
  z22 := Tryz.sizeOf58
  v22 := Tryz.zeroValue58
  t25 := Tryz.underlying188
  a25 := Tryz.isAgg188
  z25 := Tryz.sizeOf188
  v25 := Tryz.zeroValue188
  t39 := Tryz.underlying267
  a39 := Tryz.isAgg267
  z39 := Tryz.sizeOf267
  v39 := Tryz.zeroValue267
  t45 := Tryz.underlying299
  a45 := Tryz.isAgg299
  z45 := Tryz.sizeOf299
  v45 := Tryz.zeroValue299
  t46 := Tryz.underlying300
  a46 := Tryz.isAgg300
  z46 := Tryz.sizeOf300
  v46 := Tryz.zeroValue300
  t50 := Tryz.underlying200
  a50 := Tryz.isAgg200
  z50 := Tryz.sizeOf200
  v50 := Tryz.zeroValue200
  t53 := Tryz.underlying180
  a53 := Tryz.isAgg180
  z53 := Tryz.sizeOf180
  v53 := Tryz.zeroValue180
  t55 := Tryz.underlying23
  a55 := Tryz.isAgg23
  z55 := Tryz.sizeOf23
  v55 := Tryz.zeroValue23
  t66 := Tryz.underlying326
  a66 := Tryz.isAgg326
  z66 := Tryz.sizeOf326
  v66 := Tryz.zeroValue326
  t70 := Tryz.underlying329
  a70 := Tryz.isAgg329
  z70 := Tryz.sizeOf329
  v70 := Tryz.zeroValue329
  t76 := Tryz.underlying347
  a76 := Tryz.isAgg347
  z76 := Tryz.sizeOf347
  v76 := Tryz.zeroValue347
  t77 := Tryz.underlying348
  a77 := Tryz.isAgg348
  z77 := Tryz.sizeOf348
  v77 := Tryz.zeroValue348 }
end Go.Proofs
namespace Go.Proofs.YtdgbkpoickbidaaGreatDoor
open Go.RowKit

theorem bitsLen0 (w : World) : Calls Tryz.prog 209 #[.int .u64 0] w fun e w' => e = .returned (.int .i64 0) ∧ w = w' := by
  have h := Any.bits_Len (SlLaysF0.n15.bits (P := Tryz.prog) (ρ := Tryz.sortTimes_ren) { Tryz.sortTimes with }) 0 w (by omega) (by omega)
  change Calls Tryz.prog 209 _ _ _ at h
  exact h.mono fun _ _ ⟨he, hw⟩ => ⟨he, hw.symm⟩
set_option maxRecDepth 100000 in
set_option maxHeartbeats 400000 in
theorem insT_nil (A : Option Addr) (c : Nat) (fv : Value) (w : World) : Calls Tryz.prog 258 #[.slice A 0 c, .int .i64 0, .int .i64 0, fv] w fun e w' => e = .returned (.tuple #[]) ∧ w = w' := by
  go_enter Tryz.func258, Tryz.ntmps258
  go_wp2
  refine wp_loop_rounds 1 ?_
  rw [rounds_succ]
  go_wp2
  go_end0
  exact ⟨rfl, rfl⟩
set_option maxRecDepth 100000 in
set_option maxHeartbeats 1000000 in
theorem pdqT_nil (A : Option Addr) (c : Nat) (z : Int) (fv : Value) (w : World) : Calls Tryz.prog 230 #[.slice A 0 c, .int .i64 0, .int .i64 0, .int .i64 z, fv] w fun e w' => e = .returned (.tuple #[]) ∧ w = w' := by
  go_enter Tryz.func230, Tryz.ntmps230
  go_wp2
  refine wp_loop_rounds 1 ?_
  rw [rounds_succ]
  go_wp2_with (go_at_call 258; refine (insT_nil _ _ _ _).mono ?_; rintro e w' ⟨rfl, rfl⟩)
  (try simp only [Exit.inBlock, Exit.then]); refine bodyPost_ret (results_none rfl _ _ _) rfl ?_
  exact ⟨rfl, rfl⟩
set_option maxRecDepth 100000 in
set_option maxHeartbeats 400000 in
theorem sortT_nil (A : Option Addr) (c : Nat) (fv : Value) (w : World) : Calls Tryz.prog 200 #[.slice A 0 c, fv] w fun e w' => e = .returned (.tuple #[]) ∧ w = w' := by
  go_enter Tryz.func200, Tryz.ntmps200
  go_wp2_with (first
    | (go_at_call 209; refine (bitsLen0 _).mono ?_; rintro e w' ⟨rfl, rfl⟩)
    | (go_at_call 230; refine (pdqT_nil _ _ _ _ _).mono ?_; rintro e w' ⟨rfl, rfl⟩))
  go_end0
  exact ⟨rfl, rfl⟩
theorem enters_cmp : ∀ args w, (callFunc 146 args).run Tryz.prog w = .ok (.enter 146 args) w := enters_of Tryz.func146 (by kernel_rfl) rfl
theorem swo_by {α : Type} (v : α → TV) : Go.Sort.SWO (ltOf fun x y : α => tcmp (v x) (v y)) where
  irrefl x := by show decide (tcmp (v x) (v x) < 0) = false; rw [tcmp_zero.2 rfl]; rfl
  trans x y z h1 h2 := by
    replace h1 : decide (tcmp (v x) (v y) < 0) = true := h1
    replace h2 : decide (tcmp (v y) (v z) < 0) = true := h2
    show decide (tcmp (v x) (v z) < 0) = true
    rw [decide_eq_true_iff] at *
    exact tcmp_lt_trans h1 (by omega)
  ntrans x y z h1 h2 := by
    replace h1 : decide (tcmp (v x) (v y) < 0) = false := h1
    replace h2 : decide (tcmp (v y) (v z) < 0) = false := h2
    show decide (tcmp (v x) (v z) < 0) = false
    rw [decide_eq_false_iff_not] at *
    have a := tcmp_neg (v x) (v y)
    have b := tcmp_neg (v y) (v z)
    have c := tcmp_neg (v x) (v z)
    have d := tcmp_trans (v z) (v y) (v x) (by omega) (by omega)
    omega
theorem attach_flat {α β : Type} (L : List α) (f : α → List β) : (L.attach.flatMap fun x => f x.1) = L.flatMap f := by
  have h : L.attach.flatMap (fun x => f x.1) = (L.attach.map Subtype.val).flatMap f := by rw [List.flatMap_map]
  rw [h, List.attach_map_subtype_val]
/-- what the sort leaves -/
def SortOut (L : List Tm) (B g c m : Nat) (w : World) (e : Ending) (w' : World) : Prop :=
  e = .returned (.tuple #[]) ∧ ∃ L' : List Tm, L'.Perm L ∧ (L'.Pairwise fun x y => tcmp x.v y.v ≤ 0) ∧ Own w' B 26 2 (some ⟨g, 0, none⟩) m c (tmsC L') ∧ Upd (fun k => k = g) w w'
set_option maxRecDepth 100000 in
theorem sort_times (L : List Tm) (B g c m : Nat) (w0 w : World) (hm : m = L.length) (h0 : 0 < m) (o : Own w B 26 2 (some ⟨g, 0, none⟩) m c (tmsC L)) (ls : ∀ x ∈ L, Sl w0 1 x.A x.l.length x.c (wds x.l)) (x0 : Ext w0 w) (hb : w0.heap.size ≤ g) (h9 : m ≤ 1000000) :
    Calls Tryz.prog 200 #[.slice (some ⟨g, 0, none⟩) m c, .func (.func 146) #[] #[]] w (SortOut L B g c m w) := by
  haveI : Inhabited {x : Tm // x ∈ L} := ⟨⟨L.head (by intro e; subst e; simp at hm; omega), List.head_mem _⟩⟩
  obtain ⟨d, hd⟩ : ∃ d : Array {x : Tm // x ∈ L}, d = L.attach.toArray := ⟨_, rfl⟩
  have ds : d.size = m := by rw [hd, hm]; simp
  have hflat : (d.toList.flatMap fun x => tmC x.1) = tmsC L := by rw [hd]; exact attach_flat L tmC
  have hk : ∀ x : {x : Tm // x ∈ L}, (tmC x.1).length = 2 := fun _ => rfl
  have o' : Own w B 26 2 (some ⟨g, 0, none⟩) d.size c (d.toList.flatMap fun x => tmC x.1) := by rw [hflat, ds]; exact o
  have hcmp : CmpLays Tryz.prog 146 #[] (fun x : {x : Tm // x ∈ L} => tmC x.1) 2 (fun x y => tcmp x.1.v y.1.v) g 0 d.size w := fun q os dk hdk x y => by
    have u := (sorted_own (fun x : {x : Tm // x ∈ L} => tmC x.1) 2 hk (by decide) (n := q) (os := os) o' (by omega) hdk).2
    have e : Ext w0 (sortWorldK (fun x : {x : Tm // x ∈ L} => tmC x.1) 2 w g 0 q dk os) := ext_upd x0 u (fun k hk => by omega)
    exact cmp_grow x.1.e y.1.e x.1.A y.1.A x.1.l.length y.1.l.length x.1.c y.1.c x.1.l y.1.l _ ((ls _ x.2).ext e) ((ls _ y.2).ext e)
  have hcon := AnyQ.slices_SortFunc Tryz.sortTimes 2 Tryz.isAgg26 Tryz.sizeOf26 (fun x : {x : Tm // x ∈ L} => tmC x.1) hk (fun x v hv => by simp [tmC] at hv; rcases hv with rfl | rfl <;> rfl) (fun x y => tcmp x.1.v y.1.v) (swo_by fun x : {x : Tm // x ∈ L} => x.1.v) 146 #[] g 0 c d w enters_cmp hcmp
    (own_holds _ 2 hk (by decide) o' (by omega)) (by have := (o.lt g (by unfold blk; obtain ⟨_, h2⟩ := o.le; cases c with | zero => have := o.le.1; omega | succ c => rfl)).2; exact this) (by omega)
  change Calls Tryz.prog 200 _ _ _ at hcon
  rw [ds] at hcon
  refine hcon.mono ?_
  rintro e w' ⟨rfl, d', n, os, hp, hs, rfl⟩
  rw [← ds] at hp hs
  obtain ⟨h1, h2, h3⟩ := sorted_list hp hs
  have q := sorted_own (fun x : {x : Tm // x ∈ L} => tmC x.1) 2 hk (by decide) (n := n) (os := os) o' (by omega) h1
  refine ⟨rfl, d'.toList.map Subtype.val, ?_, ?_, ?_, q.2⟩
  · have := h2.map Subtype.val
    rw [hd, List.attach_map_subtype_val] at this
    exact this
  · rw [List.pairwise_map]
    refine h3.imp fun {x y} h => ?_
    replace h : decide (tcmp y.1.v x.1.v < 0) = false := h
    rw [decide_eq_false_iff_not] at h
    have := tcmp_neg x.1.v y.1.v
    omega
  · have := q.1
    rw [ds] at this
    unfold tmsC
    rw [List.flatMap_map]
    exact this
end Go.Proofs.YtdgbkpoickbidaaGreatDoor
namespace Go.Proofs.YtdgbkpoickbidaaGreatDoor
open Go.RowKit

/-- what the sort leaves, of any list -/
def SortAny (L : List Tm) (B : Nat) (A : Option Addr) (c m : Nat) (w : World) (e : Ending) (w' : World) : Prop :=
  e = .returned (.tuple #[]) ∧ ∃ L' : List Tm, L'.Perm L ∧ (L'.Pairwise fun x y => tcmp x.v y.v ≤ 0) ∧ Own w' B 26 2 A m c (tmsC L') ∧ Upd (fun k => B ≤ k) w w'
theorem sort_any (L : List Tm) (B : Nat) (A : Option Addr) (c m : Nat) (w0 w : World) (hm : Hid (m = L.length)) (o : Hid (Own w B 26 2 A m c (tmsC L))) (ls : Hid (∀ x ∈ L, Sl w0 1 x.A x.l.length x.c (wds x.l))) (x0 : Hid (Ext w0 w)) (hb : Hid (w0.heap.size ≤ B)) (h9 : m ≤ 1000000) :
    Calls Tryz.prog 200 #[.slice A m c, .func (.func 146) #[] #[]] w (SortAny L B A c m w) := by
  rcases Nat.eq_zero_or_pos m with h | h
  · subst h
    have hl : L = [] := List.eq_nil_of_length_eq_zero hm.out.symm
    subst hl
    refine (sortT_nil A c _ w).mono ?_
    rintro e w' ⟨rfl, rfl⟩
    exact ⟨rfl, [], List.Perm.nil, List.Pairwise.nil, o.out, Upd.refl _ _⟩
  · obtain ⟨g, rfl, hg, hB, _⟩ := o.out.form h
    refine (sort_times L B g c m w0 w hm.out h o.out ls.out x0.out (Nat.le_trans hb.out hB) h9).mono ?_
    rintro e w' ⟨rfl, L', h1, h2, h3, h4⟩
    exact ⟨rfl, L', h1, h2, h3, h4.mono (fun k _ hk => by omega)⟩
/-- what Of answers: V in memory of its own -/
def OfOut (V : List TV) (w : World) (e : Ending) (w' : World) : Prop := ∃ A c n M, e = .returned (.slice A n c) ∧ n = List.length M ∧ Tout w' w.heap.size A c M ∧ M.map Tm.v = V ∧ Ext w w'
theorem OfOut.back {V : List TV} {w w3 : World} {e : Ending} {w' : World} (h : OfOut V w3 e w') (x : Ext w w3) : OfOut V w e w' := by
  obtain ⟨A, c, n, M, rfl, hn, hT, hV, x2⟩ := h
  exact ⟨A, c, n, M, rfl, hn, hT.mono x.size, hV, x.trans x2⟩
theorem map_at {S : List Tm} {k : Nat} (h : k < S.length) : ∃ h2 : k < (S.map Tm.v).length, (S.map Tm.v)[k] = (S.getD k Tm.zero).v := ⟨by rw [List.length_map]; exact h, getT_v h⟩
set_option maxRecDepth 100000 in
set_option maxHeartbeats 4000000 in
theorem of_any (AL : Option Addr) (cL m : Nat) (L : List Tm) (w : World) (hm : Hid (m = L.length)) (hL : Hid (Tin w AL cL L)) (hi : Hid (∀ x ∈ L, x.l.length ≤ 1000000)) (h9 : m ≤ 1000000) :
    Calls Tryz.prog 137 #[.slice AL m cL] w (OfOut (ofV (L.map Tm.v)) w) := by
  go_enter Tryz.func137, Tryz.ntmps137
  go_wp2_with (first
    | (go_at_call 199; refine (clone_times AL m cL L _ hm hL h9).mono ?_; rintro r w1 ⟨A', c', rfl, o1, x1⟩; have HO := Lib.hid o1; have HX1 := Lib.hid x1; clear o1 x1)
    | (go_at_call 200; refine (sort_any L w.heap.size A' c' m w _ hm HO (Lib.hid hL.out.ls) HX1 (Lib.hid (Nat.le_refl _)) h9).mono ?_; rintro r w2 ⟨rfl, S, hp, hs, o2, u2⟩; have HP := Lib.hid hp; have HS := Lib.hid hs; have HO2 := Lib.hid o2; have X2 : Hid (Ext w w2) := Lib.hid (ext_upd HX1.out u2 (fun k hk => hk)); clear hp hs o2 u2))
  have HM : Hid (m = S.length) := Lib.hid (by rw [HP.out.length_eq]; exact hm.out)
  have HTi : Hid (Tin w2 A' c' S) := Lib.hid ⟨by rw [← HM.out]; exact HO2.out.sl, fun x hx => (hL.out.ls x (HP.out.mem_iff.1 hx)).ext X2.out⟩
  have HMem : Hid (∀ v, v ∈ S.map Tm.v ↔ v ∈ L.map Tm.v) := Lib.hid (fun v => (HP.out.map Tm.v).mem_iff)
  have HSo : Hid ((S.map Tm.v).Pairwise fun x y => tcmp x y ≤ 0) := Lib.hid (by rw [List.pairwise_map]; exact HS.out)
  go_loopg [4, 13] m (fun z v4 v13 wr => ∃ (k : Nat) (A : Option Addr) (c n : Nat) (M : List Tm), z = m - k ∧ k ≤ m ∧ v13 = .int .i64 k ∧ v4 = .slice A n c ∧ Hid (n = M.length) ∧ Hid (Tout wr w2.heap.size A c M) ∧ Hid (OfUpto (L.map Tm.v) (S.map Tm.v) k (M.map Tm.v)) ∧ Hid (Ext w2 wr) ∧ n ≤ k)
  case atStart => exact ⟨0, none, 0, 0, [], rfl, Nat.zero_le _, rfl, rfl, Lib.hid rfl, Lib.hid (Tout.nil _ _), Lib.hid (OfUpto.zero _ _), Lib.hid (Ext.refl _), Nat.le_refl _⟩
  case round =>
    obtain ⟨k, A, c, n, M, rfl, hk, rfl, rfl, HN, HT, HU, HE, hnk⟩ := hrel
    by_cases hlt : k < m
    · have hkS : k < S.length := by rw [← HM.out]; exact hlt
      obtain ⟨ad, rfl, q0, q1⟩ := (HTi.out.ext HE.out).at (i := k) hkS
      have HXS : Hid (Sl wr 1 (S.getD k Tm.zero).A (S.getD k Tm.zero).l.length (S.getD k Tm.zero).c (wds (S.getD k Tm.zero).l)) := Lib.hid ((HTi.out.ext HE.out).ls _ (getT_mem hkS))
      have hlen : (S.getD k Tm.zero).l.length ≤ 1000000 := hi.out _ (HP.out.mem_iff.1 (getT_mem hkS))
      have hkv := map_at hkS
      obtain ⟨x, hx⟩ : ∃ x, S.getD k Tm.zero = x := ⟨_, rfl⟩
      rw [hx] at q0 q1 HXS hlen hkv
      have HKV := Lib.hid hkv
      clear hx hkv hkS
      obtain ⟨e, Ax, cx, l⟩ := x
      obtain ⟨nx, hnx⟩ : ∃ nx, l.length = nx := ⟨_, rfl⟩
      have HNX := Lib.hid hnx
      replace q0 : wr.cell? (ad.add (k * 2)) = some (.int .u64 e) := q0
      replace q1 : wr.cell? ⟨(ad.add (k * 2)).block, (ad.add (k * 2)).off + 1, none⟩ = some (.slice Ax l.length cx) := q1
      replace HXS : Hid (Sl wr 1 Ax l.length cx (wds l)) := HXS
      replace hlen : l.length ≤ 1000000 := hlen
      rw [hnx] at q1 HXS hlen
      clear hnx
      have X0 : Hid (Ext wr (wr.alloc (.cells #[.int .u64 e, .slice Ax nx cx] 26))) := Lib.hid ((Ext.refl _).alloc _)
      cases hq : beyondV (M.map Tm.v) (e, l) with
      | true =>
        have HQ := Lib.hid hq
        clear hq
        go_wp2_with (first
          | (go_at_call 140; go_loud (refine (beyond_at A c n M e Ax nx cx l _ HQ HN (Lib.hid (HT.out.ext X0.out).tin) (Lib.hid (HXS.out.ext X0.out))).mono ?_); rintro r w3 ⟨rfl, x3⟩))
        go_roundg (m - (k + 1))
        case measure => omega
        case rel =>
          obtain ⟨hk2, hkv⟩ := HKV.out
          exact ⟨k + 1, A, c, n, M, by omega, by omega, by go_num, rfl, HN, Lib.hid ((HT.out.ext X0.out).ext x3), Lib.hid (HU.out.skip hk2 (by rw [hkv]; exact HQ.out)), Lib.hid ((HE.out.trans X0.out).trans x3), by omega⟩
      | false =>
        have HQ := Lib.hid hq
        clear hq
        have hb0 := HE.out.size
        go_wp2_with (first
          | (go_at_call 140; go_loud (refine (beyond_at A c n M e Ax nx cx l _ HQ HN (Lib.hid (HT.out.ext X0.out).tin) (Lib.hid (HXS.out.ext X0.out))).mono ?_); rintro r w3 ⟨rfl, x3⟩; have X3 : Hid (Ext wr w3) := Lib.hid (X0.out.trans x3); have B3 : Bk w3 wr.heap.size 26 #[.int .u64 e, .slice Ax nx cx] := (Bk.new wr _ _).ext x3; have q30 : w3.cell? ⟨wr.heap.size, 0, none⟩ = some (.int .u64 e) := B3.cell 0; have q31 : w3.cell? ⟨wr.heap.size, 1, none⟩ = some (.slice Ax nx cx) := B3.cell 1; clear x3 B3)
          | (go_at_call 142; go_loud (refine (copied_any e Ax nx cx l _ (Lib.hid (HXS.out.ext X3.out)) hlen).mono ?_); rintro r w4 ⟨A4, c4, rfl, o4, x4⟩; have HO4 := Lib.hid o4; have X4 := Lib.hid x4; clear o4 x4)
          | (at_builtin; go_loud (refine wpList_append_two _ elemTimes w2.heap.size _ _ rfl rfl A n c (tmsC M) rfl (by rw [HN.out]; exact ((HT.out.ext X3.out).ext X4.out).own.alloc _) (some ⟨w4.heap.size, 0, none⟩) 1 1 (tmC ⟨e, A4, c4, l⟩) rfl (by rw [show tmC ⟨e, A4, c4, l⟩ = [.int .u64 e, .slice A4 nx c4] by rw [← HNX.out]; rfl]; exact Sl.one w4 #[.int .u64 e, .slice A4 nx c4] 26 2 rfl) (tmsC_one [⟨e, A4, c4, l⟩] |> fun h => by simpa [tmsC] using h) (by omega) (by decide) (by have := X3.out.size; have := X4.out.size; simp; omega) ?_); intro A5 c5 w5 o5 g5 x5; have HO5 := Lib.hid o5; have HG5 := Lib.hid g5; have HX5 := Lib.hid x5; clear o5 g5 x5))
        go_roundg (m - (k + 1))
        case measure => omega
        case rel =>
          obtain ⟨hk2, hkv⟩ := HKV.out
          have hT3 := HT.out.ext X3.out
          have hnx := HNX.out
          have hpush := Tout.push hT3 X4.out (x := ⟨e, A4, c4, l⟩) (by show Own w4 w3.heap.size _ 1 A4 l.length c4 (wds l); rw [hnx]; exact HO4.out) (by have := X3.out.size; omega) _ (by rw [← HN.out]; exact HO5.out) HG5.out HX5.out
          have e5 : Ext w2 w5 := by
            have e4 := (((HE.out.trans X3.out).trans X4.out).alloc (.cells #[.int .u64 e, .slice A4 nx c4] 26))
            exact e4.grown HG5.out (fun k hk => (hT3.own.lt k hk).1)
          refine ⟨k + 1, A5, c5, n + 1, M ++ [⟨e, A4, c4, l⟩], by omega, by omega, by go_num, rfl, Lib.hid (by rw [List.length_append, HN.out]; rfl), Lib.hid hpush, Lib.hid ?_, Lib.hid e5, by omega⟩
          rw [List.map_append]
          have := HU.out.put hk2 HSo.out HMem.out (by rw [hkv]; exact HQ.out)
          rw [hkv] at this
          exact this
    · obtain rfl : k = m := by omega
      go_wp2
      go_ret
      refine ⟨A, c, n, M, rfl, HN.out, (HT.out.mono X2.out.size), ?_, X2.out.trans HE.out⟩
      have hU := HU.out
      rw [show k = (S.map Tm.v).length by rw [List.length_map]; exact HM.out] at hU
      exact (hU.done HMem.out).eq
end Go.Proofs.YtdgbkpoickbidaaGreatDoor
namespace Go.Proofs.YtdgbkpoickbidaaGreatDoor
open Go.RowKit

/-- what has been collected, when the entries 'left' are still to come -/
structure FrontI (L : List Cg) (left : Lit → Bool) (M : List Tm) : Prop where
  from_ : ∀ y ∈ M, ∃ x ∈ L, x.t = y ∧ 0 < x.d ∧ left (keyT y.v) = false
  all : ∀ x ∈ L, 0 < x.d → left (keyT x.t.v) = false → x.t ∈ M
theorem FrontI.done {L : List Cg} {left : Lit → Bool} {M : List Tm} (h : FrontI L left M) (hl : ∀ k, left k = false) (hk : KeysC (L.map Cg.cv)) : ∀ v, v ∈ M.map Tm.v ↔ v ∈ liveV (L.map Cg.cv) := by
  intro v
  rw [List.mem_map]
  unfold liveV
  rw [List.mem_map]
  constructor
  · rintro ⟨y, hy, rfl⟩
    obtain ⟨x, hx, rfl, hd, _⟩ := h.from_ y hy
    exact ⟨x.cv, List.mem_filter.2 ⟨List.mem_map.2 ⟨x, hx, rfl⟩, decide_eq_true hd⟩, rfl⟩
  · rintro ⟨q, hq, rfl⟩
    obtain ⟨h1, h2⟩ := List.mem_filter.1 hq
    obtain ⟨x, hx, rfl⟩ := List.mem_map.1 h1
    exact ⟨x.t, h.all x hx (of_decide_eq_true h2) (hl _), rfl⟩
/-- the entry of x has come -/
theorem FrontI.skip {L : List Cg} {left : Lit → Bool} {M : List Tm} (h : FrontI L left M) (hinv : ∀ x ∈ L, InV x.t.v) (hk : KeysC (L.map Cg.cv)) {x : Cg} (hx : x ∈ L) (hd : ¬ 0 < x.d) : FrontI L (fun z => left z && !z.sameKey (keyT x.t.v)) M := by
  refine ⟨fun y hy => ?_, fun u hu hud hl => ?_⟩
  · obtain ⟨u, hu, e, h1, h2⟩ := h.from_ y hy
    exact ⟨u, hu, e, h1, by rw [h2]; rfl⟩
  · by_cases e : keyT u.t.v = keyT x.t.v
    · have e1 := keyT_inj (hinv u hu) (hinv x hx) e
      have e2 : u.d = x.d := by
        have a := getC_mem hk (List.mem_map.2 ⟨u, hu, rfl⟩)
        have b := getC_mem hk (List.mem_map.2 ⟨x, hx, rfl⟩)
        replace a : getC (L.map Cg.cv) u.t.v = u.d := a
        replace b : getC (L.map Cg.cv) x.t.v = x.d := b
        rw [← a, ← b, e1]
      omega
    · refine h.all u hu hud ?_
      rw [Maps.sameKey_ne e] at hl
      simpa using hl
theorem FrontI.put {L : List Cg} {left : Lit → Bool} {M : List Tm} (h : FrontI L left M) (hinv : ∀ x ∈ L, InV x.t.v) (hk : KeysC (L.map Cg.cv)) {x : Cg} (hx : x ∈ L) (hd : 0 < x.d) : FrontI L (fun z => left z && !z.sameKey (keyT x.t.v)) (M ++ [x.t]) := by
  refine ⟨fun y hy => ?_, fun u hu hud hl => ?_⟩
  · rcases List.mem_append.1 hy with hy | hy
    · obtain ⟨u, hu, e, h1, h2⟩ := h.from_ y hy
      exact ⟨u, hu, e, h1, by rw [h2]; rfl⟩
    · rw [List.mem_singleton] at hy
      subst hy
      refine ⟨x, hx, rfl, hd, ?_⟩
      have : (keyT x.t.v).sameKey (keyT x.t.v) = true := by unfold keyT Lit.sameKey; simp
      rw [this]; simp
  · by_cases e : keyT u.t.v = keyT x.t.v
    · have e1 := keyT_inj (hinv u hu) (hinv x hx) e
      have hne := hk
      have e3 : u = x ∨ u ≠ x := by by_cases q : u.t = x.t ∧ u.d = x.d
                                    · left; obtain ⟨ut, ud⟩ := u; obtain ⟨xt, xd⟩ := x; simp only at q; rw [q.1, q.2]
                                    · right; rintro rfl; exact q ⟨rfl, rfl⟩
      rcases e3 with rfl | e3
      · exact List.mem_append_right _ (by simp)
      · exfalso
        unfold KeysC at hne
        rw [List.pairwise_map] at hne
        obtain ⟨i, hi, rfl⟩ := List.getElem_of_mem hu
        obtain ⟨j, hj, rfl⟩ := List.getElem_of_mem hx
        rcases Nat.lt_trichotomy i j with q | q | q
        · exact List.pairwise_iff_getElem.1 hne i j hi hj q e1
        · subst q; exact e3 rfl
        · exact List.pairwise_iff_getElem.1 hne j i hj hi q e1.symm
    · refine List.mem_append_left _ (h.all u hu hud ?_)
      rw [Maps.sameKey_ne e] at hl
      simpa using hl
theorem keyOf_string_inv {key : Value} {kl : Lit} (h : keyOf Tryz.prog 9 key = some kl) : ∃ x, key = .string x := by
  have hu : Tryz.prog.underlying 9 = some .string := Tryz.underlying9
  cases key <;> simp [keyOf, hu, mapKey] at h
  exact ⟨_, rfl⟩
set_option maxRecDepth 100000 in
set_option maxHeartbeats 8000000 in
theorem frontier_any (gc bm n : Nat) (D : DataW Value) (L : List Cg) (w : World) (hc : Hid (Bk w gc 178 #[.map (some bm)])) (hM : Hid (MapC w bm n D L)) (hn : n ≤ 1000000) :
    Calls Tryz.prog 34 #[.pointer (some ⟨gc, 0, none⟩)] w (OfOut (ofV (liveV (L.map Cg.cv))) w) := by
  have c0 : w.cell? ⟨gc, 0, none⟩ = some (.map (some bm)) := hc.out.cell 0
  have HSZ : Hid (Maps.size D ≤ n) := Lib.hid hM.out.own.size_le
  have HF0 : Hid (FrontI L (Maps.has D) []) := Lib.hid ⟨fun y hy => (nomatch hy), fun x hx _ hl => by have := (hM.out.has _).2 ⟨x, hx, rfl⟩; rw [hl] at this; exact absurd this (by decide)⟩
  have HB : Hid (bm < w.heap.size) := Lib.hid hM.out.own.lt
  go_enter Tryz.func34, Tryz.ntmps34
  go_wp2_with (first
    | (at_range; refine wpList_range_own _ rfl _ 176 rfl 9 60 keyedS Tryz.underlying176 tok bm n D rfl hM.out.own ?_; intro w0 hrg0 hg0 hs0))
  go_frame
  have HR0 := Lib.hid hrg0
  have X0 : Hid (Ext w w0) := Lib.hid ((Ext.refl w).grown hg0 (fun k hk => by cases hk))
  clear hrg0 hg0 hs0
  go_loopg [3] (Maps.size D) (fun z v3 wr => ∃ (left : Lit → Bool) (cnt : Nat) (A : Option Addr) (c q : Nat) (M : List Tm), z = cnt ∧ v3 = .slice A q c ∧ Hid (q = M.length) ∧ Hid (wr.ranges Tryz.prog 9 tok bm w.heap.size n D left cnt) ∧ Hid (FrontI L left M) ∧ Hid (∀ kl, left kl = true → Maps.has D kl = true) ∧ Hid (Own wr (w.heap.size + 1) 26 2 A q c (tmsC M)) ∧ Hid (Ext w wr) ∧ q + cnt ≤ Maps.size D)
  case atStart => exact ⟨_, _, none, 0, 0, [], rfl, rfl, Lib.hid rfl, HR0, HF0, Lib.hid (fun _ h => h), Lib.hid (Own.nil _ _ _ _), X0, by omega⟩
  case round =>
    clear HR0 HF0
    obtain ⟨left, cnt, A, c, q, M, rfl, rfl, HQ, HR, HF, HL, HO, HE, hq⟩ := hrel
    have hsz := HSZ.out
    go_wp2_with (first
      | (at_next; go_loud (refine wpList_next_ranges _ rfl _ rfl 9 keyedS tok Value.string (fun v : Value => v) (fun key kl h => keyOf_string_inv h) (fun v y _ => ⟨v, rfl⟩) bm w.heap.size n D left _ rfl HR.out ?_ ?_)))
    · intro hc0 hl0
      have HL0 := Lib.hid hl0
      clear hl0 hc0
      have HTi : Hid (Tin wr A c M) := Lib.hid ⟨by rw [← HQ.out]; exact HO.out.sl, fun y hy => by obtain ⟨u, hu, e, _⟩ := HF.out.from_ y hy; rw [← e]; exact (hM.out.ls u hu).ext HE.out⟩
      have HLn : Hid (∀ x ∈ M, x.l.length ≤ 1000000) := Lib.hid (fun y hy => by obtain ⟨u, hu, e, _⟩ := HF.out.from_ y hy; rw [← e]; have := (hM.out.inv u hu).n; exact Nat.le_trans this (by omega))
      go_wp2_with (first
        | (go_at_call 137; go_loud (refine (of_any A c q M _ HQ HTi HLn (by omega)).mono ?_); rintro r w4 ⟨A4, c4, n4, M4, rfl, h4, t4, v4, x4⟩; have HO4 : Hid (OfOut (ofV (M.map Tm.v)) wr (.returned (.slice A4 n4 c4)) w4) := Lib.hid ⟨A4, c4, n4, M4, rfl, h4, t4, v4, x4⟩; clear h4 t4 v4 x4))
      go_ret
      have hb := HO4.out.back HE.out
      rw [ofV_congr (HF.out.done HL0.out hM.out.keys)] at hb
      exact hb
    · intro s v kl y ps w1 cnt1 hks hlx hy hat hrg1 hlt hg1 hs1 hen
      obtain ⟨x, hx, hkx⟩ := (hM.out.has kl).1 (HL.out kl hlx)
      subst hkx
      have hv : v = cgV x := by
        have h1 := hat .nil
        rw [hM.out.atk x hx] at h1
        unfold tok at hy
        injection hy with hy
        rw [← (Prod.mk.inj hy).1] at h1
        injection h1 with h1
        exact h1.symm
      subst hv
      have HX := Lib.hid hx
      have HRG := Lib.hid hrg1
      have E1 : Hid (Ext w w1) := Lib.hid (HE.out.grown hg1 (fun k hk => by injection hk with hk; omega))
      have HLx := Lib.hid hlx
      have HOw : Hid (Own w1 (w.heap.size + 1) 26 2 A q c (tmsC M)) := Lib.hid (HO.out.kept hg1 (by
        cases hb : blk A c with
        | none => exact .inl rfl
        | some k => exact .inr (fun e => by injection e with e; have := (HO.out.lt k hb).1; omega)))
      have HS1 := Lib.hid hs1
      have HLeft : Hid (∀ kl, (left kl && !kl.sameKey (keyT x.t.v)) = true → Maps.has D kl = true) := Lib.hid (fun k hk => HL.out k (by cases h : left k with | true => rfl | false => rw [h] at hk; simp at hk))
      clear hx hrg1 hg1 hlx hat hy hks hs1
      have hlen := (hM.out.inv x HX.out).n
      have hdd : 0 < x.d ∨ ¬ 0 < x.d := Int.lt_or_le 0 x.d |>.imp id (fun h => by omega)
      obtain ⟨xt, d⟩ := x
      obtain ⟨e, Ax, cx, l⟩ := xt
      obtain ⟨nx, hnx⟩ : ∃ nx, l.length = nx := ⟨_, rfl⟩
      have HNX := Lib.hid hnx
      replace hen : (Instr.entry (Value.pointer (some ⟨w.heap.size, 0, none⟩))).run Tryz.prog w1 = .ok (.tuple #[.string s, .agg #[.int .u64 e, .slice Ax l.length cx, .int .i64 d]]) w1 := hen
      show wpList _ _ _ _ (_ : Act) _
      unfold cgV
      simp only [hnx] at hen ⊢
      clear hnx
      have hwt := E1.out.size
      rcases hdd with hd | hd
      · replace hd : 0 < d := hd
        have HD := Lib.hid hd
        go_wp2_with (first
          | (at_builtin; go_loud (refine wpList_append_gen _ elemTimes (w.heap.size + 1) _ _ rfl rfl A q c (tmsC M) rfl ((HOw.out.alloc _).alloc _) (some ⟨w1.heap.size + 1, 0, none⟩) 1 1 (tmC ⟨e, Ax, cx, l⟩) rfl (by rw [show tmC ⟨e, Ax, cx, l⟩ = [.int .u64 e, .slice Ax nx cx] by rw [← HNX.out]; rfl]; have qq := Sl.one (w1.alloc (.cells #[.int .u64 e, .slice Ax nx cx, .int .i64 d] 60)) #[.int .u64 e, .slice Ax nx cx] 26 2 rfl; simpa using qq) (by rw [show tmC ⟨e, Ax, cx, l⟩ = [.int .u64 e, .slice Ax nx cx] by rw [← HNX.out]; rfl]; exact fun u hu => by simp at hu; rcases hu with rfl | rfl <;> rfl) (by omega) (by decide) (by have := HS1.out; have := HB.out; simp; omega) ?_); intro A5 c5 w5 o5 g5 k5; have HO5 := Lib.hid o5; have HG5 := Lib.hid g5; have HK5 := Lib.hid k5; clear o5 g5 k5))
        go_roundg cnt1
        case measure => omega
        case rel =>
          have hrow : ∀ k, blk A c = some k → w.heap.size + 1 ≤ k := fun k hk => (HOw.out.lt k hk).1
          refine ⟨_, cnt1, A5, c5, q + 1, M ++ [⟨e, Ax, cx, l⟩], rfl, rfl, Lib.hid (by rw [List.length_append, HQ.out]; rfl), Lib.hid (((HRG.out.alloc _).alloc _).kept HG5.out (fun h => ?_) (fun h => ?_)), Lib.hid (HF.out.put hM.out.inv hM.out.keys HX.out HD.out), HLeft, Lib.hid ?_, Lib.hid (((E1.out.alloc _).alloc _).grown HG5.out (fun k hk => by have := hrow k hk; omega)), by omega⟩
          · have := hrow bm h.symm; have := HB.out; omega
          · have := hrow w.heap.size h.symm; omega
          · rw [tmsC_append, show tmsC [(⟨e, Ax, cx, l⟩ : Tm)] = tmC ⟨e, Ax, cx, l⟩ by simp [tmsC]]; exact HO5.out
      · replace hd : ¬ 0 < d := hd
        have HD := Lib.hid hd
        go_wp2
        go_roundg cnt1
        case measure => omega
        case rel =>
          exact ⟨_, cnt1, A, c, q, M, rfl, rfl, HQ, Lib.hid (HRG.out.alloc _), Lib.hid (HF.out.skip hM.out.inv hM.out.keys HX.out (by have := HD.out; show ¬ 0 < d; omega)), HLeft, Lib.hid (HOw.out.alloc _), Lib.hid (E1.out.alloc _), by omega⟩
end Go.Proofs.YtdgbkpoickbidaaGreatDoor
namespace Go.Proofs.YtdgbkpoickbidaaGreatDoor
open Go.RowKit

theorem tcmp_dec (x t : TV) : (tcmp x t == 0) = decide (x = t) := by
  rw [Bool.eq_iff_iff, decide_eq_true_iff, beq_iff_eq]
  exact tcmp_zero
set_option maxRecDepth 100000 in
set_option maxHeartbeats 600000 in
theorem upd11_any (x : Tm) (B : Nat) (e : Int) (A : Option Addr) (n c : Nat) (l : List Int) (w : World) (hx : Hid (Sl w 1 x.A x.l.length x.c (wds x.l))) (hb : Hid (Bk w B 26 #[.int .u64 e, .slice A n c])) (ht : Hid (Sl w 1 A n c (wds l))) :
    Calls Tryz.prog 145 #[tmV x, .pointer (some ⟨B, 0, none⟩)] w fun r w' => r = .returned (.bool (decide (x.v = (e, l)))) ∧ Ext w w' := by
  have c0 : w.cell? ⟨B, 0, none⟩ = some (.int .u64 e) := hb.out.cell 0
  have c1 : w.cell? ⟨B, 1, none⟩ = some (.slice A n c) := hb.out.cell 1
  have hlt := hb.out.lt
  have hcon := fun (W : World) (y : Ext w W) => cmp_any x.e e x.A A x.l.length n x.c c x.l l W (hx.out.ext y) (ht.out.ext y)
  rw [← tcmp_dec]
  have ht2 : ∀ v : Int, tcmp x.v (e, l) = v → ∀ (W : World) (y : Ext w W), Calls Tryz.prog 146 #[.agg #[.int .u64 x.e, .slice x.A x.l.length x.c], .agg #[.int .u64 e, .slice A n c]] W fun r w' => r = .returned (.int .i64 v) ∧ Ext W w' := fun v hv W y => hv ▸ hcon W y
  obtain ⟨v, hv⟩ : ∃ v, tcmp x.v (e, l) = v := ⟨_, rfl⟩
  rw [hv]
  have HC := Lib.hid (ht2 v hv)
  clear ht2 hcon hv
  unfold tmV
  obtain ⟨xe, xA, xc, xl⟩ := x
  go_enter Tryz.func145, Tryz.ntmps145
  go_wp2_with (go_at_call 146; refine (HC.out _ ((Ext.refl w).alloc _)).mono ?_; rintro r w1 ⟨rfl, x1⟩)
  go_ret
  exact ⟨rfl, ((Ext.refl w).alloc _).trans x1⟩
theorem enters_upd11 : ∀ args w, (callFunc 145 args).run Tryz.prog w = .ok (.enter 145 args) w := enters_of Tryz.func145 (by kernel_rfl) rfl
/-- is a time's value among those of the list? -/
def inL (M : List Tm) (v : TV) : Bool := M.any fun x => decide (x.v = v)
theorem inL_iff {M : List Tm} {v : TV} : inL M v = true ↔ v ∈ M.map Tm.v := by
  unfold inL
  rw [List.any_eq_true, List.mem_map]
  exact ⟨fun ⟨x, hx, h⟩ => ⟨x, hx, of_decide_eq_true h⟩, fun ⟨x, hx, h⟩ => ⟨x, hx, decide_eq_true h⟩⟩
/-- what is told of the first k -/
def toldK (L M : List Tm) (d : Int) (k : Nat) : List Cg := ((L.take k).filter fun x => !inL M x.v).map fun x => ⟨x, d⟩
theorem toldK_yes {L M : List Tm} {d : Int} {k : Nat} (h : k < L.length) (hq : inL M (L.getD k Tm.zero).v = false) : toldK L M d (k + 1) = toldK L M d k ++ [⟨L.getD k Tm.zero, d⟩] := by
  unfold toldK
  have e : L.getD k Tm.zero = L[k] := by rw [List.getD_eq_getElem?_getD, List.getElem?_eq_getElem h]; rfl
  rw [List.take_succ_eq_append_getElem h, List.filter_append, List.map_append, e]
  rw [e] at hq
  simp [hq]
theorem toldK_no {L M : List Tm} {d : Int} {k : Nat} (h : k < L.length) (hq : inL M (L.getD k Tm.zero).v = true) : toldK L M d (k + 1) = toldK L M d k := by
  unfold toldK
  have e : L.getD k Tm.zero = L[k] := by rw [List.getD_eq_getElem?_getD, List.getElem?_eq_getElem h]; rfl
  rw [List.take_succ_eq_append_getElem h, List.filter_append, List.map_append]
  rw [e] at hq
  simp [hq]
theorem toldK_len (L M : List Tm) (d : Int) (k : Nat) : (toldK L M d k).length ≤ k := by
  unfold toldK
  rw [List.length_map]
  exact Nat.le_trans (List.length_filter_le _ _) (by rw [List.length_take]; omega)
/-- what the inner function leaves: 'out' in block go holds what was told, and this behind it -/
def TellOut (w0 : World) (go B : Nat) (R : List Cg) (e : Ending) (w' : World) : Prop := e = .returned (.tuple #[]) ∧ ∃ A c n, n = R.length ∧ Bk w' go 58 #[.slice A n c] ∧ Own w' B 60 3 A n c (cgsC R) ∧ Ext w0 w'
set_option maxRecDepth 100000 in
set_option maxHeartbeats 8000000 in
theorem tell_any (w0 : World) (go B : Nat) (AL AM : Option Addr) (cL cM m n : Nat) (L M : List Tm) (d : Int) (A0 : Option Addr) (c0 n0 : Nat) (R : List Cg) (w : World) (hm : Hid (m = L.length)) (hn : Hid (n = M.length)) (hL : Hid (Tin w0 AL cL L)) (hM : Hid (Tin w0 AM cM M))
    (x0 : Hid (Ext w0 w)) (hgo : Hid (w0.heap.size ≤ go)) (hB : Hid (go < B)) (hBk : Hid (Bk w go 58 #[.slice A0 n0 c0])) (hn0 : Hid (n0 = R.length)) (hO : Hid (Own w B 60 3 A0 n0 c0 (cgsC R))) (hBw : Hid (B ≤ w.heap.size)) (h9 : m ≤ 1000000) (h8 : n0 ≤ 1000000) :
    Calls Tryz.prog 143 #[.slice AL m cL, .slice AM n cM, .int .i64 d, .pointer (some ⟨go, 0, none⟩)] w (TellOut w0 go B (R ++ toldK L M d m)) := by
  go_enter Tryz.func143, Tryz.ntmps143
  go_wp2
  go_loopg [11] m (fun z v11 wr => ∃ (k : Nat) (A : Option Addr) (c q : Nat) (T : List Cg), z = m - k ∧ k ≤ m ∧ v11 = .int .i64 k ∧ Hid (T = R ++ toldK L M d k) ∧ Hid (q = T.length) ∧ Hid (Bk wr go 58 #[.slice A q c]) ∧ Hid (Own wr B 60 3 A q c (cgsC T)) ∧ Hid (Ext w0 wr) ∧ Hid (B ≤ wr.heap.size) ∧ q ≤ n0 + k)
  case atStart => exact ⟨0, A0, c0, n0, R, rfl, Nat.zero_le _, rfl, Lib.hid (by simp [toldK]), hn0, hBk, hO, x0, hBw, by omega⟩
  case round =>
    obtain ⟨k, A, c, q, T, rfl, hk, rfl, HT, HQ, HB, HO, HE, HS, hq⟩ := hrel
    by_cases hlt : k < m
    · have hkL : k < L.length := by rw [← hm.out]; exact hlt
      obtain ⟨ad, rfl, q0, q1⟩ := (hL.out.ext HE.out).at (i := k) hkL
      have HXS : Hid (Sl w0 1 (L.getD k Tm.zero).A (L.getD k Tm.zero).l.length (L.getD k Tm.zero).c (wds (L.getD k Tm.zero).l)) := Lib.hid (hL.out.ls _ (getT_mem hkL))
      have hyes := toldK_yes (M := M) (d := d) hkL
      have hno := toldK_no (M := M) (d := d) hkL
      obtain ⟨x, hx⟩ : ∃ x, L.getD k Tm.zero = x := ⟨_, rfl⟩
      rw [hx] at q0 q1 HXS hyes hno
      have HY := Lib.hid hyes
      have HN := Lib.hid hno
      clear hx hyes hno hkL
      obtain ⟨e, Ax, cx, l⟩ := x
      obtain ⟨nx, hnx⟩ : ∃ nx, l.length = nx := ⟨_, rfl⟩
      have HNX := Lib.hid hnx
      replace q0 : wr.cell? (ad.add (k * 2)) = some (.int .u64 e) := q0
      replace q1 : wr.cell? ⟨(ad.add (k * 2)).block, (ad.add (k * 2)).off + 1, none⟩ = some (.slice Ax l.length cx) := q1
      replace HXS : Hid (Sl w0 1 Ax l.length cx (wds l)) := HXS
      rw [hnx] at q1 HXS
      clear hnx
      have XY : Hid (Ext wr (wr.alloc (.cells #[.int .u64 e, .slice Ax nx cx] 26))) := Lib.hid ((Ext.refl _).alloc _)
      have BX : Hid (Bk (wr.alloc (.cells #[.int .u64 e, .slice Ax nx cx] 26)) wr.heap.size 26 #[.int .u64 e, .slice Ax nx cx]) := Lib.hid (Bk.new wr _ _)
      have HPr : Hid (Pred 145 #[.pointer (some ⟨wr.heap.size, 0, none⟩)] (fun y => decide (y.v = (e, l))) M (wr.alloc (.cells #[.int .u64 e, .slice Ax nx cx] 26))) := Lib.hid (fun W y hy z =>
        upd11_any y wr.heap.size e Ax nx cx l W (Lib.hid (((hM.out.ls y hy).ext (HE.out.trans XY.out)).ext z)) (Lib.hid (BX.out.ext z)) (Lib.hid ((HXS.out.ext (HE.out.trans XY.out)).ext z)))
      have hcon := contains_times _ 145 _ enters_upd11 AM cM n M _ hn (Lib.hid (hM.out.ext (HE.out.trans XY.out))) HPr
      replace hcon : Calls Tryz.prog 144 _ _ (fun r w' => r = .returned (.bool (inL M (e, l))) ∧ Ext _ w') := hcon
      cases hin : inL M (e, l) with
      | true =>
        rw [hin] at hcon
        have HIN := Lib.hid hin
        clear hin
        go_wp2_with (first
          | (go_at_call 144; go_loud (refine hcon.mono ?_); rintro r w3 ⟨rfl, x3⟩))
        go_roundg (m - (k + 1))
        case measure => omega
        case rel =>
          have XX := XY.out.trans x3
          exact ⟨k + 1, A, c, q, T, by omega, by omega, by go_num, Lib.hid (by rw [HN.out HIN.out]; exact HT.out), HQ, Lib.hid (HB.out.ext XX), Lib.hid (HO.out.ext XX), Lib.hid (HE.out.trans XX), Lib.hid (Nat.le_trans HS.out XX.size), by omega⟩
      | false =>
        rw [hin] at hcon
        have HIN := Lib.hid hin
        clear hin
        go_wp2_with (first
          | (go_at_call 144; go_loud (refine hcon.mono ?_); rintro r w3 ⟨rfl, x3⟩; have X3 : Hid (Ext wr w3) := Lib.hid (XY.out.trans x3); have B3 := BX.out.ext x3; have y0 : w3.cell? ⟨wr.heap.size, 0, none⟩ = some (.int .u64 e) := B3.cell 0; have y1 : w3.cell? ⟨wr.heap.size, 1, none⟩ = some (.slice Ax nx cx) := B3.cell 1; have G3 := HB.out.ext X3.out; have y2 : w3.cell? ⟨go, 0, none⟩ = some (.slice A q c) := G3.cell 0; clear x3 B3 G3)
          | (at_builtin; go_loud (refine wpList_append_gen _ elemChg B _ _ rfl rfl A q c (cgsC T) rfl ((HO.out.ext X3.out).alloc _) (some ⟨w3.heap.size, 0, none⟩) 1 1 (cgC ⟨⟨e, Ax, cx, l⟩, d⟩) rfl (by rw [show cgC ⟨⟨e, Ax, cx, l⟩, d⟩ = [.int .u64 e, .slice Ax nx cx, .int .i64 d] by rw [← HNX.out]; rfl]; exact Sl.one w3 #[.int .u64 e, .slice Ax nx cx, .int .i64 d] 60 3 rfl) (by rw [show cgC ⟨⟨e, Ax, cx, l⟩, d⟩ = [.int .u64 e, .slice Ax nx cx, .int .i64 d] by rw [← HNX.out]; rfl]; exact fun u hu => by simp at hu; rcases hu with rfl | rfl | rfl <;> rfl) (by omega) (by decide) (Nat.le_trans HS.out (Nat.le_trans X3.out.size (Ext.size ((Ext.refl w3).alloc _)))) ?_); intro A5 c5 w5 o5 g5 k5; have G5 : Bk w5 go 58 #[.slice A q c] := ((HB.out.ext X3.out).alloc _).grown g5 (fun h => by have := (HO.out.lt go h).1; have := hB.out; omega); have y3 := G5.cell 0; have y4 := G5.free 0; have HG5 := Lib.hid G5; have HO5 := Lib.hid o5; have HGr := Lib.hid g5; clear o5 g5 k5 G5))
        go_roundg (m - (k + 1))
        case measure => omega
        case rel =>
          have hrow : ∀ k, blk A c = some k → B ≤ k := fun k hk => (HO.out.lt k hk).1
          have hs3 := X3.out.size
          have e5 : Ext w0 w5 := ((HE.out.trans X3.out).alloc _).grown HGr.out (fun k hk => by have := hrow k hk; have := hgo.out; have := hB.out; omega)
          refine ⟨k + 1, A5, c5, q + 1, T ++ [⟨⟨e, Ax, cx, l⟩, d⟩], by omega, by omega, by go_num, Lib.hid (by rw [HY.out HIN.out, HT.out, List.append_assoc]), Lib.hid (by rw [List.length_append, HQ.out]; rfl), Lib.hid (HG5.out.set 0 _), Lib.hid ?_, Lib.hid (e5.set hgo.out _), Lib.hid ?_, by omega⟩
          · rw [cgsC_append, show cgsC [(⟨⟨e, Ax, cx, l⟩, d⟩ : Cg)] = cgC ⟨⟨e, Ax, cx, l⟩, d⟩ by simp [cgsC]]
            exact HO5.out.far (HO5.out.ne hB.out) _
          · have := HGr.out.size
            have := ((Ext.refl w3).alloc (.cells #[.int .u64 e, .slice Ax nx cx, .int .i64 d] 60)).size
            have := HS.out
            simp only [World.size_setCell]
            omega
    · obtain rfl : k = m := by omega
      go_wp2
      go_end0
      exact ⟨rfl, A, c, q, by rw [← HT.out]; exact HQ.out, HB.out, by rw [← HT.out]; exact HO.out, HE.out⟩
end Go.Proofs.YtdgbkpoickbidaaGreatDoor
namespace Go.Proofs.YtdgbkpoickbidaaGreatDoor
open Go.RowKit

/-! ### plain -/
/-- counts with one change more -/
def addC (D : List CV) (x : CV) : List CV := D.filter (fun y => decide (y.1 ≠ x.1)) ++ (if IntKind.i64.wrap (x.2 + getC D x.1) = 0 then [] else [(x.1, IntKind.i64.wrap (x.2 + getC D x.1))])
theorem getC_filter (D : List CV) (v t : TV) : getC (D.filter fun y => decide (y.1 ≠ v)) t = if t = v then 0 else getC D t := by
  by_cases h : t = v
  · rw [if_pos h]
    refine getC_none fun x hx e => ?_
    have := (List.mem_filter.1 hx).2
    rw [decide_eq_true_iff] at this
    exact this (e.trans h)
  · rw [if_neg h]
    unfold getC
    rw [List.find?_filter]
    congr 2
    congr 1
    funext x
    by_cases e : x.1 = t
    · simp [e, h]
    · simp [e]
theorem getC_snoc (D : List CV) (x : CV) (t : TV) : getC (D ++ [x]) t = if (∃ y ∈ D, y.1 = t) then getC D t else if x.1 = t then x.2 else 0 := by
  unfold getC
  rw [List.find?_append]
  cases h : D.find? fun y => decide (y.1 = t) with
  | none =>
    rw [if_neg (fun ⟨y, hy, e⟩ => by have := List.find?_eq_none.1 h y hy; simp [e] at this)]
    by_cases e : x.1 = t
    · simp [e]
    · simp [e]
  | some y =>
    rw [if_pos ⟨y, List.mem_of_find?_eq_some h, by simpa using List.find?_some h⟩]
    rfl
theorem getC_addC (D : List CV) (x : CV) (t : TV) : getC (addC D x) t = if t = x.1 then IntKind.i64.wrap (x.2 + getC D x.1) else getC D t := by
  unfold addC
  split
  · rename_i h
    rw [List.append_nil, getC_filter]
    split
    · rw [h]
    · rfl
  · rename_i h
    rw [getC_snoc, getC_filter]
    by_cases e : t = x.1
    · subst e
      rw [if_neg (fun ⟨y, hy, e⟩ => by have := (List.mem_filter.1 hy).2; rw [decide_eq_true_iff] at this; exact this e), if_pos rfl, if_pos rfl]
    · have e' : ¬ (x.1, IntKind.i64.wrap (x.2 + getC D x.1)).1 = t := fun q => e q.symm
      simp only [if_neg e, if_neg e']
      split
      · rfl
      · rename_i hn
        exact (getC_none (fun y hy e2 => hn ⟨y, List.mem_filter.2 ⟨hy, decide_eq_true (by rw [e2]; exact e)⟩, e2⟩)).symm
theorem addC_keys {D : List CV} (h : KeysC D) (x : CV) : KeysC (addC D x) := by
  unfold addC KeysC at *
  refine List.pairwise_append.2 ⟨h.filter _, ?_, fun y hy z hz => ?_⟩
  · split
    · exact List.Pairwise.nil
    · exact List.pairwise_singleton _ _
  · split at hz
    · cases hz
    · rw [List.mem_singleton] at hz
      subst hz
      have := (List.mem_filter.1 hy).2
      rwa [decide_eq_true_iff] at this

/-! ### the map -/
theorem Sl.turned {w w' : World} {size n c b : Nat} {A : Option Addr} {xs : List Value} (h : Sl w size A n c xs) (u : w.grownBy w' (some b)) (hb : ∃ es cl, w.heap[b]? = some (.map es cl)) : Sl w' size A n c xs := by
  refine ⟨h.1, h.2.1, h.2.2.1, h.2.2.2.1, fun hn => ?_⟩
  obtain ⟨ad, e, hc⟩ := h.2.2.2.2 hn
  refine ⟨ad, e, fun j v hj => ?_⟩
  have h1 := hc j v hj
  refine u.cell h1 (fun e2 => ?_)
  injection e2 with e2
  obtain ⟨es, cl, hm⟩ := hb
  unfold World.cell? at h1
  rw [e2, hm] at h1
  cases h1
section
variable {w w' : World} {b n : Nat} {D : DataW Value} {L : List Cg}
theorem owns_map (h : w.ownsMap Tryz.prog 9 tok b n D) : ∃ es cl, w.heap[b]? = some (.map es cl) := by
  obtain ⟨es, clock, hb, _⟩ := h
  exact ⟨es, clock, hb⟩
theorem keyLit (v : TV) : WideAt.IsKeyLit (keyT v) := trivial
theorem MapC.del (h : MapC w b n D L) {v : TV} (hv : InV v) (ho : w'.ownsMap Tryz.prog 9 tok b n (D.del (keyT v))) (ht : w.mapTurned w' b) : MapC w' b n (D.del (keyT v)) (L.filter fun y => decide (y.t.v ≠ v)) := by
  have hne : ∀ x ∈ L.filter (fun y => decide (y.t.v ≠ v)), x ∈ L ∧ keyT x.t.v ≠ keyT v := fun x hx => by
    obtain ⟨h1, h2⟩ := List.mem_filter.1 hx
    rw [decide_eq_true_iff] at h2
    exact ⟨h1, fun e => h2 (keyT_inj (h.inv x h1) hv e)⟩
  refine ⟨ho, fun kl => ?_, fun x hx z => ?_, ?_, fun x hx => ((h.ls x (hne x hx).1).turned ht.grown (owns_map h.own)), fun x hx => h.inv x (hne x hx).1, Nat.le_trans (List.length_filter_le _ _) h.cnt⟩
  · by_cases e : kl = keyT v
    · subst e
      rw [Maps.has_del_same]
      constructor
      · intro q; cases q
      · rintro ⟨x, hx, e⟩; exact absurd e (hne x hx).2
    · rw [Maps.has_del_other e, h.has]
      constructor
      · rintro ⟨x, hx, rfl⟩
        exact ⟨x, List.mem_filter.2 ⟨hx, decide_eq_true (fun q => e (by rw [q]))⟩, rfl⟩
      · rintro ⟨x, hx, rfl⟩
        exact ⟨x, (hne x hx).1, rfl⟩
  · rw [Maps.atKey_del_other (hne x hx).2]
    exact h.atk x (hne x hx).1 z
  · have := h.keys
    unfold KeysC at *
    rw [List.pairwise_map] at *
    exact this.filter _
theorem MapC.put (h : MapC w b n D L) {x : Cg} (hv : InV x.t.v) (ho : w'.ownsMap Tryz.prog 9 tok b (n + 1) (D.put (keyT x.t.v) (.held (cgV x)))) (ht : w.mapTurned w' b) (hs : Sl w 1 x.t.A x.t.l.length x.t.c (wds x.t.l)) :
    MapC w' b (n + 1) (D.put (keyT x.t.v) (.held (cgV x))) (L.filter (fun y => decide (y.t.v ≠ x.t.v)) ++ [x]) := by
  have hne : ∀ y ∈ L.filter (fun y => decide (y.t.v ≠ x.t.v)), y ∈ L ∧ keyT y.t.v ≠ keyT x.t.v := fun y hy => by
    obtain ⟨h1, h2⟩ := List.mem_filter.1 hy
    rw [decide_eq_true_iff] at h2
    exact ⟨h1, fun e => h2 (keyT_inj (h.inv y h1) hv e)⟩
  have hcase : ∀ y ∈ L.filter (fun y => decide (y.t.v ≠ x.t.v)) ++ [x], (y ∈ L ∧ keyT y.t.v ≠ keyT x.t.v) ∨ y = x := fun y hy => by
    rcases List.mem_append.1 hy with hy | hy
    · exact .inl (hne y hy)
    · rw [List.mem_singleton] at hy; exact .inr hy
  have him := h.own.isMap
  refine ⟨ho, fun kl => ?_, fun y hy z => ?_, ?_, fun y hy => ?_, fun y hy => ?_, by rw [List.length_append]; have a := List.length_filter_le (fun y => decide (y.t.v ≠ x.t.v)) L; have b := h.cnt; show _ + 1 ≤ n + 1; omega⟩
  · by_cases e : kl = keyT x.t.v
    · subst e
      rw [Maps.has_put_same him (keyLit _)]
      exact ⟨fun _ => ⟨x, List.mem_append_right _ (by simp), rfl⟩, fun _ => rfl⟩
    · rw [Maps.has_put_other e, h.has]
      constructor
      · rintro ⟨y, hy, rfl⟩
        exact ⟨y, List.mem_append_left _ (List.mem_filter.2 ⟨hy, decide_eq_true (fun q => e (by rw [q]))⟩), rfl⟩
      · rintro ⟨y, hy, rfl⟩
        rcases hcase y hy with q | rfl
        · exact ⟨y, q.1, rfl⟩
        · exact absurd rfl e
  · rcases hcase y hy with q | rfl
    · rw [Maps.atKey_put_other q.2]
      exact h.atk y q.1 z
    · exact Maps.atKey_put_same him (keyLit _) _ _
  · have := h.keys
    unfold KeysC at *
    rw [List.map_append]
    refine List.pairwise_append.2 ⟨?_, List.pairwise_singleton _ _, fun y hy z hz => ?_⟩
    · rw [List.pairwise_map] at *
      exact this.filter _
    · have hz2 : z = x.cv := by simpa using hz
      subst hz2
      obtain ⟨y2, hy2, e2⟩ := List.mem_map.1 hy
      have := of_decide_eq_true (List.mem_filter.1 hy2).2
      rw [← e2]
      exact this
  · rcases hcase y hy with q | rfl
    · exact (h.ls y q.1).turned ht.grown (owns_map h.own)
    · exact hs.turned ht.grown (owns_map h.own)
  · rcases hcase y hy with q | rfl
    · exact h.inv y q.1
    · exact hv
end
theorem addC_map (L : List Cg) (x : Cg) (d : Int) : (IntKind.i64.wrap (d + (atC L x.t.v).d) = x.d) → x.d ≠ 0 → (L.filter (fun y => decide (y.t.v ≠ x.t.v)) ++ [x]).map Cg.cv = addC (L.map Cg.cv) (x.t.v, d) := by
  intro h h0
  unfold addC
  rw [← atC_d, h, if_neg h0, List.map_append, List.filter_map]
  rfl
theorem addC_map0 (L : List Cg) (v : TV) (d : Int) : (IntKind.i64.wrap (d + (atC L v).d) = 0) → (L.filter (fun y => decide (y.t.v ≠ v))).map Cg.cv = addC (L.map Cg.cv) (v, d) := by
  intro h
  unfold addC
  rw [← atC_d, h, if_pos rfl, List.append_nil, List.filter_map]
  rfl
end Go.Proofs.YtdgbkpoickbidaaGreatDoor
namespace Go.Proofs.YtdgbkpoickbidaaGreatDoor
open Go.RowKit

set_option maxRecDepth 100000 in
set_option maxHeartbeats 400000 in
theorem insC_nil (A : Option Addr) (c : Nat) (fv : Value) (w : World) : Calls Tryz.prog 238 #[.slice A 0 c, .int .i64 0, .int .i64 0, fv] w fun e w' => e = .returned (.tuple #[]) ∧ w = w' := by
  go_enter Tryz.func238, Tryz.ntmps238
  go_wp2
  refine wp_loop_rounds 1 ?_
  rw [rounds_succ]
  go_wp2
  go_end0
  exact ⟨rfl, rfl⟩
set_option maxRecDepth 100000 in
set_option maxHeartbeats 1000000 in
theorem pdqC_nil (A : Option Addr) (c : Nat) (z : Int) (fv : Value) (w : World) : Calls Tryz.prog 208 #[.slice A 0 c, .int .i64 0, .int .i64 0, .int .i64 z, fv] w fun e w' => e = .returned (.tuple #[]) ∧ w = w' := by
  go_enter Tryz.func208, Tryz.ntmps208
  go_wp2
  refine wp_loop_rounds 1 ?_
  rw [rounds_succ]
  go_wp2_with (go_at_call 238; refine (insC_nil _ _ _ _).mono ?_; rintro e w' ⟨rfl, rfl⟩)
  (try simp only [Exit.inBlock, Exit.then]); refine bodyPost_ret (results_none rfl _ _ _) rfl ?_
  exact ⟨rfl, rfl⟩
set_option maxRecDepth 100000 in
set_option maxHeartbeats 400000 in
theorem sortC_nil (A : Option Addr) (c : Nat) (fv : Value) (w : World) : Calls Tryz.prog 147 #[.slice A 0 c, fv] w fun e w' => e = .returned (.tuple #[]) ∧ w = w' := by
  go_enter Tryz.func147, Tryz.ntmps147
  go_wp2_with (first
    | (go_at_call 209; refine (bitsLen0 _).mono ?_; rintro e w' ⟨rfl, rfl⟩)
    | (go_at_call 208; refine (pdqC_nil _ _ _ _ _).mono ?_; rintro e w' ⟨rfl, rfl⟩))
  go_end0
  exact ⟨rfl, rfl⟩
set_option maxRecDepth 100000 in
set_option maxHeartbeats 600000 in
theorem upd2_grow (x y : Cg) (w : World) (h1 : Sl w 1 x.t.A x.t.l.length x.t.c (wds x.t.l)) (h2 : Sl w 1 y.t.A y.t.l.length y.t.c (wds y.t.l)) :
    Calls Tryz.prog 148 #[cgV x, cgV y] w fun e w' => e = .returned (.int .i64 (tcmp x.t.v y.t.v)) ∧ ∃ q os, w' = Go.Sort.grow (w.drewN q) os := by
  obtain ⟨⟨e1, A1, c1, l1⟩, d1⟩ := x
  obtain ⟨⟨e2, A2, c2, l2⟩, d2⟩ := y
  unfold cgV
  replace h1 := Lib.hid h1
  replace h2 := Lib.hid h2
  obtain ⟨n1, hn1⟩ : ∃ n1, l1.length = n1 := ⟨_, rfl⟩
  obtain ⟨n2, hn2⟩ : ∃ n2, l2.length = n2 := ⟨_, rfl⟩
  simp only [hn1, hn2] at h1 h2 ⊢
  clear hn1 hn2
  go_enter Tryz.func148, Tryz.ntmps148
  go_wp2_with (go_at_call 146; refine (cmp_grow e1 e2 A1 A2 n1 n2 c1 c2 l1 l2 _ (h1.out.ext (((Ext.refl w).alloc _).alloc _)) (h2.out.ext (((Ext.refl w).alloc _).alloc _))).mono ?_; rintro e w' ⟨rfl, q, os, rfl⟩)
  go_ret
  exact ⟨rfl, q, _, by rw [Go.Sort.alloc_eq_grow, Go.Sort.alloc_eq_grow, Go.Sort.grow_grow]; show Go.Sort.grow (Go.Sort.grow (w.drewN q) _) os = _; rw [Go.Sort.grow_grow]⟩
theorem enters_upd2 : ∀ args w, (callFunc 148 args).run Tryz.prog w = .ok (.enter 148 args) w := enters_of Tryz.func148 (by kernel_rfl) rfl
/-- what the sort leaves -/
def SortOutC (L : List Cg) (B : Nat) (A : Option Addr) (c m : Nat) (w : World) (e : Ending) (w' : World) : Prop :=
  e = .returned (.tuple #[]) ∧ ∃ L' : List Cg, L'.Perm L ∧ (L'.Pairwise fun x y => tcmp x.t.v y.t.v ≤ 0) ∧ Own w' B 60 3 A m c (cgsC L') ∧ Upd (fun k => B ≤ k) w w'
set_option maxRecDepth 100000 in
theorem sort_chgs (L : List Cg) (B g c m : Nat) (w0 w : World) (hm : m = L.length) (h0 : 0 < m) (o : Own w B 60 3 (some ⟨g, 0, none⟩) m c (cgsC L)) (ls : ∀ x ∈ L, Sl w0 1 x.t.A x.t.l.length x.t.c (wds x.t.l)) (x0 : Ext w0 w) (hb : w0.heap.size ≤ g) (h9 : m ≤ 1000000) (hBg : B ≤ g) :
    Calls Tryz.prog 147 #[.slice (some ⟨g, 0, none⟩) m c, .func (.func 148) #[] #[]] w (SortOutC L B (some ⟨g, 0, none⟩) c m w) := by
  haveI : Inhabited {x : Cg // x ∈ L} := ⟨⟨L.head (by intro e; subst e; simp at hm; omega), List.head_mem _⟩⟩
  obtain ⟨d, hd⟩ : ∃ d : Array {x : Cg // x ∈ L}, d = L.attach.toArray := ⟨_, rfl⟩
  have ds : d.size = m := by rw [hd, hm]; simp
  have hflat : (d.toList.flatMap fun x => cgC x.1) = cgsC L := by rw [hd]; exact attach_flat L cgC
  have hk : ∀ x : {x : Cg // x ∈ L}, (cgC x.1).length = 3 := fun _ => rfl
  have o' : Own w B 60 3 (some ⟨g, 0, none⟩) d.size c (d.toList.flatMap fun x => cgC x.1) := by rw [hflat, ds]; exact o
  have hcmp : CmpLays Tryz.prog 148 #[] (fun x : {x : Cg // x ∈ L} => cgC x.1) 3 (fun x y => tcmp x.1.t.v y.1.t.v) g 0 d.size w := fun q os dk hdk x y => by
    have u := (sorted_own (fun x : {x : Cg // x ∈ L} => cgC x.1) 3 hk (by decide) (n := q) (os := os) o' (by omega) hdk).2
    have e : Ext w0 (sortWorldK (fun x : {x : Cg // x ∈ L} => cgC x.1) 3 w g 0 q dk os) := ext_upd x0 u (fun k hk => by omega)
    exact upd2_grow x.1 y.1 _ ((ls _ x.2).ext e) ((ls _ y.2).ext e)
  have hcon := AnyQ.slices_SortFunc Tryz.sortChanges 3 Tryz.isAgg60 Tryz.sizeOf60 (fun x : {x : Cg // x ∈ L} => cgC x.1) hk (fun x v hv => by simp [cgC] at hv; rcases hv with rfl | rfl | rfl <;> rfl) (fun x y => tcmp x.1.t.v y.1.t.v) (swo_by fun x : {x : Cg // x ∈ L} => x.1.t.v) 148 #[] g 0 c d w enters_upd2 hcmp
    (own_holds _ 3 hk (by decide) o' (by omega)) (by have := (o.lt g (by unfold blk; obtain ⟨_, h2⟩ := o.le; cases c with | zero => have := o.le.1; omega | succ c => rfl)).2; exact this) (by omega)
  change Calls Tryz.prog 147 _ _ _ at hcon
  rw [ds] at hcon
  refine hcon.mono ?_
  rintro e w' ⟨rfl, d', n, os, hp, hs, rfl⟩
  rw [← ds] at hp hs
  obtain ⟨h1, h2, h3⟩ := sorted_list hp hs
  have q := sorted_own (fun x : {x : Cg // x ∈ L} => cgC x.1) 3 hk (by decide) (n := n) (os := os) o' (by omega) h1
  refine ⟨rfl, d'.toList.map Subtype.val, ?_, ?_, ?_, q.2.mono (fun k _ hk => by omega)⟩
  · have := h2.map Subtype.val
    rw [hd, List.attach_map_subtype_val] at this
    exact this
  · rw [List.pairwise_map]
    refine h3.imp fun {x y} h => ?_
    replace h : decide (tcmp y.1.t.v x.1.t.v < 0) = false := h
    rw [decide_eq_false_iff_not] at h
    have := tcmp_neg x.1.t.v y.1.t.v
    omega
  · have := q.1
    rw [ds] at this
    unfold cgsC
    rw [List.flatMap_map]
    exact this
theorem sortC_any (L : List Cg) (B : Nat) (A : Option Addr) (c m : Nat) (w0 w : World) (hm : Hid (m = L.length)) (o : Hid (Own w B 60 3 A m c (cgsC L))) (ls : Hid (∀ x ∈ L, Sl w0 1 x.t.A x.t.l.length x.t.c (wds x.t.l))) (x0 : Hid (Ext w0 w)) (hb : Hid (w0.heap.size ≤ B)) (h9 : m ≤ 1000000) :
    Calls Tryz.prog 147 #[.slice A m c, .func (.func 148) #[] #[]] w (SortOutC L B A c m w) := by
  rcases Nat.eq_zero_or_pos m with h | h
  · subst h
    have hl : L = [] := List.eq_nil_of_length_eq_zero hm.out.symm
    subst hl
    refine (sortC_nil A c _ w).mono ?_
    rintro e w' ⟨rfl, rfl⟩
    exact ⟨rfl, [], List.Perm.nil, List.Pairwise.nil, o.out, Upd.refl _ _⟩
  · obtain ⟨g, rfl, hg, hB, _⟩ := o.out.form h
    exact sort_chgs L B g c m w0 w hm.out h o.out ls.out x0.out (Nat.le_trans hb.out hB) h9 hB
end Go.Proofs.YtdgbkpoickbidaaGreatDoor
namespace Go.Proofs.YtdgbkpoickbidaaGreatDoor
open Go.RowKit

/-! ### plain -/
def addAll (D : List CV) (l : List CV) : List CV := l.foldl addC D
theorem addAll_take {D l : List CV} {k : Nat} (h : k < l.length) : addAll D (l.take (k + 1)) = addC (addAll D (l.take k)) l[k] := by
  unfold addAll
  rw [List.take_succ_eq_append_getElem h, List.foldl_append]; rfl
theorem told_map (L M : List Tm) (d : Int) : (toldK L M d L.length).map Cg.cv = ((L.map Tm.v).filter fun t => !(decide (t ∈ M.map Tm.v))).map fun t => (t, d) := by
  unfold toldK
  rw [List.take_length, List.filter_map, List.map_map, List.map_map]
  have e : ((fun t => !(decide (t ∈ M.map Tm.v))) ∘ Tm.v) = fun x : Tm => !inL M x.v := by
    funext x
    show (!(decide (x.v ∈ M.map Tm.v))) = !inL M x.v
    congr 1
    rw [Bool.eq_iff_iff, inL_iff, decide_eq_true_iff]
  rw [e]
  rfl
theorem moved_of {was now : List TV} (hw : Rising was) (hn : Rising now) {R : List Cg} (hp : (R.map Cg.cv).Perm (movedL was now)) (hs : R.Pairwise fun x y => tcmp x.t.v y.t.v ≤ 0) : R.map Cg.cv = movedV was now := by
  refine moved_unique hw hn ?_ fun x => hp.mem_iff
  have hk : KeysC (R.map Cg.cv) := by
    have h1 := movedL_keys hw hn
    unfold KeysC at *
    exact (hp.pairwise_iff (fun {x y} (h : x.1 ≠ y.1) => Ne.symm h)).2 h1
  unfold RisingC KeysC at *
  rw [List.pairwise_map] at *
  refine List.Pairwise.imp₂ (fun {x y} a b => ?_) hs hk
  have h0 : tcmp x.t.v y.t.v ≠ 0 := fun e => b (tcmp_zero.1 e)
  show tcmp x.t.v y.t.v < 0
  omega
theorem upd_turn {w w' : World} {b : Nat} (u : Upd (fun k => k = b) w w') : w.grownBy w' (some b) := ⟨u.os, u.tape, u.output, u.size, fun i hi hne => u.block i hi (fun e => hne (by rw [e]))⟩
theorem MapC.mono {w : World} {b n n' : Nat} {D : DataW Value} {L : List Cg} (h : MapC w b n D L) (hn : n ≤ n') : MapC w b n' D L := ⟨h.own.mono hn, h.has, h.atk, h.keys, h.ls, h.inv, Nat.le_trans h.cnt hn⟩
theorem turn_upd {w w' : World} {b : Nat} (u : w.mapTurned w' b) : Upd (fun k => k = b) w w' := (Upd.refl _ w).grown u.grown (fun k hk => .inl (by injection hk with hk; exact hk.symm))
theorem insT_len (v : TV) : ∀ M, (insT v M).length ≤ M.length + 1
  | [] => Nat.le_refl _
  | m :: r => by
    unfold insT
    split
    · exact Nat.le_refl _
    · split
      · exact Nat.le_succ _
      · have := insT_len v r
        simp only [List.length_cons]
        omega
theorem ofV_len (L : List TV) : (ofV L).length ≤ L.length := by
  have key : ∀ L : List TV, (L.foldr insT []).length ≤ L.length := by
    intro L
    induction L with
    | nil => exact Nat.le_refl _
    | cons v L ih =>
      rw [List.foldr_cons]
      have := insT_len v (L.foldr insT [])
      rw [List.length_cons]
      omega
  unfold ofV
  exact Nat.le_trans (key _) (List.length_filter_le _ _)
theorem live_len (D : List CV) : (liveV D).length ≤ D.length := by unfold liveV; rw [List.length_map]; exact List.length_filter_le _ _
/-- the blocks in which the counts' counters lie -/
def FootC (L : List Cg) (k : Nat) : Prop := ∃ x ∈ L, 0 < x.t.l.length ∧ blk x.t.A x.t.c = some k
/-- what Update answers -/
structure UpdOutI (w : World) (bm n m : Nat) (L Ch : List Cg) (A : Option Addr) (c q : Nat) (R : List Cg) (D' : DataW Value) (L' : List Cg) (w' : World) : Prop where
  len : q = R.length
  out : Cin w' A c R
  is : R.map Cg.cv = movedV (ofV (liveV (L.map Cg.cv))) (ofV (liveV (addAll (L.map Cg.cv) (Ch.map Cg.cv))))
  map : MapC w' bm (n + m) D' L'
  now : L'.map Cg.cv = addAll (L.map Cg.cv) (Ch.map Cg.cv)
  upd : Upd (fun k => k = bm) w w'
  foot : ∀ k, FootC L' k → FootC L k ∨ w.heap.size ≤ k
  own : Own w' w.heap.size 60 3 A q c (cgsC R)
  far : ∀ x ∈ R, ∀ k, blk x.t.A x.t.c = some k → w.heap.size ≤ k
def UpdOut (w : World) (bm n m : Nat) (L Ch : List Cg) (e : Ending) (w' : World) : Prop := ∃ A c q R D' L', e = .returned (.slice A q c) ∧ UpdOutI w bm n m L Ch A c q R D' L' w'
set_option maxRecDepth 100000 in
set_option maxHeartbeats 16000000 in
theorem update_any (w00 : World) (gc bm n : Nat) (D : DataW Value) (L : List Cg) (AC : Option Addr) (cC m : Nat) (Ch : List Cg) (w : World) (G : Pow w00) (X00 : Hid (Ext w00 w)) (hbm : Hid (w00.heap.size ≤ bm)) (hc : Hid (Bk w gc 178 #[.map (some bm)])) (hM : Hid (MapC w bm n D L))
    (hm : Hid (m = Ch.length)) (hC : Hid (Cin w AC cC Ch)) (hV : Hid (∀ x ∈ Ch, InV x.t.v)) (hn : n ≤ 10000) (hm9 : m ≤ 10000) :
    Calls Tryz.prog 32 #[.pointer (some ⟨gc, 0, none⟩), .slice AC m cC] w (UpdOut w bm n m L Ch) := by
  have HB : Hid (bm < w.heap.size) := Lib.hid hM.out.own.lt
  have HMap := Lib.hid (owns_map hM.out.own)
  have HGC : Hid (gc ≠ bm) := Lib.hid (fun e => by
    obtain ⟨es, cl, h⟩ := HMap.out
    have h2 := hc.out
    unfold Bk at h2
    rw [e, h] at h2
    cases h2)
  go_enter Tryz.func32, Tryz.ntmps32
  go_wp2_with (first
    | (go_at_call 34; go_loud (refine (frontier_any gc bm n D L _ hc hM (by omega)).mono ?_); rintro r w1 ⟨A1, c1, n1, M1, rfl, h1, t1, v1, x1⟩; have HN1 := Lib.hid h1; have HT1 := Lib.hid t1; have HV1 := Lib.hid v1; have X1 := Lib.hid x1; clear h1 t1 v1 x1))
  go_loopg [17] m (fun z v17 wr => ∃ (k : Nat) (D' : DataW Value) (L' : List Cg), z = m - k ∧ k ≤ m ∧ v17 = .int .i64 k ∧ Hid (MapC wr bm (n + k) D' L') ∧ Hid (L'.map Cg.cv = addAll (L.map Cg.cv) ((Ch.map Cg.cv).take k)) ∧ Hid (Upd (fun b => b = bm) w1 wr) ∧ Hid (∀ k, FootC L' k → FootC L k ∨ w.heap.size ≤ k))
  case atStart => exact ⟨0, D, L, rfl, Nat.zero_le _, rfl, Lib.hid (hM.out.ext X1.out), Lib.hid (by simp [addAll]), Lib.hid (Upd.refl _ _), Lib.hid (fun k hk => .inl hk)⟩
  case round =>
    obtain ⟨k, D', L', rfl, hk, rfl, HMr, HLr, HU, HF⟩ := hrel
    have HUw : Hid (Upd (fun b => b = bm) w wr) := Lib.hid ((Upd.ext X1.out).trans HU.out)
    have HX0 : Hid (Ext w00 wr) := Lib.hid (ext_upd X00.out HUw.out (fun k hk => by rw [hk]; exact hbm.out))
    have HCr : Hid (Bk wr gc 178 #[.map (some bm)]) := Lib.hid (bk_upd hc.out HUw.out HGC.out)
    have HCin : Hid (Cin wr AC cC Ch) := Lib.hid ⟨hC.out.sl.turned (upd_turn HUw.out) HMap.out, fun x hx => (hC.out.ls x hx).turned (upd_turn HUw.out) HMap.out⟩
    by_cases hlt : k < m
    · have hkL : k < Ch.length := by rw [← hm.out]; exact hlt
      obtain ⟨ad, rfl, q0, q1, q2⟩ := HCin.out.at (i := k) hkL
      have hmem := getG_mem hkL
      have HXS : Hid (Sl wr 1 (Ch.getD k Cg.zero).t.A (Ch.getD k Cg.zero).t.l.length (Ch.getD k Cg.zero).t.c (wds (Ch.getD k Cg.zero).t.l)) := Lib.hid (HCin.out.ls _ hmem)
      have hinv := hV.out _ hmem
      have hcv := getG_cv hkL
      obtain ⟨x, hx⟩ : ∃ x, Ch.getD k Cg.zero = x := ⟨_, rfl⟩
      rw [hx] at q0 q1 q2 HXS hinv hcv
      have HI := Lib.hid hinv
      have HCV := Lib.hid hcv
      clear hx hmem hinv hcv hkL
      obtain ⟨⟨e, Ax, cx, l⟩, d⟩ := x
      obtain ⟨nx, hnx⟩ : ∃ nx, l.length = nx := ⟨_, rfl⟩
      have HNX := Lib.hid hnx
      replace q0 : wr.cell? (ad.add (k * 3)) = some (.int .u64 e) := q0
      replace q1 : wr.cell? ⟨(ad.add (k * 3)).block, (ad.add (k * 3)).off + 1, none⟩ = some (.slice Ax l.length cx) := q1
      replace q2 : wr.cell? ⟨(ad.add (k * 3)).block, (ad.add (k * 3)).off + 2, none⟩ = some (.int .i64 d) := q2
      replace HXS : Hid (Sl wr 1 Ax l.length cx (wds l)) := HXS
      replace HI : Hid (InV (e, l)) := HI
      rw [hnx] at q1 HXS
      have hnx9 : nx ≤ 1000 := by rw [← hnx]; exact HI.out.n
      clear hnx
      obtain ⟨S, hS⟩ : ∃ S, prT e l = S := ⟨_, rfl⟩
      have HS := Lib.hid hS
      have hprint : ∀ W, Ext wr W → Calls Tryz.prog 141 #[.agg #[.int .u64 e, .slice Ax nx cx]] W fun r w' => r = .returned (.string S) ∧ Ext W w' := fun W y => hS ▸ print_any e Ax nx cx l W (HXS.out.ext y) HI.out.u HI.out.e (by omega) (G.ext (HX0.out.trans y))
      have HP := Lib.hid hprint
      clear hprint hS
      obtain ⟨y, hy⟩ : ∃ y, atC L' (e, l) = y := ⟨_, rfl⟩
      have hlook : ∀ W, Ext wr W → (Instr.lookup 176 (.map (some bm)) (.string S) false).run Tryz.prog W = .ok (cgV y) W := fun W z => by rw [← hy, ← HS.out]; exact (HMr.out.ext z).look HI.out
      have HY := Lib.hid hy
      clear hy
      obtain ⟨⟨ye, yA, yc, yl⟩, yd⟩ := y
      obtain ⟨yn, hyn⟩ : ∃ yn, yl.length = yn := ⟨_, rfl⟩
      unfold cgV at hlook
      simp only [hyn] at hlook
      have HLk := Lib.hid hlook
      clear hlook hyn
      obtain ⟨nn, hnn⟩ : ∃ nn, IntKind.i64.wrap (d + yd) = nn := ⟨_, rfl⟩
      have hw64 : wrap64 (d + yd) = nn := by rw [← hnn, IntKind.wrap_i64]; unfold wrap64; omega
      have HNN : Hid (IntKind.i64.wrap (d + yd) = nn) := Lib.hid hnn
      have XY : Hid (Ext wr (wr.alloc (.cells #[.int .u64 e, .slice Ax nx cx, .int .i64 d] 60))) := Lib.hid ((Ext.refl _).alloc _)
      have BX : Hid (Bk (wr.alloc (.cells #[.int .u64 e, .slice Ax nx cx, .int .i64 d] 60)) wr.heap.size 60 #[.int .u64 e, .slice Ax nx cx, .int .i64 d]) := Lib.hid (Bk.new wr _ _)
      go_wp2_with (first
        | (go_at_call 141; go_loud (refine (HP.out _ XY.out).mono ?_); rintro r w3 ⟨rfl, x3⟩; have X3 : Hid (Ext wr w3) := Lib.hid (XY.out.trans x3); have B3 : Hid (Bk w3 wr.heap.size 60 #[.int .u64 e, .slice Ax nx cx, .int .i64 d]) := Lib.hid (BX.out.ext x3); clear x3))
      have X : Ext w3 w3.drew := (Ext.refl w3).drew
      have y0 : ∀ y : Xt w3.drew, y.W.cell? ⟨wr.heap.size, 2, none⟩ = some (.int .i64 d) := fun y => (B3.out.ext (X.trans y.x)).cell 2
      have y1 : ∀ y : Xt w3.drew, y.W.cell? ⟨gc, 0, none⟩ = some (.map (some bm)) := fun y => (HCr.out.ext ((X3.out.trans X).trans y.x)).cell 0
      have y2 : ∀ y : Xt w3.drew, (Instr.lookup 176 (.map (some bm)) (.string S) false).run Tryz.prog y.W = .ok (.agg #[.int .u64 ye, .slice yA yn yc, .int .i64 yd]) y.W := fun y => HLk.out _ ((X3.out.trans X).trans y.x)
      have y3 : ∀ w : World, (Instr.field 60 (.agg #[.int .u64 ye, .slice yA yn yc, .int .i64 yd]) 1).run Tryz.prog w = .ok (.int .i64 yd) w := fun _ => by kernel_rfl
      clear q0 q1 q2
      refine wp_region_ord [0,1,0,4,12,28,0,124,252,511,1023] (.flo [0,1,2,3,4,5,6,7,8,9,10] (.fin)) (by kernel_rfl) (by kernel_rfl) (by intro _ _ d _ _ h; cases d <;> exact h) ?_
      (refine ord_flo (pick_cons rfl (pick_cons rfl (pick_cons rfl (pick_cons rfl (pick_cons rfl (pick_cons rfl (pick_cons rfl (pick_cons rfl (pick_cons rfl (pick_cons rfl (pick_cons rfl pick_nil))))))))))) ?_; (repeat (go_big_quiet_step (fail))); refine wpQuiet_nil ?_; show ordWalk _ _ _ _ _ _ _)
      refine ord_fin ?_
      clear y0 y1 y2 y3 hnn hw64
      have XD : Hid (Ext wr w3.drew) := Lib.hid (X3.out.trans X)
      have hkey : Hid (keyOf Tryz.prog 9 (.string S) = some (keyT (e, l))) := Lib.hid (by rw [← HS.out]; exact keyOf_prT (e, l) HI.out)
      have HYD : Hid (IntKind.i64.wrap (d + (atC L' (e, l)).d) = nn) := Lib.hid (by rw [HY.out]; exact HNN.out)
      have hgc : w3.drew.cell? ⟨gc, 0, none⟩ = some (.map (some bm)) := (HCr.out.ext XD.out).cell 0
      by_cases h0 : nn = 0
      · subst h0
        go_wp2_with (first
          | (at_delete; go_loud (refine wpList_delete_own _ rfl _ _ 176 9 rfl 60 keyedS Tryz.underlying176 tok bm (n + k) D' rfl (HMr.out.ext XD.out).own (.string S) (keyT (e, l)) rfl hkey.out ?_); intro w5 hown5 hturn5; have HO5 := Lib.hid hown5; have HT5 := Lib.hid hturn5; clear hown5 hturn5))
        go_roundg (m - (k + 1))
        case measure => omega
        case rel =>
          obtain ⟨h1, h2⟩ := HCV.out
          refine ⟨k + 1, _, _, by omega, by omega, by go_num, Lib.hid (((HMr.out.ext XD.out).del HI.out HO5.out HT5.out).mono (by omega)), Lib.hid ?_, Lib.hid ((HU.out.trans (Upd.ext XD.out)).trans (turn_upd HT5.out)), Lib.hid ?_⟩
          · rw [addC_map0 L' (e, l) d HYD.out, HLr.out, addAll_take h1, h2]
            rfl
          · rintro b ⟨x, hx, hb⟩
            exact HF.out b ⟨x, (List.mem_filter.1 hx).1, hb⟩
      · have hne : (nn == 0) = false := by simpa using h0
        have H0 := Lib.hid h0
        clear h0
        go_wp2
        obtain ⟨w4, hw4⟩ : ∃ w4, w4 = w3.drew := ⟨_, rfl⟩
        rw [← hw4] at XD ⊢
        have B4 : Bk w4 wr.heap.size 60 #[.int .u64 e, .slice Ax nx cx, .int .i64 d] := by rw [hw4]; exact B3.out.ext X
        have HB4 := Lib.hid B4
        clear B4 hgc hw4 X
        have X : Ext w4 w4.drew := (Ext.refl w4).drew
        have y0 : ∀ y : Xt w4.drew, y.W.cell? ⟨wr.heap.size, 0, none⟩ = some (.int .u64 e) := fun y => (HB4.out.ext (X.trans y.x)).cell 0
        have y1 : ∀ y : Xt w4.drew, y.W.cell? ⟨wr.heap.size, 1, none⟩ = some (.slice Ax nx cx) := fun y => (HB4.out.ext (X.trans y.x)).cell 1
        have y2 : ∀ y : Xt w4.drew, y.W.cell? ⟨gc, 0, none⟩ = some (.map (some bm)) := fun y => (HCr.out.ext ((XD.out.trans X).trans y.x)).cell 0
        refine wp_region_ord [0,1,3,7,0,0,32,96,0,480,1023] (.flo [0,1,2,3,4,5,6,8] (.ext 7 (.flo [9] (.one 10 (.fin))))) (by kernel_rfl) (by kernel_rfl) (by intro _ _ d _ _ h; cases d <;> exact h) ?_
        (refine ord_flo (pick_cons rfl (pick_cons rfl (pick_cons rfl (pick_cons rfl (pick_cons rfl (pick_cons rfl (pick_cons rfl (pick_cons rfl pick_nil)))))))) ?_; (repeat (go_big_quiet_step (fail))); refine wpQuiet_nil ?_; show ordWalk _ _ _ _ _ _ _)
        refine ord_ext (pick_cons rfl pick_nil) ?_; intro K_ hK_
        go_wp2_with (first
          | (go_at_call 142; go_loud (refine (copied_any e Ax nx cx l _ (Lib.hid (HXS.out.ext (XD.out.trans X))) (by omega)).mono ?_); rintro r w5 ⟨A5, c5, rfl, o5, x5⟩; have HO5 := Lib.hid o5; have X5 := Lib.hid x5; clear o5 x5))
        refine ordNext.mk X5.out ?_
        (refine ord_flo (pick_cons rfl pick_nil) ?_; (repeat (go_big_quiet_step (fail))); refine wpQuiet_nil ?_; show ordWalk _ _ _ _ _ _ _)
        refine ord_one (pick_cons rfl pick_nil) ?_; intro K_ hK_
        have hcg : cgV ⟨⟨e, A5, c5, l⟩, nn⟩ = .agg #[.int .u64 e, .slice A5 nx c5, .int .i64 nn] := by rw [← HNX.out]; rfl
        have HCG := Lib.hid hcg
        clear hcg
        have XE : Hid (Ext wr w5) := Lib.hid ((XD.out.trans X).trans X5.out)
        go_wp2_with (first
          | (at_mapUpdate; go_loud (refine wpList_mapUpdate_in _ rfl _ _ _ 176 rfl 9 60 keyedS Tryz.underlying176 tok bm (n + k) D' rfl (HMr.out.ext XE.out).own (by unfold maxLen; omega) (.string S) (cgV ⟨⟨e, A5, c5, l⟩, nn⟩) (keyT (e, l)) rfl (by rw [HCG.out]; rfl) hkey.out (.held (cgV ⟨⟨e, A5, c5, l⟩, nn⟩)) [] rfl ?_); intro w6 hown6 hturn6; have HO6 := Lib.hid hown6; have HT6 := Lib.hid hturn6; clear hown6 hturn6))
        refine ord_fin ?_
        go_simp
        go_wp2
        go_roundg (m - (k + 1))
        case measure => omega
        case rel =>
          obtain ⟨h1, h2⟩ := HCV.out
          refine ⟨k + 1, _, _, by omega, by omega, by go_num, Lib.hid ((HMr.out.ext XE.out).put (x := ⟨⟨e, A5, c5, l⟩, nn⟩) HI.out HO6.out HT6.out (by show Sl w5 1 A5 l.length c5 (wds l); rw [HNX.out]; exact HO5.out.sl)), Lib.hid ?_, Lib.hid ((HU.out.trans (Upd.ext XE.out)).trans (turn_upd HT6.out)), Lib.hid ?_⟩
          · rw [addC_map L' ⟨⟨e, A5, c5, l⟩, nn⟩ d HYD.out H0.out, HLr.out, addAll_take h1, h2]
            rfl
          · rintro b ⟨x, hx, hb⟩
            rcases List.mem_append.1 hx with hx | hx
            · exact HF.out b ⟨x, (List.mem_filter.1 hx).1, hb⟩
            · rw [List.mem_singleton] at hx
              subst hx
              have a := (HO5.out.lt b hb.2).1
              have c := XD.out.size
              have c2 := X.size
              have c3 := HUw.out.size
              exact .inr (by omega)
    · obtain rfl : k = m := by omega
      have HLf : Hid (L'.map Cg.cv = addAll (L.map Cg.cv) (Ch.map Cg.cv)) := Lib.hid (by have := HLr.out; rwa [show k = (Ch.map Cg.cv).length by rw [List.length_map]; exact hm.out, List.take_length] at this)
      have HT1r : Hid (Tout wr w.heap.size A1 c1 M1) := Lib.hid (HT1.out.upd HU.out (fun b hb q => by have := HB.out; omega))
      have hn1m : n1 ≤ 10000 := by
        have a : M1.length = (ofV (liveV (L.map Cg.cv))).length := by rw [← HV1.out, List.length_map]
        have b := ofV_len (liveV (L.map Cg.cv))
        have c := live_len (L.map Cg.cv)
        rw [List.length_map] at c
        have d := hM.out.cnt
        have e := HN1.out
        omega
      have m1 : True := trivial
      go_wp2_with (first
        | (go_at_call 34; go_loud (refine (frontier_any gc bm (n + k) D' L' _ HCr HMr (by omega)).mono ?_); rintro r w5 ⟨A2, c2, n2, M2, rfl, h2, t2, v2, x2⟩; have HN2 := Lib.hid h2; have HT2 := Lib.hid t2; have HV2 := Lib.hid v2; have X2 := Lib.hid x2; clear h2 t2 v2 x2; have hn2m : n2 ≤ 20000 := (by have a : M2.length = (ofV (liveV (L'.map Cg.cv))).length := (by rw [← HV2.out, List.length_map]); have b := ofV_len (liveV (L'.map Cg.cv)); have c := live_len (L'.map Cg.cv); rw [List.length_map] at c; have d := HMr.out.cnt; have e := HN2.out; omega); have HTi1 : Hid (Tin w5 A1 c1 M1) := Lib.hid (HT1r.out.tin.ext X2.out); have HTi2 : Hid (Tin w5 A2 c2 M2) := Lib.hid HT2.out.tin; have BO : Hid (Bk (w5.alloc (.cells #[.slice none 0 0] 58)) w5.heap.size 58 #[.slice none 0 0]) := Lib.hid (Bk.new _ _ _))
        | (go_at_call 143; have mk := m1; clear m1 mk; go_loud (refine (tell_any w5 w5.heap.size (w5.heap.size + 1) A1 A2 c1 c2 n1 n2 M1 M2 (-1) none 0 0 [] _ HN1 HN2 HTi1 HTi2 (Lib.hid ((Ext.refl _).alloc _)) (Lib.hid (Nat.le_refl _)) (Lib.hid (Nat.lt_succ_self _)) BO (Lib.hid rfl) (Lib.hid (Own.nil _ _ _ _)) (Lib.hid (by simp)) (by omega) (by omega)).mono ?_); rintro r w6 ⟨rfl, A6, c6, n6, h6, b6, o6, x6⟩; rw [List.nil_append] at h6 o6; have HN6 := Lib.hid h6; have HB6 := Lib.hid b6; have HO6 := Lib.hid o6; have X6 := Lib.hid x6; have hn6 : n6 ≤ 10000 := (by have a := toldK_len M1 M2 (-1) n1; omega); have hb6 : w5.heap.size + 1 ≤ w6.heap.size := b6.lt; clear h6 b6 o6 x6; have m2 : True := trivial)
        | (go_at_call 143; have mk := m2; clear m2 mk; go_loud (refine (tell_any w5 w5.heap.size (w5.heap.size + 1) A2 A1 c2 c1 n2 n1 M2 M1 1 A6 c6 n6 (toldK M1 M2 (-1) n1) _ HN2 HN1 HTi2 HTi1 X6 (Lib.hid (Nat.le_refl _)) (Lib.hid (Nat.lt_succ_self _)) HB6 HN6 HO6 (Lib.hid hb6) (by omega) (by omega)).mono ?_); rintro r w7 ⟨rfl, A7, c7, n7, h7, b7, o7, x7⟩; have HN7 := Lib.hid h7; have HB7 := Lib.hid b7; have HO7 := Lib.hid o7; have X7 := Lib.hid x7; have hn7 : n7 ≤ 30000 := (by have a := toldK_len M1 M2 (-1) n1; have b := toldK_len M2 M1 1 n2; rw [List.length_append] at h7; omega); have q7 : w7.cell? ⟨w5.heap.size, 0, none⟩ = some (.slice A7 n7 c7) := b7.cell 0; clear h7 b7 o7 x7)
        | (go_at_call 147; go_loud (refine (sortC_any _ (w5.heap.size + 1) A7 c7 n7 w5 _ HN7 HO7 (Lib.hid (fun x hx => (by rcases List.mem_append.1 hx with hx | hx <;> obtain ⟨y, hy, rfl⟩ := List.mem_map.1 hx; exact HTi1.out.ls y (List.mem_of_mem_take (List.mem_filter.1 hy).1); exact HTi2.out.ls y (List.mem_of_mem_take (List.mem_filter.1 hy).1)))) X7 (Lib.hid (Nat.le_succ _)) (by omega)).mono ?_); rintro r w8 ⟨rfl, R, hp, hs, o8, u8⟩; have HP := Lib.hid hp; have HS := Lib.hid hs; have HO8 := Lib.hid o8; have X8 : Hid (Ext w5 w8) := Lib.hid (ext_upd X7.out u8 (fun b hb => (by omega))); have q8 : w8.cell? ⟨w5.heap.size, 0, none⟩ = some (.slice A7 n7 c7) := (bk_upd HB7.out u8 (fun hb => (by omega))).cell 0; clear hp hs o8 u8))
      go_ret
      have hperm := HP.out
      have hlen : n7 = R.length := by rw [hperm.length_eq]; exact HN7.out
      have hfin : Upd (fun b => b = bm) w w8 := HUw.out.trans (Upd.ext (X2.out.trans X8.out))
      refine ⟨A7, c7, n7, R, D', L', rfl, hlen, ⟨by rw [← hlen]; exact HO8.out.sl, fun x hx => ?_⟩, ?_, HMr.out.ext (X2.out.trans X8.out), HLf.out, hfin, HF.out, HO8.out.mono (by have a := HUw.out.size; have b := X2.out.size; omega), fun x hx k hk => ?_⟩
      · have hx2 := hperm.mem_iff.1 hx
        rcases List.mem_append.1 hx2 with hx | hx
        · obtain ⟨y, hy, rfl⟩ := List.mem_map.1 hx
          exact (HTi1.out.ls y (List.mem_of_mem_take (List.mem_filter.1 hy).1)).ext X8.out
        · obtain ⟨y, hy, rfl⟩ := List.mem_map.1 hx
          exact (HTi2.out.ls y (List.mem_of_mem_take (List.mem_filter.1 hy).1)).ext X8.out
      · have h1 : (R.map Cg.cv).Perm (movedL (ofV (liveV (L.map Cg.cv))) (ofV (liveV (addAll (L.map Cg.cv) (Ch.map Cg.cv))))) := by
          have a := hperm.map Cg.cv
          rw [List.map_append, HN1.out, HN2.out, told_map, told_map, HV1.out, HV2.out, HLf.out] at a
          exact a
        exact moved_of (ofV_is _).rising (ofV_is _).rising h1 HS.out
      · have hx2 := hperm.mem_iff.1 hx
        rcases List.mem_append.1 hx2 with hx | hx
        · obtain ⟨y, hy, rfl⟩ := List.mem_map.1 hx
          exact ((HT1r.out.ls y (List.mem_of_mem_take (List.mem_filter.1 hy).1)).1.lt k hk).1
        · obtain ⟨y, hy, rfl⟩ := List.mem_map.1 hx
          have a := ((HT2.out.ls y (List.mem_of_mem_take (List.mem_filter.1 hy).1)).1.lt k hk).1
          have b := HUw.out.size
          omega
end Go.Proofs.YtdgbkpoickbidaaGreatDoor
namespace Go.Proofs.YtdgbkpoickbidaaGreatDoor
open Go.RowKit

set_option maxRecDepth 100000 in
set_option maxHeartbeats 2000000 in
theorem chcount_any (gc bm n : Nat) (D : DataW Value) (L : List Cg) (e : Int) (A : Option Addr) (nx c : Nat) (l : List Int) (w : World) (G : Pow w) (hc : Hid (Bk w gc 178 #[.map (some bm)])) (hM : Hid (MapC w bm n D L)) (ht : Hid (Sl w 1 A nx c (wds l))) (hv : Hid (InV (e, l))) (hnx : nx ≤ 1000) :
    Calls Tryz.prog 39 #[.pointer (some ⟨gc, 0, none⟩), .agg #[.int .u64 e, .slice A nx c]] w fun r w' => r = .returned (.int .i64 (getC (L.map Cg.cv) (e, l))) ∧ Ext w w' := by
  rw [← atC_d]
  obtain ⟨S, hS⟩ : ∃ S, prT e l = S := ⟨_, rfl⟩
  have hprint : ∀ W, Ext w W → Calls Tryz.prog 141 #[.agg #[.int .u64 e, .slice A nx c]] W fun r w' => r = .returned (.string S) ∧ Ext W w' := fun W y => hS ▸ print_any e A nx c l W (ht.out.ext y) hv.out.u hv.out.e (by omega) (G.ext y)
  have HP := Lib.hid hprint
  have HS := Lib.hid hS
  clear hprint hS
  obtain ⟨y, hy⟩ : ∃ y, atC L (e, l) = y := ⟨_, rfl⟩
  have hlook : ∀ W, Ext w W → (Instr.lookup 176 (.map (some bm)) (.string S) false).run Tryz.prog W = .ok (cgV y) W := fun W z => by rw [← hy, ← HS.out]; exact (hM.out.ext z).look hv.out
  have HY := Lib.hid hy
  rw [hy]
  clear hy
  obtain ⟨⟨ye, yA, yc, yl⟩, yd⟩ := y
  obtain ⟨yn, hyn⟩ : ∃ yn, yl.length = yn := ⟨_, rfl⟩
  unfold cgV at hlook
  simp only [hyn] at hlook
  have HLk := Lib.hid hlook
  clear hlook hyn
  go_enter Tryz.func39, Tryz.ntmps39
  go_wp2
  obtain ⟨w1, hw1⟩ : ∃ w1, w1 = w.alloc (.cells #[.int .u64 e, .slice A nx c] 26) := ⟨_, rfl⟩
  rw [← hw1]
  have X1 : Hid (Ext w w1) := Lib.hid (by rw [hw1]; exact (Ext.refl _).alloc _)
  have B1 : Hid (Bk w1 w.heap.size 26 #[.int .u64 e, .slice A nx c]) := Lib.hid (by rw [hw1]; exact Bk.new _ _ _)
  clear hw1
  have y0 : ∀ y : Xt w1, y.W.cell? ⟨gc, 0, none⟩ = some (.map (some bm)) := fun y => (hc.out.ext (X1.out.trans y.x)).cell 0
  have y1 : ∀ y : Xt w1, y.W.cell? ⟨w.heap.size, 0, none⟩ = some (.int .u64 e) := fun y => (B1.out.ext y.x).cell 0
  have y2 : ∀ y : Xt w1, y.W.cell? ⟨w.heap.size, 1, none⟩ = some (.slice A nx c) := fun y => (B1.out.ext y.x).cell 1
  have y3 : ∀ y : Xt w1, (Instr.lookup 176 (.map (some bm)) (.string S) false).run Tryz.prog y.W = .ok (.agg #[.int .u64 ye, .slice yA yn yc, .int .i64 yd]) y.W := fun y => HLk.out _ (X1.out.trans y.x)
  have y4 : ∀ w : World, (Instr.field 60 (.agg #[.int .u64 ye, .slice yA yn yc, .int .i64 yd]) 1).run Tryz.prog w = .ok (.int .i64 yd) w := fun _ => by kernel_rfl
  (refine wp_region_ext (by kernel_rfl) (by kernel_rfl) ?_; (repeat (go_big_quiet_step ((go_at_call 141; exact call_ext (HP.out _ (X1.out.trans (Xt.x _))))))); refine wpQuiet_nil ?_; rintro _ ⟨y, rfl⟩)
  go_wp2
  go_ret
  exact ⟨rfl, X1.out.trans y.x⟩
end Go.Proofs.YtdgbkpoickbidaaGreatDoor
namespace Go.Proofs.YtdgbkpoickbidaaGreatDoor
open Go.RowKit

def addR (D : List CV) (x : CV) : List CV := if x.1 ∈ D.map (·.1) then D.map (fun y => if y.1 = x.1 then (y.1, IntKind.i64.wrap (y.2 + x.2)) else y) else D ++ [x]
theorem addR_keys {D : List CV} (h : KeysC D) (x : CV) : KeysC (addR D x) := by
  unfold addR
  split
  · unfold KeysC at *
    rw [List.pairwise_map]
    refine List.Pairwise.imp (fun {a b} q => ?_) h
    split <;> split <;> simpa using q
  · rename_i hn
    unfold KeysC at *
    refine List.pairwise_append.2 ⟨h, List.pairwise_singleton _ _, fun y hy z hz e => ?_⟩
    rw [List.mem_singleton] at hz
    subst hz
    exact hn (List.mem_map.2 ⟨y, hy, e⟩)
theorem addR_get {D : List CV} (h : KeysC D) {x : CV} (hx : IntKind.i64.wrap x.2 = x.2) (t : TV) : getC (addR D x) t = if t = x.1 then IntKind.i64.wrap (x.2 + getC D t) else getC D t := by
  have hk := addR_keys h x
  unfold addR at hk ⊢
  split at hk
  · rename_i hm
    rw [if_pos hm]
    rcases getC_cases D t with ⟨y, hy, rfl, hd⟩ | ⟨hno, h0⟩
    · have := getC_mem hk (List.mem_map.2 ⟨y, hy, rfl⟩)
      split
      · rename_i he
        rw [if_pos he] at this
        rw [this, hd, Int.add_comm]
      · rename_i he
        rw [if_neg he] at this
        rw [this, hd]
    · have hne : t ≠ x.1 := fun e => by
        obtain ⟨y, hy, e2⟩ := List.mem_map.1 hm
        exact hno y hy (e2.trans e.symm)
      rw [if_neg hne, h0]
      refine getC_none fun z hz e => ?_
      obtain ⟨y, hy, rfl⟩ := List.mem_map.1 hz
      refine hno y hy ?_
      split at e <;> exact e
  · rename_i hn
    rw [if_neg hn]
    by_cases he : t = x.1
    · rw [if_pos he, he]
      rw [getC_mem hk (x := x) (by simp), getC_none (D := D) (fun y hy e => hn (List.mem_map.2 ⟨y, hy, e⟩)), Int.add_zero, hx]
    · rw [if_neg he]
      rcases getC_cases D t with ⟨y, hy, rfl, hd⟩ | ⟨hno, h0⟩
      · rw [getC_mem hk (List.mem_append_left _ hy), hd]
      · rw [h0]
        refine getC_none fun z hz e => ?_
        rcases List.mem_append.1 hz with hz | hz
        · exact hno z hz e
        · rw [List.mem_singleton] at hz
          subst hz
          exact he e.symm
end Go.Proofs.YtdgbkpoickbidaaGreatDoor
namespace Go.Proofs.YtdgbkpoickbidaaGreatDoor
open Go.RowKit

def allR (D l : List CV) : List CV := l.foldl addR D
theorem allR_take {D l : List CV} {k : Nat} (h : k < l.length) : allR D (l.take (k + 1)) = addR (allR D (l.take k)) l[k] := by
  unfold allR
  rw [List.take_succ_eq_append_getElem h, List.foldl_append]; rfl
theorem allR_keys : ∀ (l : List CV) {D : List CV}, KeysC D → KeysC (allR D l)
  | [], _, h => h
  | x :: l, _, h => allR_keys l (addR_keys h x)
theorem addAll_keys : ∀ (l : List CV) {D : List CV}, KeysC D → KeysC (addAll D l)
  | [], _, h => h
  | x :: l, _, h => addAll_keys l (addC_keys h x)
/-- the document's counts tell what the program's do -/
theorem allR_get : ∀ (l : List CV) {D E : List CV}, KeysC D → KeysC E → (∀ t, getC D t = getC E t) → (∀ x ∈ l, IntKind.i64.wrap x.2 = x.2) → ∀ t, getC (allR D l) t = getC (addAll E l) t
  | [], _, _, _, _, h, _, t => h t
  | x :: l, D, E, hD, hE, h, hl, t => by
    refine allR_get l (addR_keys hD x) (addC_keys hE x) (fun s => ?_) (fun y hy => hl y (List.mem_cons_of_mem _ hy)) t
    rw [addR_get hD (hl x (by simp)), getC_addC, h s]
    split
    · rename_i e; rw [e]
    · rfl
/-- what has been told of the first so many -/
structure MovUp (V W : List TV) (i : Nat) (M : List CV) : Prop where
  rise : RisingC M
  mem : ∀ x, x ∈ M ↔ ∃ j, ∃ h : j < (V ++ W).length, j < i ∧ (V ++ W)[j] = x.1 ∧ ¬ (x.1 ∈ V ∧ x.1 ∈ W) ∧ x.2 = (if j < V.length then -1 else 1)
theorem MovUp.zero (V W : List TV) : MovUp V W 0 [] := ⟨List.Pairwise.nil, fun x => ⟨fun h => (nomatch h), fun ⟨_, _, h, _⟩ => absurd h (Nat.not_lt_zero _)⟩⟩
theorem MovUp.skip {V W : List TV} {i : Nat} {M : List CV} (h : MovUp V W i M) (hi : i < (V ++ W).length) (hb : (V ++ W)[i] ∈ V ∧ (V ++ W)[i] ∈ W) : MovUp V W (i + 1) M := by
  refine ⟨h.rise, fun x => (h.mem x).trans ⟨fun ⟨j, h1, h2, h3⟩ => ⟨j, h1, by omega, h3⟩, fun ⟨j, h1, h2, h3, h4, h5⟩ => ?_⟩⟩
  rcases Nat.lt_or_ge j i with q | q
  · exact ⟨j, h1, q, h3, h4, h5⟩
  · obtain rfl : j = i := by omega
    rw [h3] at hb
    exact absurd hb h4
theorem rising_inj {V : List TV} (h : Rising V) {i j : Nat} (hi : i < V.length) (hj : j < V.length) (e : V[i] = V[j]) : i = j := by
  have key := List.pairwise_iff_getElem.1 (rising_ne h)
  rcases Nat.lt_trichotomy i j with q | q | q
  · exact absurd e (key i j hi hj q)
  · exact q
  · exact absurd e.symm (key j i hj hi q)
theorem MovUp.fresh {V W : List TV} {i : Nat} {M : List CV} (hV : Rising V) (hW : Rising W) (h : MovUp V W i M) (hi : i < (V ++ W).length) (hb : ¬ ((V ++ W)[i] ∈ V ∧ (V ++ W)[i] ∈ W)) : ∀ y ∈ M, y.1 ≠ (V ++ W)[i] := fun y hy e => by
  obtain ⟨j, h1, h2, h3, h4, _⟩ := (h.mem y).1 hy
  rw [← h3] at e
  by_cases q1 : i < V.length
  · rw [List.getElem_append_left (by omega : j < V.length), List.getElem_append_left q1] at e
    have := rising_inj hV _ _ e
    omega
  · have qi : (V ++ W)[i] ∈ W := by rw [List.getElem_append_right (by omega)]; exact List.getElem_mem _
    by_cases q2 : j < V.length
    · refine hb ⟨?_, qi⟩
      rw [← e, List.getElem_append_left q2]
      exact List.getElem_mem _
    · rw [List.getElem_append_right (by omega), List.getElem_append_right (by omega)] at e
      have := rising_inj hW _ _ e
      omega
theorem MovUp.put {V W : List TV} {i : Nat} {M1 M2 : List CV} (hV : Rising V) (hW : Rising W) (h : MovUp V W i (M1 ++ M2)) (hi : i < (V ++ W).length) (hb : ¬ ((V ++ W)[i] ∈ V ∧ (V ++ W)[i] ∈ W)) {x : CV} (hx : x = ((V ++ W)[i], if i < V.length then -1 else 1))
    (h1 : ∀ y ∈ M1, tcmp y.1 x.1 < 0) (h2 : ∀ y, M2.head? = some y → ¬ tcmp y.1 x.1 < 0) : MovUp V W (i + 1) (M1 ++ [x] ++ M2) := by
  have hf := h.fresh hV hW hi hb
  have hx1 : x.1 = (V ++ W)[i] := by rw [hx]
  refine ⟨?_, fun y => ?_⟩
  · have hr := h.rise
    unfold RisingC at hr ⊢
    obtain ⟨r1, r2, r3⟩ := List.pairwise_append.1 hr
    have h3 : ∀ y ∈ M2, tcmp x.1 y.1 < 0 := by
      match M2, h2, r2, hf with
      | [], _, _, _ => intro y hy; cases hy
      | m :: r, h2, r2, hf =>
        have q := h2 m rfl
        have q2 := tcmp_neg m.1 x.1
        have q3 : tcmp m.1 x.1 ≠ 0 := fun e => hf m (by simp) ((tcmp_zero.1 e).trans hx1)
        obtain ⟨g1, _⟩ := List.pairwise_cons.1 r2
        intro y hy
        rcases List.mem_cons.1 hy with rfl | hy
        · omega
        · exact tcmp_lt_trans (by omega : tcmp x.1 m.1 < 0) (by have := g1 y hy; omega)
    refine List.pairwise_append.2 ⟨List.pairwise_append.2 ⟨r1, List.pairwise_singleton _ _, fun a ha b hb => ?_⟩, r2, fun a ha b hb => ?_⟩
    · rw [List.mem_singleton] at hb; subst hb; exact h1 a ha
    · rcases List.mem_append.1 ha with ha | ha
      · exact r3 a ha b hb
      · rw [List.mem_singleton] at ha; subst ha; exact h3 b hb
  · have key : y ∈ M1 ++ [x] ++ M2 ↔ y = x ∨ y ∈ M1 ++ M2 := by
      simp only [List.mem_append, List.mem_singleton]
      constructor
      · rintro ((q | q) | q)
        · exact .inr (.inl q)
        · exact .inl q
        · exact .inr (.inr q)
      · rintro (q | q | q)
        · exact .inl (.inr q)
        · exact .inl (.inl q)
        · exact .inr q
    rw [key, h.mem]
    constructor
    · rintro (rfl | ⟨j, g1, g2, g3⟩)
      · exact ⟨i, hi, by omega, hx1.symm, by rw [hx1]; exact hb, by rw [hx]⟩
      · exact ⟨j, g1, by omega, g3⟩
    · rintro ⟨j, g1, g2, g3, g4, g5⟩
      rcases Nat.lt_or_ge j i with q | q
      · exact .inr ⟨j, g1, q, g3, g4, g5⟩
      · obtain rfl : j = i := by omega
        refine .inl (Prod.ext (by rw [hx1, g3]) ?_)
        rw [hx, g5]
theorem MovUp.done {V W : List TV} {M : List CV} (hV : Rising V) (hW : Rising W) (h : MovUp V W (V ++ W).length M) : M = movedV V W := by
  refine moved_unique hV hW h.rise fun x => ?_
  rw [h.mem, moved_mem]
  constructor
  · rintro ⟨j, g1, g2, g3, g4, g5⟩
    by_cases q : j < V.length
    · rw [if_pos q] at g5
      have hm : x.1 ∈ V := by rw [← g3, List.getElem_append_left q]; exact List.getElem_mem _
      exact .inl ⟨hm, fun hn => g4 ⟨hm, hn⟩, g5⟩
    · rw [if_neg q] at g5
      have hm : x.1 ∈ W := by rw [← g3, List.getElem_append_right (by omega)]; exact List.getElem_mem _
      exact .inr ⟨hm, fun hn => g4 ⟨hn, hm⟩, g5⟩
  · rintro (⟨a, b, e⟩ | ⟨a, b, e⟩)
    · obtain ⟨j, hj, q⟩ := List.getElem_of_mem a
      exact ⟨j, by rw [List.length_append]; omega, by rw [List.length_append]; omega, by rw [List.getElem_append_left hj]; exact q, fun c => b c.2, by rw [if_pos hj]; exact e⟩
    · obtain ⟨j, hj, q⟩ := List.getElem_of_mem a
      refine ⟨V.length + j, by rw [List.length_append]; omega, by rw [List.length_append]; omega, ?_, fun c => b c.1, by rw [if_neg (by omega)]; exact e⟩
      rw [List.getElem_append_right (by omega)]
      simpa using q
end Go.Proofs.YtdgbkpoickbidaaGreatDoor
namespace Go.Proofs.YtdgbkpoickbidaaGreatDoor
open Go.RowKit

set_option maxRecDepth 100000 in
set_option maxHeartbeats 400000 in
theorem rleq_diff (e1 e2 : Int) (A1 A2 : Option Addr) (n1 n2 c1 c2 : Nat) (w : World) (hne : ((n1 : Int) != (n2 : Int)) = true) :
    Calls Tryz.prog 119 #[.agg #[.int .u64 e1, .slice A1 n1 c1], .agg #[.int .u64 e2, .slice A2 n2 c2]] w fun e w' => e = .returned (.bool false) ∧ Ext w w' := by
  go_enter Tryz.func119, Tryz.ntmps119
  go_wp2
  go_ret
  exact ⟨rfl, ((Ext.refl w).alloc _).alloc _⟩
set_option maxRecDepth 100000 in
set_option maxHeartbeats 400000 in
theorem rleq_late (e1 e2 : Int) (A1 A2 : Option Addr) (n c1 c2 : Nat) (w : World) (hlt : e2 < e1) :
    Calls Tryz.prog 119 #[.agg #[.int .u64 e1, .slice A1 n c1], .agg #[.int .u64 e2, .slice A2 n c2]] w fun e w' => e = .returned (.bool false) ∧ Ext w w' := by
  have he : ((n : Int) != (n : Int)) = false := by simp
  go_enter Tryz.func119, Tryz.ntmps119
  go_wp2
  go_ret
  exact ⟨rfl, ((Ext.refl w).alloc _).alloc _⟩
set_option maxRecDepth 100000 in
set_option maxHeartbeats 400000 in
theorem rleq_same (e1 e2 : Int) (A1 A2 : Option Addr) (n c1 c2 : Nat) (l1 l2 : List Int) (w : World) (h1 : Sl w 1 A1 n c1 (wds l1)) (h2 : Sl w 1 A2 n c2 (wds l2)) (hle : e1 ≤ e2) :
    Calls Tryz.prog 119 #[.agg #[.int .u64 e1, .slice A1 n c1], .agg #[.int .u64 e2, .slice A2 n c2]] w fun e w' => e = .returned (.bool (decide (∀ k, k < n → l1.getD k 0 ≤ l2.getD k 0))) ∧ Ext w w' := by
  have hm := h1.le
  have he : ((n : Int) != (n : Int)) = false := by simp
  go_enter Tryz.func119, Tryz.ntmps119
  go_wp2
  obtain ⟨w0, hw0⟩ : ∃ w0, w0 = (w.alloc (Obj.cells #[Value.int IntKind.u64 e1, Value.slice A1 n c1] 26)).alloc (Obj.cells #[Value.int IntKind.u64 e2, Value.slice A2 n c2] 26) := ⟨_, rfl⟩
  have e0 : Ext w w0 := hw0 ▸ ((Ext.refl w).alloc _).alloc _
  have b1 : w0.cell? ⟨w.heap.size, 1, none⟩ = some (Value.slice A1 n c1) := by subst hw0; go_simp
  have b2 : w0.cell? ⟨w.heap.size + 1, 1, none⟩ = some (Value.slice A2 n c2) := by subst hw0; go_simp
  rw [← hw0]
  clear hw0
  go_loopw [5] (fun v wr => ∃ k : Nat, k ≤ n ∧ v = .int .i64 k ∧ (∀ j, j < k → l1.getD j 0 ≤ l2.getD j 0) ∧ ∃ m, wr = w0.drewN m) (fun v _ => n - (intOf v).toNat)
  case atStart => exact ⟨0, Nat.zero_le _, rfl, fun j hj => absurd hj (by omega), 0, rfl⟩
  case round =>
    obtain ⟨k, hk, rfl, hall, m, rfl⟩ := hrel
    have H := Lib.hid hall
    clear hall
    by_cases hlt : k < n
    · obtain ⟨a1, ha1, hc1, _⟩ := (h1.ext e0).word hlt
      obtain ⟨a2, ha2, hc2, _⟩ := (h2.ext e0).word hlt
      go_wp2
      go_quiet (fail)
      go_wp2
      · have hv : l2[k]?.getD 0 < l1[k]?.getD 0 := by assumption
        go_ret
        refine ⟨ret_bool (Eq.symm (decide_eq_false fun hh => ?_)), (e0.drewN _).drewN _⟩
        have := hh k hlt
        simp only [List.getD_eq_getElem?_getD] at this
        omega
      · have hv : l1[k]?.getD 0 ≤ l2[k]?.getD 0 := by assumption
        go_roundw
        case rel =>
          refine ⟨k + 1, by omega, by go_num, fun j hj => ?_, _, rfl⟩
          by_cases hjk : j < k
          · exact H.out j hjk
          · obtain rfl : j = k := by omega
            simpa only [List.getD_eq_getElem?_getD] using hv
        case measure => simp [intOf]; omega
    · go_wp2
      go_ret
      refine ⟨ret_bool (Eq.symm (decide_eq_true fun j hj => H.out j (by omega))), e0.drewN _⟩

theorem rleq_any (e1 e2 : Int) (A1 A2 : Option Addr) (n1 n2 c1 c2 : Nat) (l1 l2 : List Int) (w : World) (h1 : Sl w 1 A1 n1 c1 (wds l1)) (h2 : Sl w 1 A2 n2 c2 (wds l2)) :
    Calls Tryz.prog 119 #[.agg #[.int .u64 e1, .slice A1 n1 c1], .agg #[.int .u64 e2, .slice A2 n2 c2]] w fun e w' => e = .returned (.bool (leqT e1 l1 e2 l2)) ∧ Ext w w' := by
  have hl1 := h1.wlen
  have hl2 := h2.wlen
  by_cases hn : n1 = n2
  · subst hn
    by_cases hlt : e2 < e1
    · have hf : leqT e1 l1 e2 l2 = false := decide_eq_false fun hh => by have := hh.2.1; omega
      rw [hf]; exact rleq_late e1 e2 A1 A2 n1 c1 c2 w hlt
    · refine (rleq_same e1 e2 A1 A2 n1 c1 c2 l1 l2 w h1 h2 (by omega)).mono fun e w' ⟨he, hx⟩ => ⟨he.trans (ret_bool ?_), hx⟩
      unfold leqT
      rw [decide_eq_decide, hl1, hl2]
      exact ⟨fun h => ⟨rfl, by omega, h⟩, fun h => h.2.2⟩
  · have hf : leqT e1 l1 e2 l2 = false := decide_eq_false fun hh => by have := hh.1; omega
    rw [hf]
    exact rleq_diff e1 e2 A1 A2 n1 n2 c1 c2 w (by simp; omega)
end Go.Proofs.YtdgbkpoickbidaaGreatDoor
namespace Go.Proofs.YtdgbkpoickbidaaGreatDoor
open Go.RowKit

set_option maxRecDepth 100000 in
set_option maxHeartbeats 400000 in
theorem rsign_any (x y : Int) (w : World) : Calls Tryz.prog 210 #[.int .u64 x, .int .u64 y] w fun e w' => e = .returned (.int .i64 (cmpT x y)) ∧ w = w' := by
  rcases Int.lt_trichotomy x y with h | h | h
  · rw [cmpT_lt h]
    go_enter Tryz.func210, Tryz.ntmps210
    go_wp2
    go_ret
    exact ⟨rfl, rfl⟩
  · subst h
    rw [cmpT_self]
    go_enter Tryz.func210, Tryz.ntmps210
    go_wp2
    go_ret
    exact ⟨rfl, rfl⟩
  · rw [cmpT_gt h]
    have h2 : ¬ x < y := by omega
    go_enter Tryz.func210, Tryz.ntmps210
    go_wp2
    go_ret
    exact ⟨rfl, rfl⟩
theorem rsign_at {v : Int} (x y : Int) (w : World) (h : Hid (cmpT x y = v)) : Calls Tryz.prog 210 #[.int .u64 x, .int .u64 y] w fun e w' => e = .returned (.int .i64 v) ∧ w = w' := h.out ▸ rsign_any x y w
/-- what is told when k counters have been looked at -/
def fromK (l1 l2 : List Int) (k : Nat) (v : Int) : Int := if v = 0 then lexT (l1.drop k) (l2.drop k) else v
set_option maxRecDepth 100000 in
set_option maxHeartbeats 2000000 in
theorem rcmp_off (e1 e2 : Int) (A1 A2 : Option Addr) (n1 n2 c1 c2 : Nat) (w : World) (v : Int) (hv : Hid (cmpT n1 n2 = v)) (v0 : (v == 0) = false) (hn1 : n1 ≤ 1000000) (hn2 : n2 ≤ 1000000) :
    Calls Tryz.prog 149 #[.agg #[.int .u64 e1, .slice A1 n1 c1], .agg #[.int .u64 e2, .slice A2 n2 c2]] w fun e w' => e = .returned (.int .i64 v) ∧ Ext w w' := by
  have w1_ : IntKind.u64.wrap (n1 : Int) = n1 := IntWalk.u64_in _ (by omega)
  have w2_ : IntKind.u64.wrap (n2 : Int) = n2 := IntWalk.u64_in _ (by omega)
  go_enter Tryz.func149, Tryz.ntmps149
  go_wp2_with (go_at_call 210; refine (rsign_at _ _ _ hv).mono ?_; rintro r w1 ⟨rfl, rfl⟩)
  refine wp_loop_rounds 1 ?_
  rw [rounds_succ]
  go_wp2
  all_goals go_ret
  all_goals exact ⟨rfl, ((Ext.refl w).alloc _).alloc _⟩
set_option maxRecDepth 100000 in
set_option maxHeartbeats 4000000 in
theorem rcmp_same (e1 e2 : Int) (A1 A2 : Option Addr) (n c1 c2 : Nat) (l1 l2 : List Int) (w : World) (h1 : Sl w 1 A1 n c1 (wds l1)) (h2 : Sl w 1 A2 n c2 (wds l2)) (u1 : U32 l1) (u2 : U32 l2) (hn : n ≤ 1000000) :
    Calls Tryz.prog 149 #[.agg #[.int .u64 e1, .slice A1 n c1], .agg #[.int .u64 e2, .slice A2 n c2]] w fun e w' => e = .returned (.int .i64 (fromK l1 l2 0 (cmpT e1 e2))) ∧ Ext w w' := by
  have HL1 := Lib.hid h1.wlen
  have HL2 := Lib.hid h2.wlen
  have HU1 := Lib.hid u1
  have HU2 := Lib.hid u2
  have w1_ : IntKind.u64.wrap (n : Int) = n := IntWalk.u64_in _ (by omega)
  have hs : Hid (cmpT n n = 0) := Lib.hid (cmpT_self _)
  obtain ⟨R, hR⟩ : ∃ R, fromK l1 l2 0 (cmpT e1 e2) = R := ⟨_, rfl⟩
  rw [hR]
  have HR := Lib.hid hR
  obtain ⟨v, hv⟩ : ∃ v, cmpT e1 e2 = v := ⟨_, rfl⟩
  have hv1 := Lib.hid hv
  have HV : Hid (fromK l1 l2 0 v = R) := Lib.hid (by rw [← hv]; exact hR)
  clear hR hv u1 u2
  have m1 : True := trivial
  go_enter Tryz.func149, Tryz.ntmps149
  go_wp2_with (first
    | (go_at_call 210; have mk := m1; clear m1 mk; refine (rsign_at _ _ _ hs).mono ?_; rintro r w1 ⟨rfl, rfl⟩; have m2 : True := trivial)
    | (go_at_call 210; have mk := m2; clear m2 mk; refine (rsign_at _ _ _ hv1).mono ?_; rintro r w1 ⟨rfl, rfl⟩))
  obtain ⟨w0, hw0⟩ : ∃ w0, w0 = (w.alloc (Obj.cells #[Value.int IntKind.u64 e1, Value.slice A1 n c1] 26)).alloc (Obj.cells #[Value.int IntKind.u64 e2, Value.slice A2 n c2] 26) := ⟨_, rfl⟩
  have x0 : Ext w w0 := hw0 ▸ ((Ext.refl w).alloc _).alloc _
  have b1 : w0.cell? ⟨w.heap.size, 1, none⟩ = some (Value.slice A1 n c1) := by subst hw0; go_simp
  have b2 : w0.cell? ⟨w.heap.size + 1, 1, none⟩ = some (Value.slice A2 n c2) := by subst hw0; go_simp
  rw [← hw0]
  clear hw0
  go_loopw [5, 6] (fun u v wr => ∃ (k : Nat) (z : Int), k ≤ n ∧ v = .int .i64 k ∧ u = .int .i64 z ∧ Hid (fromK l1 l2 k z = R) ∧ Ext w0 wr) (fun _ v _ => n - (intOf v).toNat)
  case atStart => exact ⟨0, v, Nat.zero_le _, rfl, rfl, HV, Ext.refl _⟩
  case round =>
    obtain ⟨k, z, hk, rfl, rfl, HZ, er⟩ := hrel
    have d1 : wr.cell? ⟨w.heap.size, 1, none⟩ = some (Value.slice A1 n c1) := er.cell b1
    have d2 : wr.cell? ⟨w.heap.size + 1, 1, none⟩ = some (Value.slice A2 n c2) := er.cell b2
    by_cases hlt : k < n
    · by_cases hz : z = 0
      · subst hz
        obtain ⟨a1, ha1, hc1, _⟩ := (h1.ext (x0.trans er)).word hlt
        obtain ⟨a2, ha2, hc2, _⟩ := (h2.ext (x0.trans er)).word hlt
        obtain ⟨x, hx⟩ : ∃ x, l1.getD k 0 = x := ⟨_, rfl⟩
        obtain ⟨y, hy⟩ : ∃ y, l2.getD k 0 = y := ⟨_, rfl⟩
        obtain ⟨q, hq⟩ : ∃ q, cmpT x y = q := ⟨_, rfl⟩
        have ux := HU1.out.getD k
        have uy := HU2.out.getD k
        rw [hx] at ux hc1
        rw [hy] at uy hc2
        have wx : IntKind.u64.wrap x = x := IntWalk.u64_in _ (by omega)
        have wy : IntKind.u64.wrap y = y := IntWalk.u64_in _ (by omega)
        have HN : Hid (fromK l1 l2 (k + 1) q = R) := Lib.hid (by
          have h := HZ.out
          have e1 := HL1.out
          have e2 := HL2.out
          unfold fromK at h ⊢
          rw [if_pos rfl, lexT_step k l1 l2 (by omega) (by omega), hx, hy, hq] at h
          exact h)
        have HQ := Lib.hid hq
        clear hq hx hy HZ
        go_wp2
        have X : Ext wr wr.drew := (Ext.refl wr).drew
        have q1 : ∀ y : Xt wr.drew, y.W.cell? ⟨w.heap.size, 1, none⟩ = some (.slice A1 n c1) := fun y => y.x.cell (X.cell d1)
        have q2 : ∀ y : Xt wr.drew, y.W.cell? ⟨w.heap.size + 1, 1, none⟩ = some (.slice A2 n c2) := fun y => y.x.cell (X.cell d2)
        have q3 : ∀ y : Xt wr.drew, y.W.cell? (a1.add k) = some (.int .u32 x) := fun y => y.x.cell (X.cell hc1)
        have q4 : ∀ z : Xt wr.drew, z.W.cell? (a2.add k) = some (.int .u32 y) := fun z => z.x.cell (X.cell hc2)
        refine wp_region_ord [0,1,0,7,15,31,0,64,0,448,960,1984,4095,8191] (.flo [0,1,2,3,4,5,6,7,8,9,10,11] (.one 12 (.flo [13] (.fin)))) (by kernel_rfl) (by kernel_rfl) (by intro _ _ d _ _ h; cases d <;> exact h) ?_
        (refine ord_flo (pick_cons rfl (pick_cons rfl (pick_cons rfl (pick_cons rfl (pick_cons rfl (pick_cons rfl (pick_cons rfl (pick_cons rfl (pick_cons rfl (pick_cons rfl (pick_cons rfl (pick_cons rfl pick_nil)))))))))))) ?_; (repeat (go_big_quiet_step (fail))); refine wpQuiet_nil ?_; show ordWalk _ _ _ _ _ _ _)
        refine ord_one (pick_cons rfl pick_nil) ?_; intro K_ hK_
        go_wp2_with (go_at_call 210; refine (rsign_at _ _ _ HQ).mono ?_; rintro r w1 ⟨rfl, rfl⟩)
        (refine ord_flo (pick_cons rfl pick_nil) ?_; (repeat (go_big_quiet_step (fail))); refine wpQuiet_nil ?_; show ordWalk _ _ _ _ _ _ _)
        refine ord_fin ?_
        go_wp2
        rw [← ha1, ← ha2]
        go_roundw
        case rel => exact ⟨k + 1, q, by omega, by go_num, rfl, HN, er.trans X⟩
        case measure => simp [intOf]; omega
      · have z0 : (z == 0) = false := by simpa using hz
        have HF : Hid (z = R) := Lib.hid (by have h := HZ.out; unfold fromK at h; rwa [if_neg hz] at h)
        clear hz HZ
        go_wp2
        go_ret
        exact ⟨by rw [← HF.out]; rfl, x0.trans er⟩
    · obtain rfl : k = n := by omega
      have HF : Hid (z = R) := Lib.hid (by
        have h := HZ.out
        have e1 := HL1.out
        have e2 := HL2.out
        unfold fromK at h
        split at h
        · rename_i h0
          rw [List.drop_eq_nil_of_le (by omega), List.drop_eq_nil_of_le (by omega)] at h
          rw [h0]
          exact h
        · exact h)
      clear HZ
      go_wp2
      all_goals go_ret
      all_goals exact ⟨by rw [← HF.out]; rfl, x0.trans er⟩
theorem rcmp_any (e1 e2 : Int) (A1 A2 : Option Addr) (n1 n2 c1 c2 : Nat) (l1 l2 : List Int) (w : World) (h1 : Sl w 1 A1 n1 c1 (wds l1)) (h2 : Sl w 1 A2 n2 c2 (wds l2)) (u1 : U32 l1) (u2 : U32 l2) (hn1 : n1 ≤ 1000000) (hn2 : n2 ≤ 1000000) :
    Calls Tryz.prog 149 #[.agg #[.int .u64 e1, .slice A1 n1 c1], .agg #[.int .u64 e2, .slice A2 n2 c2]] w fun e w' => e = .returned (.int .i64 (cmpTT e1 l1 e2 l2)) ∧ Ext w w' := by
  have hl1 := h1.wlen
  have hl2 := h2.wlen
  unfold cmpTT
  rw [hl1, hl2]
  by_cases h : n1 = n2
  · subst h
    rw [show orT (cmpT n1 n1) (cmpT e1 e2) (lexT l1 l2) = fromK l1 l2 0 (cmpT e1 e2) by
      rw [cmpT_self]; rfl]
    exact rcmp_same e1 e2 A1 A2 n1 c1 c2 l1 l2 w h1 h2 u1 u2 hn1
  · have h9 : cmpT n1 n2 ≠ 0 := fun h9 => h (by have := cmpT_zero.1 h9; omega)
    rw [show orT (cmpT n1 n2) (cmpT e1 e2) (lexT l1 l2) = cmpT n1 n2 from if_neg h9]
    exact rcmp_off e1 e2 A1 A2 n1 n2 c1 c2 w _ (Lib.hid rfl) (by simpa using h9) hn1 hn2
end Go.Proofs.YtdgbkpoickbidaaGreatDoor
