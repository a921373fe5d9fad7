/- penstockref00.Book: Words, Own. penstockref00.Book: Times. Lists of times that calls have made, one behind the other: they have memory of their own. penstockref00.LentTimes, WholeTimes: copies with marked room behind. penstockref00.SpoilTimes: it turns what it is handed, and nothing else. Lent times, from where to where. Conditions: each theorem states its own. -/
import Derived.Test.YtmdakaflmheidaaGreatDoorOwnWords
import Derived.Test.YtmdakaflmheidaaGreatDoorOwnTimes
import Derived.Test.YtmdakaflmheidaaGreatDoorTms
import Derived.Test.YtmdakaflmheidaaGreatDoorLentA
import Derived.Deep.LoopGhost
namespace Go.Proofs.YtmdakaflmheidaaGreatDoor
open Go.RowKit

set_option maxRecDepth 100000 in
set_option maxHeartbeats 400000 in
theorem ownBytes_nil (w : World) : Calls Tryz.prog 45 #[.slice none 0 0] w fun e w' => e = .returned (.bool true) ∧ w = w' := by
  go_enter Tryz.func45, Tryz.ntmps45
  go_wp2
  refine wp_loop_rounds 1 ?_
  rw [rounds_succ]
  go_wp2
  refine wp_loop_rounds 1 ?_
  rw [rounds_succ]
  go_wp2
  refine wp_loop_rounds 1 ?_
  rw [rounds_succ]
  go_wp2
  go_ret
  exact ⟨rfl, rfl⟩
set_option maxRecDepth 100000 in
set_option maxHeartbeats 400000 in
theorem ownTexts_nil (w : World) : Calls Tryz.prog 46 #[.slice none 0 0] w fun e w' => e = .returned (.bool true) ∧ w = w' := by
  go_enter Tryz.func46, Tryz.ntmps46
  go_wp2
  refine wp_loop_rounds 1 ?_
  rw [rounds_succ]
  go_wp2
  refine wp_loop_rounds 1 ?_
  rw [rounds_succ]
  go_wp2
  refine wp_loop_rounds 1 ?_
  rw [rounds_succ]
  go_wp2
  go_ret
  exact ⟨rfl, rfl⟩
set_option maxRecDepth 100000 in
set_option maxHeartbeats 400000 in
theorem ownInts_nil (w : World) : Calls Tryz.prog 47 #[.slice none 0 0] w fun e w' => e = .returned (.bool true) ∧ w = w' := by
  go_enter Tryz.func47, Tryz.ntmps47
  go_wp2
  refine wp_loop_rounds 1 ?_
  rw [rounds_succ]
  go_wp2
  refine wp_loop_rounds 1 ?_
  rw [rounds_succ]
  go_wp2
  refine wp_loop_rounds 1 ?_
  rw [rounds_succ]
  go_wp2
  go_ret
  exact ⟨rfl, rfl⟩
set_option maxRecDepth 100000 in
set_option maxHeartbeats 400000 in
theorem ownRow_nil (w : World) : Calls Tryz.prog 49 #[.slice none 0 0] w fun e w' => e = .returned (.bool true) ∧ w = w' := by
  go_enter Tryz.func49, Tryz.ntmps49
  go_wp2
  refine wp_loop_rounds 1 ?_
  rw [rounds_succ]
  go_wp2
  refine wp_loop_rounds 1 ?_
  rw [rounds_succ]
  go_wp2
  refine wp_loop_rounds 1 ?_
  rw [rounds_succ]
  go_wp2
  go_ret
  exact ⟨rfl, rfl⟩
set_option maxRecDepth 100000 in
set_option maxHeartbeats 400000 in
theorem ownSorts_nil (w : World) : Calls Tryz.prog 50 #[.slice none 0 0] w fun e w' => e = .returned (.bool true) ∧ w = w' := by
  go_enter Tryz.func50, Tryz.ntmps50
  go_wp2
  refine wp_loop_rounds 1 ?_
  rw [rounds_succ]
  go_wp2
  refine wp_loop_rounds 1 ?_
  rw [rounds_succ]
  go_wp2
  refine wp_loop_rounds 1 ?_
  rw [rounds_succ]
  go_wp2
  go_ret
  exact ⟨rfl, rfl⟩
set_option maxRecDepth 100000 in
set_option maxHeartbeats 400000 in
theorem ownPairs_nil (w : World) : Calls Tryz.prog 51 #[.slice none 0 0] w fun e w' => e = .returned (.bool true) ∧ w = w' := by
  go_enter Tryz.func51, Tryz.ntmps51
  go_wp2
  refine wp_loop_rounds 1 ?_
  rw [rounds_succ]
  go_wp2
  refine wp_loop_rounds 1 ?_
  rw [rounds_succ]
  go_wp2
  refine wp_loop_rounds 1 ?_
  rw [rounds_succ]
  go_wp2
  go_ret
  exact ⟨rfl, rfl⟩
set_option maxRecDepth 100000 in
set_option maxHeartbeats 400000 in
theorem ownFaults_nil (w : World) : Calls Tryz.prog 52 #[.slice none 0 0] w fun e w' => e = .returned (.bool true) ∧ w = w' := by
  go_enter Tryz.func52, Tryz.ntmps52
  go_wp2
  refine wp_loop_rounds 1 ?_
  rw [rounds_succ]
  go_wp2
  refine wp_loop_rounds 1 ?_
  rw [rounds_succ]
  go_wp2
  refine wp_loop_rounds 1 ?_
  rw [rounds_succ]
  go_wp2
  go_ret
  exact ⟨rfl, rfl⟩
set_option maxRecDepth 100000 in
set_option maxHeartbeats 400000 in
theorem ownColumns_nil (w : World) : Calls Tryz.prog 53 #[.slice none 0 0] w fun e w' => e = .returned (.bool true) ∧ w = w' := by
  go_enter Tryz.func53, Tryz.ntmps53
  go_wp2
  refine wp_loop_rounds 1 ?_
  rw [rounds_succ]
  go_wp2
  refine wp_loop_rounds 1 ?_
  rw [rounds_succ]
  go_wp2
  refine wp_loop_rounds 1 ?_
  rw [rounds_succ]
  go_wp2
  go_ret
  exact ⟨rfl, rfl⟩
set_option maxRecDepth 100000 in
set_option maxHeartbeats 400000 in
theorem ownCounteds_nil (w : World) : Calls Tryz.prog 54 #[.slice none 0 0] w fun e w' => e = .returned (.bool true) ∧ w = w' := by
  go_enter Tryz.func54, Tryz.ntmps54
  go_wp2
  refine wp_loop_rounds 1 ?_
  rw [rounds_succ]
  go_wp2
  refine wp_loop_rounds 1 ?_
  rw [rounds_succ]
  go_wp2
  refine wp_loop_rounds 1 ?_
  rw [rounds_succ]
  go_wp2
  go_ret
  exact ⟨rfl, rfl⟩
set_option maxRecDepth 100000 in
set_option maxHeartbeats 400000 in
theorem ownUpdates_nil (w : World) : Calls Tryz.prog 55 #[.slice none 0 0] w fun e w' => e = .returned (.bool true) ∧ w = w' := by
  go_enter Tryz.func55, Tryz.ntmps55
  go_wp2
  refine wp_loop_rounds 1 ?_
  rw [rounds_succ]
  go_wp2
  refine wp_loop_rounds 1 ?_
  rw [rounds_succ]
  go_wp2
  refine wp_loop_rounds 1 ?_
  rw [rounds_succ]
  go_wp2
  go_ret
  exact ⟨rfl, rfl⟩
set_option maxRecDepth 100000 in
set_option maxHeartbeats 400000 in
theorem ownExprs_nil (w : World) : Calls Tryz.prog 57 #[.slice none 0 0] w fun e w' => e = .returned (.bool true) ∧ w = w' := by
  go_enter Tryz.func57, Tryz.ntmps57
  go_wp2
  refine wp_loop_rounds 1 ?_
  rw [rounds_succ]
  go_wp2
  refine wp_loop_rounds 1 ?_
  rw [rounds_succ]
  go_wp2
  refine wp_loop_rounds 1 ?_
  rw [rounds_succ]
  go_wp2
  go_ret
  exact ⟨rfl, rfl⟩
set_option maxRecDepth 100000 in
set_option maxHeartbeats 400000 in
theorem ownRels_nil (w : World) : Calls Tryz.prog 58 #[.slice none 0 0] w fun e w' => e = .returned (.bool true) ∧ w = w' := by
  go_enter Tryz.func58, Tryz.ntmps58
  go_wp2
  refine wp_loop_rounds 1 ?_
  rw [rounds_succ]
  go_wp2
  refine wp_loop_rounds 1 ?_
  rw [rounds_succ]
  go_wp2
  refine wp_loop_rounds 1 ?_
  rw [rounds_succ]
  go_wp2
  go_ret
  exact ⟨rfl, rfl⟩
def bookC (w_ t_ : Value) : Array Value := #[.slice none 0 0, .slice none 0 0, .slice none 0 0, w_, .slice none 0 0, .slice none 0 0, .slice none 0 0, .slice none 0 0, .slice none 0 0, .slice none 0 0, .slice none 0 0, t_, .slice none 0 0, .slice none 0 0]
/-- the Book at gb, its lists from B0 on -/
structure BookAt (w : World) (gb B0 : Nat) (Lw Lt : List En) (w_ t_ : En) : Prop where
  bk : Bk w gb 52 (bookC w_.v t_.v)
  lt : gb < B0
  le : B0 ≤ w.heap.size
  ow : Own w B0 24 1 w_.A w_.n w_.c (ensC Lw)
  ot : Own w B0 54 1 t_.A t_.n t_.c (ensC Lt)
  nw : w_.n = Lw.length
  nt : t_.n = Lt.length
  swt : ∀ k, w_.b = some k → t_.b ≠ some k
theorem BookAt.ext {w w' : World} {gb B0 : Nat} {Lw Lt : List En} {w_ t_ : En} (h : BookAt w gb B0 Lw Lt w_ t_) (x : Ext w w') : BookAt w' gb B0 Lw Lt w_ t_ :=
  ⟨h.bk.ext x, h.lt, Nat.le_trans h.le x.size, h.ow.ext x, h.ot.ext x, h.nw, h.nt, h.swt⟩
theorem BookAt.upd {S : Nat → Prop} {w w' : World} {gb B0 : Nat} {Lw Lt : List En} {w_ t_ : En} (h : BookAt w gb B0 Lw Lt w_ t_) (x : Upd S w w') (hg : ¬ S gb) (hS : ∀ k, B0 ≤ k → ¬ S k) : BookAt w' gb B0 Lw Lt w_ t_ :=
  ⟨(x.block gb (Array.getElem?_eq_some_iff.1 h.bk).1 hg).trans h.bk, h.lt, Nat.le_trans h.le x.size, h.ow.upd x (fun k hk => hS k (h.ow.lt k hk).1), h.ot.upd x (fun k hk => hS k (h.ot.lt k hk).1), h.nw, h.nt, h.swt⟩
theorem book_new {w : World} {gb : Nat} (h : Bk w gb 52 #[.slice none 0 0, .slice none 0 0, .slice none 0 0, .slice none 0 0, .slice none 0 0, .slice none 0 0, .slice none 0 0, .slice none 0 0, .slice none 0 0, .slice none 0 0, .slice none 0 0, .slice none 0 0, .slice none 0 0, .slice none 0 0]) : BookAt w gb w.heap.size [] [] En.zero En.zero :=
  ⟨h, h.lt, Nat.le_refl _, Own.nil _ _ _ _, Own.nil _ _ _ _, rfl, rfl, fun k hk => nomatch hk⟩
/-- the blocks that the Book's methods may turn -/
def BookS (gb B0 : Nat) (k : Nat) : Prop := k = gb ∨ B0 ≤ k
theorem BookAt.put_w {w w3 : World} {gb B0 : Nat} {Lw Lt : List En} {w_ t_ : En} {x : En} (h : BookAt w gb B0 Lw Lt w_ t_) (ob : Obj) {A3 : Option Addr} {c3 : Nat}
    (o3 : Own w3 B0 24 1 A3 (w_.n + 1) c3 (ensC Lw ++ [x.v])) (g3 : (w.alloc ob).grownBy w3 (blk w_.A w_.c)) (x3 : (A3 = w_.A ∧ c3 = w_.c) ∨ (blk A3 c3 = some (w.alloc ob).heap.size ∧ Ext (w.alloc ob) w3)) :
    BookAt (w3.setCell ⟨gb, 3, none⟩ (.slice A3 (w_.n + 1) c3)) gb B0 (Lw ++ [x]) Lt ⟨A3, w_.n + 1, c3⟩ t_ ∧ Upd (BookS gb B0) w (w3.setCell ⟨gb, 3, none⟩ (.slice A3 (w_.n + 1) c3)) := by
  have hsz := ((Ext.refl w).alloc ob).size
  have hrow : ∀ k, blk w_.A w_.c = some k → B0 ≤ k := fun k hk => (h.ow.lt k hk).1
  have hgb := (Array.getElem?_eq_some_iff.1 h.bk).1
  have u3 : Upd (fun k => blk w_.A w_.c = some k) w w3 := ((Upd.refl _ w).alloc ob).grown g3 (fun k hk => .inl hk)
  have ngb : ∀ {A : Option Addr} {c n : Nat} {e : TypeId} {xs : List Value}, Own w3 B0 e 1 A n c xs → blk A c ≠ some gb := fun o e => by have := (o.lt gb e).1; have := h.lt; omega
  have hnew : ∀ k, blk A3 c3 = some k → blk w_.A w_.c = some k ∨ w.heap.size ≤ k := fun k hk => by
    rcases x3 with ⟨rfl, rfl⟩ | ⟨h1, _⟩
    · exact .inl hk
    · rw [h1] at hk; injection hk with hk; exact .inr (by omega)
  have kt : Own w3 B0 _ 1 t_.A t_.n t_.c _ := h.ot.upd u3 (fun k hk e => h.swt k e hk)
  have bk3 : Bk w3 gb 52 (bookC w_.v t_.v) := (u3.block gb hgb (fun e => by have := hrow gb e; have := h.lt; omega)).trans h.bk
  refine ⟨⟨bk3.set 3 _, h.lt, by rw [World.size_setCell]; exact Nat.le_trans h.le u3.size, ?_, ?_, ?_, ?_, ?_⟩, ?_⟩
  · rw [ensC_append]; exact o3.far (ngb o3) _
  · exact kt.far (ngb kt) _
  · show w_.n + 1 = _; rw [List.length_append, h.nw]; rfl
  · exact h.nt
  · intro k hk e
    rcases hnew k hk with q | q
    · exact h.swt k q e
    · have := (h.ot.lt k e).2; omega
  · exact (u3.mono (fun k _ hk => .inr (hrow k hk))).setCell (.inl (.inl rfl)) _
set_option maxRecDepth 100000 in
set_option maxHeartbeats 2000000 in
theorem bookWords_any (gb B0 n cc : Nat) (A : Option Addr) (Lw Lt : List En) (w_ t_ : En) (w : World) (h : Hid (BookAt w gb B0 Lw Lt w_ t_)) (hl : Lw.length ≤ 100000) :
    Calls Tryz.prog 27 #[.pointer (some ⟨gb, 0, none⟩), .slice A n cc] w fun e w' => e = .returned (.tuple #[]) ∧ ∃ x, BookAt w' gb B0 (Lw ++ [⟨A, n, cc⟩]) Lt x t_ ∧ Upd (BookS gb B0) w w' := by
  obtain ⟨wA, wn, wc⟩ := w_
  obtain ⟨tA, tn, tc⟩ := t_
  have hn : wn ≤ 100000 := by have : wn = Lw.length := h.out.nw; omega
  have q := h.out.bk.cell 3
  have z := h.out.bk.free 3
  replace q : w.cell? ⟨gb, 3, none⟩ = some (.slice wA wn wc) := q
  have hle := h.out.le
  go_enter Tryz.func27, Tryz.ntmps27
  go_wp2_with (at_builtin; go_loud (refine wpList_append_two _ elemL_OwnWords B0 _ _ rfl rfl wA wn wc (ensC Lw) rfl (h.out.ow.alloc _) (some ⟨w.heap.size, 0, none⟩) 1 1 [.slice A n cc] rfl (Sl.one w #[.slice A n cc] 24 1 rfl) (ensC_one [⟨A, n, cc⟩]) (by omega) (by decide) (by have := ((Ext.refl w).alloc (.cells (#[.slice A n cc] : Array Value) 24)).size; omega) ?_); intro A3 c3 w3 o3 g3 x3; have HP := Lib.hid (h.out.put_w (x := ⟨A, n, cc⟩) _ o3 g3 x3); have b3 : Bk w3 gb 52 (bookC (.slice wA wn wc) (.slice tA tn tc)) := (((Upd.refl (fun k => blk wA wc = some k) w).alloc _).grown g3 (fun k hk => .inl hk)).block gb (Array.getElem?_eq_some_iff.1 h.out.bk).1 (fun e => by have := (h.out.ow.lt gb e).1; have := h.out.lt; omega) |>.trans h.out.bk; have q3 := b3.cell 3; have z3 := b3.free 3; clear b3 o3 g3 x3)
  go_returns
  exact ⟨rfl, _, HP.out.1, HP.out.2⟩
theorem BookAt.put_t {w w3 : World} {gb B0 : Nat} {Lw Lt : List En} {w_ t_ : En} {x : En} (h : BookAt w gb B0 Lw Lt w_ t_) (ob : Obj) {A3 : Option Addr} {c3 : Nat}
    (o3 : Own w3 B0 54 1 A3 (t_.n + 1) c3 (ensC Lt ++ [x.v])) (g3 : (w.alloc ob).grownBy w3 (blk t_.A t_.c)) (x3 : (A3 = t_.A ∧ c3 = t_.c) ∨ (blk A3 c3 = some (w.alloc ob).heap.size ∧ Ext (w.alloc ob) w3)) :
    BookAt (w3.setCell ⟨gb, 11, none⟩ (.slice A3 (t_.n + 1) c3)) gb B0 Lw (Lt ++ [x]) w_ ⟨A3, t_.n + 1, c3⟩ ∧ Upd (BookS gb B0) w (w3.setCell ⟨gb, 11, none⟩ (.slice A3 (t_.n + 1) c3)) := by
  have hsz := ((Ext.refl w).alloc ob).size
  have hrow : ∀ k, blk t_.A t_.c = some k → B0 ≤ k := fun k hk => (h.ot.lt k hk).1
  have hgb := (Array.getElem?_eq_some_iff.1 h.bk).1
  have u3 : Upd (fun k => blk t_.A t_.c = some k) w w3 := ((Upd.refl _ w).alloc ob).grown g3 (fun k hk => .inl hk)
  have ngb : ∀ {A : Option Addr} {c n : Nat} {e : TypeId} {xs : List Value}, Own w3 B0 e 1 A n c xs → blk A c ≠ some gb := fun o e => by have := (o.lt gb e).1; have := h.lt; omega
  have hnew : ∀ k, blk A3 c3 = some k → blk t_.A t_.c = some k ∨ w.heap.size ≤ k := fun k hk => by
    rcases x3 with ⟨rfl, rfl⟩ | ⟨h1, _⟩
    · exact .inl hk
    · rw [h1] at hk; injection hk with hk; exact .inr (by omega)
  have kw : Own w3 B0 _ 1 w_.A w_.n w_.c _ := h.ow.upd u3 (fun k hk e => h.swt k hk e)
  have bk3 : Bk w3 gb 52 (bookC w_.v t_.v) := (u3.block gb hgb (fun e => by have := hrow gb e; have := h.lt; omega)).trans h.bk
  refine ⟨⟨bk3.set 11 _, h.lt, by rw [World.size_setCell]; exact Nat.le_trans h.le u3.size, ?_, ?_, ?_, ?_, ?_⟩, ?_⟩
  · exact kw.far (ngb kw) _
  · rw [ensC_append]; exact o3.far (ngb o3) _
  · exact h.nw
  · show t_.n + 1 = _; rw [List.length_append, h.nt]; rfl
  · intro k hk e
    rcases hnew k e with q | q
    · exact h.swt k hk q
    · have := (h.ow.lt k hk).2; omega
  · exact (u3.mono (fun k _ hk => .inr (hrow k hk))).setCell (.inl (.inl rfl)) _
/-- the blocks that Own writes into -/
def OwnS (Lw Lt : List En) (k : Nat) : Prop := Foot Lw k ∨ Foot Lt k
def Few (L : List En) : Prop := L.length ≤ 10000 ∧ ∀ i, i < L.length → (ena L i).n ≤ 1000000
set_option maxRecDepth 100000 in
set_option maxHeartbeats 8000000 in
theorem bookOwn_any (gb B0 B : Nat) (Lw Lt : List En) (w_ t_ : En) (fw ft : Nat → List Value) (w : World) (h : Hid (BookAt w gb B0 Lw Lt w_ t_)) (lsw : Hid (Lists w B 74 1 Lw fw)) (lst : Hid (Lists w B 26 2 Lt ft))
    (dwt : Hid (∀ k, Foot Lw k → ¬ Foot Lt k)) (hlt : Hid (∀ k, OwnS Lw Lt k → k < B0 ∧ k ≠ gb)) (feww : Hid (Few Lw)) (fewt : Hid (Few Lt)) (hw : Hid (B ≤ w.heap.size)) :
    Calls Tryz.prog 16 #[.pointer (some ⟨gb, 0, none⟩)] w fun e w' => e = .returned (.bool true) ∧ Upd (OwnS Lw Lt) w w' := by
  have hnw : w_.n ≤ 10000 := by rw [h.out.nw]; exact feww.out.1
  have hnt : t_.n ≤ 10000 := by rw [h.out.nt]; exact fewt.out.1
  have HG : Hid (∀ k, OwnS Lw Lt k → k ≠ gb) := Lib.hid (fun k hk => (hlt.out k hk).2)
  have U0 : Hid (Upd (OwnS Lw Lt) w w) := Lib.hid (Upd.refl _ _)
  have h0 := h
  have hw0 := hw
  have HBk := Lib.hid h.out.bk
  have q0 : w.cell? ⟨gb, 0, none⟩ = some (.slice none 0 0) := HBk.out.cell 0
  have q1 : w.cell? ⟨gb, 1, none⟩ = some (.slice none 0 0) := HBk.out.cell 1
  have q2 : w.cell? ⟨gb, 2, none⟩ = some (.slice none 0 0) := HBk.out.cell 2
  have q3 : w.cell? ⟨gb, 3, none⟩ = some (.slice w_.A w_.n w_.c) := HBk.out.cell 3
  have q4 : w.cell? ⟨gb, 4, none⟩ = some (.slice none 0 0) := HBk.out.cell 4
  have q5 : w.cell? ⟨gb, 5, none⟩ = some (.slice none 0 0) := HBk.out.cell 5
  have q6 : w.cell? ⟨gb, 6, none⟩ = some (.slice none 0 0) := HBk.out.cell 6
  have q7 : w.cell? ⟨gb, 7, none⟩ = some (.slice none 0 0) := HBk.out.cell 7
  have q8 : w.cell? ⟨gb, 8, none⟩ = some (.slice none 0 0) := HBk.out.cell 8
  have q9 : w.cell? ⟨gb, 9, none⟩ = some (.slice none 0 0) := HBk.out.cell 9
  have q10 : w.cell? ⟨gb, 10, none⟩ = some (.slice none 0 0) := HBk.out.cell 10
  have q11 : w.cell? ⟨gb, 11, none⟩ = some (.slice t_.A t_.n t_.c) := HBk.out.cell 11
  have q12 : w.cell? ⟨gb, 12, none⟩ = some (.slice none 0 0) := HBk.out.cell 12
  have q13 : w.cell? ⟨gb, 13, none⟩ = some (.slice none 0 0) := HBk.out.cell 13
  go_enter Tryz.func16, Tryz.ntmps16
  go_wp2_with (first
    | (go_at_call 48; go_loud (refine (ownWords_any w_.A w_.c w_.n B Lw _ _ (Lib.hid h0.out.nw) (Lib.hid h0.out.ow.sl) lsw (Lib.hid (fun k hk => ⟨fun q => by have := (hlt.out k (.inl q)).1; have := (h0.out.ow.lt k hk).1; omega, (h0.out.ow.lt k hk).2⟩)) hnw (Lib.hid feww.out.2) hw0).mono ?_); rintro e w1 ⟨rfl, u_⟩; have U1 : Hid (Upd (OwnS Lw Lt) w w1) := Lib.hid (U0.out.trans (u_.mono (fun k _ hk => (.inl hk)))); have h1 : Hid (BookAt w1 gb B0 Lw Lt w_ t_) := Lib.hid (h0.out.upd u_ (fun q => HG.out gb (.inl q) rfl) (fun k hk q => by have := (hlt.out k (.inl q)).1; omega)); replace lst := Lib.hid (lst.out.upd u_ (fun k hk q => dwt.out k q hk)); have HBk1 := Lib.hid h1.out.bk; have q4 : w1.cell? ⟨gb, 4, none⟩ = some (.slice none 0 0) := HBk1.out.cell 4; have q5 : w1.cell? ⟨gb, 5, none⟩ = some (.slice none 0 0) := HBk1.out.cell 5; have q6 : w1.cell? ⟨gb, 6, none⟩ = some (.slice none 0 0) := HBk1.out.cell 6; have q7 : w1.cell? ⟨gb, 7, none⟩ = some (.slice none 0 0) := HBk1.out.cell 7; have q8 : w1.cell? ⟨gb, 8, none⟩ = some (.slice none 0 0) := HBk1.out.cell 8; have q9 : w1.cell? ⟨gb, 9, none⟩ = some (.slice none 0 0) := HBk1.out.cell 9; have q10 : w1.cell? ⟨gb, 10, none⟩ = some (.slice none 0 0) := HBk1.out.cell 10; have q11 : w1.cell? ⟨gb, 11, none⟩ = some (.slice t_.A t_.n t_.c) := HBk1.out.cell 11; have q12 : w1.cell? ⟨gb, 12, none⟩ = some (.slice none 0 0) := HBk1.out.cell 12; have q13 : w1.cell? ⟨gb, 13, none⟩ = some (.slice none 0 0) := HBk1.out.cell 13; have hw1 : Hid (B ≤ w1.heap.size) := Lib.hid (Nat.le_trans hw0.out u_.size); clear u_)
    | (go_at_call 56; go_loud (refine (ownTimes_any t_.A t_.c t_.n B Lt _ _ (Lib.hid h1.out.nt) (Lib.hid h1.out.ot.sl) lst (Lib.hid (fun k hk => ⟨fun q => by have := (hlt.out k (.inr q)).1; have := (h1.out.ot.lt k hk).1; omega, (h1.out.ot.lt k hk).2⟩)) hnt (Lib.hid fewt.out.2) hw1).mono ?_); rintro e w2 ⟨rfl, u_⟩; have U2 : Hid (Upd (OwnS Lw Lt) w w2) := Lib.hid (U1.out.trans (u_.mono (fun k _ hk => (.inr hk)))); have h2 : Hid (BookAt w2 gb B0 Lw Lt w_ t_) := Lib.hid (h1.out.upd u_ (fun q => HG.out gb (.inr q) rfl) (fun k hk q => by have := (hlt.out k (.inr q)).1; omega)); have HBk2 := Lib.hid h2.out.bk; have q12 : w2.cell? ⟨gb, 12, none⟩ = some (.slice none 0 0) := HBk2.out.cell 12; have q13 : w2.cell? ⟨gb, 13, none⟩ = some (.slice none 0 0) := HBk2.out.cell 13; have hw2 : Hid (B ≤ w2.heap.size) := Lib.hid (Nat.le_trans hw1.out u_.size); clear u_)
    | (go_at_call 45; go_loud (refine (ownBytes_nil _).mono ?_); rintro e w_ ⟨rfl, rfl⟩)
    | (go_at_call 46; go_loud (refine (ownTexts_nil _).mono ?_); rintro e w_ ⟨rfl, rfl⟩)
    | (go_at_call 47; go_loud (refine (ownInts_nil _).mono ?_); rintro e w_ ⟨rfl, rfl⟩)
    | (go_at_call 49; go_loud (refine (ownRow_nil _).mono ?_); rintro e w_ ⟨rfl, rfl⟩)
    | (go_at_call 50; go_loud (refine (ownSorts_nil _).mono ?_); rintro e w_ ⟨rfl, rfl⟩)
    | (go_at_call 51; go_loud (refine (ownPairs_nil _).mono ?_); rintro e w_ ⟨rfl, rfl⟩)
    | (go_at_call 52; go_loud (refine (ownFaults_nil _).mono ?_); rintro e w_ ⟨rfl, rfl⟩)
    | (go_at_call 53; go_loud (refine (ownColumns_nil _).mono ?_); rintro e w_ ⟨rfl, rfl⟩)
    | (go_at_call 54; go_loud (refine (ownCounteds_nil _).mono ?_); rintro e w_ ⟨rfl, rfl⟩)
    | (go_at_call 55; go_loud (refine (ownUpdates_nil _).mono ?_); rintro e w_ ⟨rfl, rfl⟩)
    | (go_at_call 57; go_loud (refine (ownExprs_nil _).mono ?_); rintro e w_ ⟨rfl, rfl⟩)
    | (go_at_call 58; go_loud (refine (ownRels_nil _).mono ?_); rintro e w_ ⟨rfl, rfl⟩)
    | fail)
  go_ret
  exact ⟨rfl, U2.out⟩
end Go.Proofs.YtmdakaflmheidaaGreatDoor
namespace Go.Proofs.YtmdakaflmheidaaGreatDoor
open Go.RowKit

def enT (x : Tm) : En := ⟨x.A, x.l.length, x.c⟩
theorem bookWords_lit (gb B0 n cc : Nat) (A : Option Addr) (Lw Lt : List En) (w_ t_ : En) (w : World) (h : Hid (BookAt w gb B0 Lw Lt w_ t_)) (hl : Lw.length ≤ 100000) :
    Calls Tryz.prog 27 #[.pointer (some ⟨gb, 0, none⟩), .slice A n cc] w fun e w' => e = .returned (.tuple #[]) ∧ ∃ x, BookAt w' gb B0 (Lw ++ [⟨A, n, cc⟩]) Lt x t_ ∧ Upd (BookS gb B0) w w' := bookWords_any gb B0 n cc A Lw Lt w_ t_ w h hl
set_option maxRecDepth 100000 in
set_option maxHeartbeats 4000000 in
theorem bookTimes_any (gb B0 m cc : Nat) (A : Option Addr) (R : List Tm) (Lw Lt : List En) (w_ t_ : En) (w : World) (h : Hid (BookAt w gb B0 Lw Lt w_ t_)) (hr : Lw.length + m ≤ 100000) (hl : Lt.length ≤ 100000) (hm : Hid (m = R.length)) (hs : Hid (Sl w 2 A m cc (tmsC R))) (hsep : Hid (∀ k, blk A cc = some k → ¬ BookS gb B0 k)) :
    Calls Tryz.prog 10 #[.pointer (some ⟨gb, 0, none⟩), .slice A m cc] w fun e w' => e = .returned (.tuple #[]) ∧ ∃ y z, BookAt w' gb B0 (Lw ++ R.map enT) (Lt ++ [⟨A, m, cc⟩]) y z ∧ Upd (BookS gb B0) w w' := by
  have HP0 : Hid (BookAt w gb B0 (Lw ++ (R.take 0).map enT) Lt w_ t_ ∧ Upd (BookS gb B0) w w) := Lib.hid ⟨by rw [List.take_zero, List.map_nil, List.append_nil]; exact h.out, Upd.refl _ _⟩
  go_enter Tryz.func10, Tryz.ntmps10
  go_wp2
  go_loopg [4] m (fun z v wr => ∃ (i : Nat) (r : En), z = m - i ∧ i ≤ m ∧ v = .int .i64 i ∧ Hid (BookAt wr gb B0 (Lw ++ (R.take i).map enT) Lt r t_ ∧ Upd (BookS gb B0) w wr))
  case atStart => exact ⟨0, w_, rfl, Nat.zero_le _, rfl, HP0⟩
  case round =>
    clear HP0
    obtain ⟨i, r, rfl, hi, rfl, HP⟩ := hrel
    by_cases hlt : i < m
    · have hil : i < R.length := by rw [← hm.out]; exact hlt
      obtain ⟨ad, rfl, _, p0⟩ := own_at2 (hs.out.upd HP.out.2 hsep.out) hlt (show tmC (R.getD i Tm.zero) = [.int .u64 (R.getD i Tm.zero).e, .slice (R.getD i Tm.zero).A (R.getD i Tm.zero).l.length (R.getD i Tm.zero).c] from rfl) (fun q hq => tmsC_at R i q hil hq)
      have HT : Hid (R.take (i + 1) = R.take i ++ [R.getD i Tm.zero]) := Lib.hid (by rw [List.take_succ_eq_append_getElem hil, List.getD_eq_getElem?_getD, List.getElem?_eq_getElem hil]; rfl)
      obtain ⟨x, hx⟩ : ∃ x, R.getD i Tm.zero = x := ⟨_, rfl⟩
      rw [hx] at p0 HT
      obtain ⟨nx, hnx⟩ : ∃ nx, x.l.length = nx := ⟨_, rfl⟩
      rw [hnx] at p0
      have HN := Lib.hid hnx
      have HB := Lib.hid HP.out.1
      have hlen : (Lw ++ (R.take i).map enT).length ≤ 100000 := by rw [List.length_append, List.length_map, List.length_take]; omega
      clear hx hnx hil
      go_wp2_with (go_at_call 27; go_loud (refine (bookWords_lit gb B0 nx x.c x.A _ Lt r t_ _ HB hlen).mono ?_); rintro e w1 ⟨rfl, y1, b1, u1⟩; have B1 := Lib.hid b1; have U1 := Lib.hid u1; clear b1 u1)
      go_roundg (m - (i + 1))
      case measure => omega
      case rel => exact ⟨i + 1, y1, rfl, by omega, by go_num, Lib.hid ⟨by have := B1.out; rw [HT.out, List.map_append, ← List.append_assoc]; rw [← HN.out] at this; exact this, HP.out.2.trans U1.out⟩⟩
    · obtain rfl : i = m := by omega
      have hb := HP.out.1
      rw [show R.take i = R from List.take_of_length_le (by rw [← hm.out]; exact Nat.le_refl _)] at hb
      have HB := Lib.hid hb
      have HU := Lib.hid HP.out.2
      have hq := hb.bk.cell 11
      have hz := hb.bk.free 11
      have hn : t_.n ≤ 100000 := by have := hb.nt; omega
      obtain ⟨cA, cn, cc'⟩ := t_
      replace hq : wr.cell? ⟨gb, 11, none⟩ = some (.slice cA cn cc') := hq
      replace hn : cn ≤ 100000 := hn
      have hle := hb.le
      clear hb HP
      go_wp2_with (at_builtin; go_loud (refine wpList_append_two _ elemL_OwnTimes B0 _ _ rfl rfl cA cn cc' (ensC Lt) rfl (HB.out.ot.alloc _) (some ⟨wr.heap.size, 0, none⟩) 1 1 [.slice A i cc] rfl (Sl.one wr #[.slice A i cc] 54 1 rfl) (ensC_one [⟨A, i, cc⟩]) (by omega) (by decide) (by have := ((Ext.refl wr).alloc (.cells (#[.slice A i cc] : Array Value) 54)).size; omega) ?_); intro A3 c3 w3 o3 g3 x3; have HP := Lib.hid (HB.out.put_t (x := ⟨A, i, cc⟩) _ o3 g3 x3); have b3 : Bk w3 gb 52 (bookC r.v (.slice cA cn cc')) := (((Upd.refl (fun k => blk cA cc' = some k) wr).alloc _).grown g3 (fun k hk => .inl hk)).block gb (Array.getElem?_eq_some_iff.1 HB.out.bk).1 (fun e => by have := (HB.out.ot.lt gb e).1; have := HB.out.lt; omega) |>.trans HB.out.bk; have q3 := b3.cell 11; have z3 := b3.free 11; clear b3 o3 g3 x3)
      go_returns
      exact ⟨rfl, _, _, HP.out.1, HU.out.trans HP.out.2⟩
/-! ### lists of times that a call has made, from lo to hi -/
structure KT (w : World) (lo hi : Nat) (A : Option Addr) (c : Nat) (M : List Tm) : Prop where
  out : Tout w lo A c M
  top : ∀ k, blk A c = some k → k < hi
  tops : ∀ x ∈ M, ∀ k, blk x.A x.c = some k → k < hi
theorem KT.of {w : World} {lo : Nat} {A : Option Addr} {c : Nat} {M : List Tm} (h : Tout w lo A c M) : KT w lo w.heap.size A c M := ⟨h, fun k hk => (h.own.lt k hk).2, fun x hx k hk => ((h.ls x hx).1.lt k hk).2⟩
theorem KT.ext {w w' : World} {lo hi : Nat} {A : Option Addr} {c : Nat} {M : List Tm} (h : KT w lo hi A c M) (y : Ext w w') : KT w' lo hi A c M := ⟨h.out.ext y, h.top, h.tops⟩
theorem KT.upd {S : Nat → Prop} {w w' : World} {lo hi : Nat} {A : Option Addr} {c : Nat} {M : List Tm} (h : KT w lo hi A c M) (y : Upd S w w') (hS : ∀ k, lo ≤ k → k < hi → ¬ S k) : KT w' lo hi A c M :=
  ⟨⟨h.out.own.upd y (fun k hk => hS k (h.out.own.lt k hk).1 (h.top k hk)), fun x hx => ⟨(h.out.ls x hx).1.upd y (fun k hk => hS k ((h.out.ls x hx).1.lt k hk).1 (h.tops x hx k hk)), (h.out.ls x hx).2⟩, h.out.apart⟩, h.top, h.tops⟩
end Go.Proofs.YtmdakaflmheidaaGreatDoor
namespace Go.Proofs.YtmdakaflmheidaaGreatDoor
open Go.RowKit

/-- lists of one kind from lo on, below hi -/
structure Seg (w : World) (lo hi : Nat) (e : TypeId) (size : Nat) (P : List (En × List Value)) : Prop where
  hold : HoldAll w lo e size P
  far : Far P
  top : ∀ p ∈ P, ∀ k, p.1.b = some k → k < hi
theorem Seg.low {w : World} {lo hi : Nat} {e : TypeId} {size : Nat} {P : List (En × List Value)} (h : Seg w lo hi e size P) {p : En × List Value} (hp : p ∈ P) {k : Nat} (hk : p.1.b = some k) : lo ≤ k := ((h.hold p hp).lt k hk).1
theorem Seg.app {w : World} {lo hi lo2 hi2 : Nat} {e : TypeId} {size : Nat} {P Q : List (En × List Value)} (h : Seg w lo hi e size P) (h2 : Seg w lo2 hi2 e size Q) (a : hi ≤ lo2) (b : lo ≤ lo2) (c : hi ≤ hi2) : Seg w lo hi2 e size (P ++ Q) := by
  refine ⟨fun p hp => ?_, List.pairwise_append.2 ⟨h.far, h2.far, fun p hp q hq k e1 e2 => ?_⟩, fun p hp k hk => ?_⟩
  · rcases List.mem_append.1 hp with hp | hp
    · exact h.hold p hp
    · exact (h2.hold p hp).mono b
  · have := h.top p hp k e1
    have := h2.low hq e2
    omega
  · rcases List.mem_append.1 hp with hp | hp
    · have := h.top p hp k hk; omega
    · exact h2.top p hp k hk
theorem KT.segW {w : World} {lo hi : Nat} {A : Option Addr} {c : Nat} {M : List Tm} (h : KT w lo hi A c M) : Seg w lo hi 74 1 (M.map fun x => (enT x, wds x.l)) := by
  refine ⟨fun p hp => ?_, ?_, fun p hp k hk => ?_⟩
  · obtain ⟨x, hx, rfl⟩ := List.mem_map.1 hp
    exact (h.out.ls x hx).1
  · unfold Far
    rw [List.pairwise_map]
    exact h.out.apart
  · obtain ⟨x, hx, rfl⟩ := List.mem_map.1 hp
    exact h.tops x hx k hk
theorem KT.segT {w : World} {lo hi : Nat} {A : Option Addr} {c n : Nat} {M : List Tm} (h : KT w lo hi A c M) (hn : n = M.length) : Seg w lo hi 26 2 [(⟨A, n, c⟩, tmsC M)] := by
  subst hn
  refine ⟨fun p hp => ?_, List.pairwise_singleton _ _, fun p hp k hk => ?_⟩
  · rw [List.mem_singleton.1 hp]; exact h.out.own
  · rw [List.mem_singleton.1 hp] at hk; exact h.top k hk
theorem KP.seg {w : World} {lo hi : Nat} {e : TypeId} {size : Nat} {x : En} {xs : List Value} (h : KP w lo hi e size x xs) : Seg w lo hi e size [(x, xs)] := by
  refine ⟨fun p hp => ?_, List.pairwise_singleton _ _, fun p hp k hk => ?_⟩
  · rw [List.mem_singleton.1 hp]; exact h.own
  · rw [List.mem_singleton.1 hp] at hk; exact h.top k hk
theorem Seg.foot {w : World} {lo hi : Nat} {e : TypeId} {size : Nat} {P : List (En × List Value)} (h : Seg w lo hi e size P) {k : Nat} (hk : Foot (P.map (·.1)) k) : ∃ p ∈ P, p.1.b = some k ∧ lo ≤ k ∧ k < hi := by
  obtain ⟨x, hx, hb⟩ := foot_mem hk
  obtain ⟨p, hp, rfl⟩ := List.mem_map.1 hx
  exact ⟨p, hp, hb, h.low hp hb, h.top p hp k hb⟩
/-- the counters of three lists and of a time more; the three lists -/
theorem four_lists {w : World} {B l1 h1 l2 h2 l3 h3 l4 h4 : Nat} {A1 A2 A3 : Option Addr} {c1 c2 c3 n1 n2 n3 : Nat} {M1 M2 M3 : List Tm} {v : En} {xs : List Value}
    (k1 : KT w l1 h1 A1 c1 M1) (k2 : KT w l2 h2 A2 c2 M2) (k3 : KT w l3 h3 A3 c3 M3) (k4 : KP w l4 h4 74 1 v xs) (e1 : n1 = M1.length) (e2 : n2 = M2.length) (e3 : n3 = M3.length)
    (b : B ≤ l1) (q1 : l1 ≤ h1) (q2 : h1 ≤ l2) (q3 : l2 ≤ h2) (q4 : h2 ≤ l3) (q5 : l3 ≤ h3) (q6 : h3 ≤ l4) (q7 : l4 ≤ h4) :
    ∃ fw ft, Lists w B 74 1 (M1.map enT ++ M2.map enT ++ M3.map enT ++ [v]) fw ∧ Lists w B 26 2 [⟨A1, n1, c1⟩, ⟨A2, n2, c2⟩, ⟨A3, n3, c3⟩] ft ∧
      (∀ k, Foot (M1.map enT ++ M2.map enT ++ M3.map enT ++ [v]) k → ¬ Foot [⟨A1, n1, c1⟩, ⟨A2, n2, c2⟩, ⟨A3, n3, c3⟩] k) ∧
      ∀ k, OwnS (M1.map enT ++ M2.map enT ++ M3.map enT ++ [v]) [⟨A1, n1, c1⟩, ⟨A2, n2, c2⟩, ⟨A3, n3, c3⟩] k → B ≤ k ∧ k < h4 := by
  have sw := ((k1.segW.app k2.segW q2 (by omega) (by omega)).app k3.segW q4 (by omega) (by omega)).app k4.seg q6 (by omega) (by omega)
  have st := ((k1.segT e1).app (k2.segT e2) q2 (by omega) (by omega)).app (k3.segT e3) q4 (by omega) (by omega)
  have ew : ((M1.map (fun x => (enT x, wds x.l)) ++ M2.map (fun x => (enT x, wds x.l)) ++ M3.map (fun x => (enT x, wds x.l)) ++ [(v, xs)]).map (·.1)) = M1.map enT ++ M2.map enT ++ M3.map enT ++ [v] := by
    simp only [List.map_append, List.map_map]
    rfl
  have lw := lists_of sw.hold sw.far
  have lt := lists_of st.hold st.far
  rw [ew] at lw
  have lw2 : Lists w B 74 1 (M1.map enT ++ M2.map enT ++ M3.map enT ++ [v]) _ := ⟨fun i hi => (lw.own i hi).mono b, lw.apart⟩
  have lt2 : Lists w B 26 2 [⟨A1, n1, c1⟩, ⟨A2, n2, c2⟩, ⟨A3, n3, c3⟩] _ := ⟨fun i hi => (lt.own i hi).mono b, lt.apart⟩
  refine ⟨_, _, lw2, lt2, fun k hw ht => ?_, fun k hk => ?_⟩
  · rw [← ew] at hw
    obtain ⟨p, hp, hb, g1, g2⟩ := sw.foot hw
    obtain ⟨x, hx, hbx⟩ := foot_mem ht
    have r1 : ∀ {lo hi : Nat} {A : Option Addr} {c : Nat} {M : List Tm}, KT w lo hi A c M → p ∈ M.map (fun x => (enT x, wds x.l)) → lo ≤ k ∧ k < hi ∧ blk A c ≠ some k := fun kt hp => by
      obtain ⟨y, hy, rfl⟩ := List.mem_map.1 hp
      exact ⟨((kt.out.ls y hy).1.lt k hb).1, kt.tops y hy k hb, (kt.out.ls y hy).2 k hb⟩
    have t1 : ∀ {lo hi : Nat} {A : Option Addr} {c : Nat} {M : List Tm}, KT w lo hi A c M → blk A c = some k → lo ≤ k ∧ k < hi := fun kt h => ⟨(kt.out.own.lt k h).1, kt.top k h⟩
    simp only [List.mem_cons, List.not_mem_nil, or_false] at hx
    simp only [List.mem_append, List.mem_singleton] at hp
    rcases hx with rfl | rfl | rfl <;> rcases hp with ((hp | hp) | hp) | rfl
    · exact (r1 k1 hp).2.2 hbx
    · have a := r1 k2 hp; have b := t1 k1 hbx; omega
    · have a := r1 k3 hp; have b := t1 k1 hbx; omega
    · have a := (k4.own.lt k hb).1; have b := t1 k1 hbx; omega
    · have a := r1 k1 hp; have b := t1 k2 hbx; omega
    · exact (r1 k2 hp).2.2 hbx
    · have a := r1 k3 hp; have b := t1 k2 hbx; omega
    · have a := (k4.own.lt k hb).1; have b := t1 k2 hbx; omega
    · have a := r1 k1 hp; have b := t1 k3 hbx; omega
    · have a := r1 k2 hp; have b := t1 k3 hbx; omega
    · exact (r1 k3 hp).2.2 hbx
    · have a := (k4.own.lt k hb).1; have b := t1 k3 hbx; omega
  · rcases hk with hk | hk
    · rw [← ew] at hk
      obtain ⟨p, hp, hb, g1, g2⟩ := sw.foot hk
      omega
    · obtain ⟨p, hp, hb, g1, g2⟩ := st.foot (show Foot _ k from hk)
      omega
end Go.Proofs.YtmdakaflmheidaaGreatDoor
namespace Go.Proofs.YtmdakaflmheidaaGreatDoor
open Go.RowKit

def madeTms (n : Nat) : Obj := .cells (madeCells #[.int .u64 0, .slice none 0 0] (n * 2)) 26
theorem make_tms (n : Nat) (hn : n ≤ 1000000000) (W : World) : (Instr.makeSlice 54 (.int .i64 0) (.int .i64 (n : Int))).run Tryz.prog W = .ok (.slice (some ⟨W.heap.size, 0, none⟩) 0 n) (W.alloc (madeTms n)) := by
  obtain ⟨i, hi, hz, hs, hb⟩ := info_parts elemTimes.info
  have := run_make (P := Tryz.prog) (w := W) 54 26 i _ elemTimes.under hi hz .i64 .i64 0 (n : Int) (Int.le_refl _) (by omega) (by rw [hb]; omega) (by omega)
  rw [hs] at this
  exact this
theorem own_tms (W : World) (n : Nat) (hn : n ≤ 1000000000) : Own (W.alloc (madeTms n)) W.heap.size 26 2 (some ⟨W.heap.size, 0, none⟩) 0 n [] :=
  ⟨rfl, .inr ⟨W.heap.size, _, rfl, Nat.le_refl _, heap_alloc_new W _, Nat.zero_le _, by unfold maxLen; omega, size_madeCells _ _, rfl⟩⟩
def tmMark : Tm := ⟨91, none, 0, []⟩
/-- counters that were lent, in a block of their own -/
def LentTm (w : World) (B : Nat) (x : Tm) : Prop := Own w B 74 1 x.A (x.l.length + 2) x.c (wds (x.l ++ marksW))
def ApTm (L : List Tm) : Prop := L.Pairwise fun x y => ∀ a b, x.A = some a → y.A = some b → a.block ≠ b.block
/-- lent times, as they are made -/
structure LentTAt (w : World) (g n : Nat) (L : List Tm) (wr : World) (i : Nat) (O : List Tm) : Prop where
  own : Own wr w.heap.size 26 2 (some ⟨g, 0, none⟩) i (n + 1) (tmsC O)
  vals : O.map Tm.v = (L.take i).map Tm.v
  len : O.length = i
  rows : ∀ x ∈ O, LentTm wr w.heap.size x ∧ ∃ h, x.A = some ⟨h, 0, none⟩ ∧ g < h ∧ h < wr.heap.size
  apart : ApTm O
  ext : Ext w wr
  gg : w.heap.size ≤ g ∧ g < wr.heap.size
theorem LentTAt.mono {w wr wz : World} {g n i : Nat} {L O : List Tm} (h : LentTAt w g n L wr i O) (x : Ext wr wz) : LentTAt w g n L wz i O :=
  ⟨h.own.ext x, h.vals, h.len, fun y hy => ⟨Own.ext (h.rows y hy).1 x, by obtain ⟨k, e, q1, q2⟩ := (h.rows y hy).2; exact ⟨k, e, q1, by have := x.size; omega⟩⟩, h.apart, h.ext.trans x, by have := h.gg; have := x.size; omega⟩
theorem ownT_upd {w w' : World} {B size n c g k : Nat} {e : TypeId} {xs : List Value} (h : Own w B e size (some ⟨k, 0, none⟩) n c xs) (hx : w.grownBy w' (some g)) (hk : k ≠ g) : Own w' B e size (some ⟨k, 0, none⟩) n c xs :=
  h.kept hx (by
    cases c with
    | zero => exact .inl rfl
    | succ c => exact .inr fun e => by injection e with e; exact hk e)
theorem extT_grown {w w' : World} (x : Ext w w') (g : Nat) : w.grownBy w' (some g) := ⟨x.os, x.tape, x.output, x.size, fun k hk _ => x.block k hk⟩
theorem take_snocT {L : List Tm} {i : Nat} (h : i < L.length) : L.take (i + 1) = L.take i ++ [L.getD i Tm.zero] := by
  rw [List.take_succ_eq_append_getElem h, List.getD_eq_getElem?_getD, List.getElem?_eq_getElem h]
  rfl
theorem LentTAt.new {w w1 w3 w4 : World} {g n i h : Nat} {L O : List Tm} {x : Tm} {nx : Nat} (hL : LentTAt w g n L w1 i O) (hi : i < L.length) (hx : L.getD i Tm.zero = x) (hnx : nx = x.l.length) (x3 : Ext w1 w3) (h1 : w1.heap.size ≤ h) (h3 : h < w3.heap.size)
    (o3 : Own w3 w1.heap.size 74 1 (some ⟨h, 0, none⟩) (nx + 2) (nx + 2) (wds (x.l ++ marksW)))
    (o4 : Own w4 w.heap.size 26 2 (some ⟨g, 0, none⟩) (i + 1) (n + 1) (tmsC O ++ [.int .u64 x.e, .slice (some ⟨h, 0, none⟩) nx (nx + 2)])) (g4 : w3.grownBy w4 (some g)) : LentTAt w g n L w4 (i + 1) (O ++ [⟨x.e, some ⟨h, 0, none⟩, nx + 2, x.l⟩]) := by
  subst hnx
  have s3 := hL.mono x3
  have hg := hL.gg
  have hs4 := g4.size
  have hw := hL.ext.size
  refine ⟨by rw [tmsC_append]; exact o4, ?_, by rw [List.length_append, hL.len]; rfl, fun y hy => ?_, ?_, s3.ext.grown g4 (fun k e => by cases e; exact hg.1), by omega⟩
  · rw [take_snocT hi, hx, List.map_append, List.map_append, hL.vals]
    rfl
  · rcases List.mem_append.1 hy with hy | hy
    · obtain ⟨q1, k, q2, q3, q4⟩ := s3.rows y hy
      refine ⟨?_, k, q2, q3, by omega⟩
      unfold LentTm at q1 ⊢
      rw [q2] at q1 ⊢
      exact ownT_upd q1 g4 (by omega)
    · rw [List.mem_singleton.1 hy]
      exact ⟨Own.mono (ownT_upd o3 g4 (by omega)) hw, h, rfl, by omega, by omega⟩
  · refine List.pairwise_append.2 ⟨hL.apart, List.pairwise_singleton _ _, fun y hy b hb a1 b1 e1 e2 => ?_⟩
    rw [List.mem_singleton] at hb
    subst hb
    obtain ⟨_, k, q2, q3, q4⟩ := hL.rows y hy
    rw [q2] at e1
    cases e1
    cases e2
    show k ≠ h
    omega
/-- lent times: the list, a mark behind it, and their counters, marks behind them -/
structure LentTs (w : World) (B g n : Nat) (L : List Tm) : Prop where
  own : Own w B 26 2 (some ⟨g, 0, none⟩) (n + 1) (n + 1) (tmsC (L ++ [tmMark]))
  rows : ∀ x ∈ L, LentTm w B x ∧ ∃ h, x.A = some ⟨h, 0, none⟩ ∧ g < h ∧ h < w.heap.size
  apart : ApTm L
  len : L.length = n
theorem LentTs.ext {w w' : World} {B g n : Nat} {L : List Tm} (h : LentTs w B g n L) (x : Ext w w') : LentTs w' B g n L :=
  ⟨h.own.ext x, fun y hy => ⟨Own.ext (h.rows y hy).1 x, by obtain ⟨k, e, q1, q2⟩ := (h.rows y hy).2; exact ⟨k, e, q1, by have := x.size; omega⟩⟩, h.apart, h.len⟩
theorem LentTm.full {w : World} {B : Nat} {x : Tm} (h : LentTm w B x) : Sl w 1 x.A (x.l.length + 2) x.c (wds (x.l ++ marksW)) := Own.sl h
theorem LentTm.sl {w : World} {B : Nat} {x : Tm} (h : LentTm w B x) : Sl w 1 x.A x.l.length x.c (wds x.l) := words_left h.full rfl (by omega)
theorem LentTs.tin {w : World} {B g n : Nat} {L : List Tm} (h : LentTs w B g n L) : Tin w (some ⟨g, 0, none⟩) (n + 1) L := by
  refine ⟨?_, fun x hx => (h.rows x hx).1.sl⟩
  have := Sl.take (k := n) h.own.sl (by omega)
  rw [tmsC_append, List.take_left' (by rw [tmsC_len, h.len])] at this
  rw [h.len]
  exact this
def LentTsR (w : World) (n : Nat) (L : List Tm) (e : Ending) (w' : World) : Prop := ∃ g M, e = .returned (.slice (some ⟨g, 0, none⟩) n (n + 1)) ∧ w.heap.size ≤ g ∧ LentTs w' w.heap.size g n M ∧ M.map Tm.v = L.map Tm.v ∧ Ext w w'
set_option maxRecDepth 100000 in
set_option maxHeartbeats 4000000 in
theorem lentTs_any (A : Option Addr) (c n : Nat) (L : List Tm) (w : World) (hn : Hid (n = L.length)) (h : Hid (Tin w A c L)) (hs : n ≤ 1000000) (hr : Hid (∀ x ∈ L, x.l.length ≤ 1000000)) :
    Calls Tryz.prog 18 #[.slice A n c] w (LentTsR w n L) := by
  have hmk : ∀ W : World, (Instr.makeSlice 54 (.int .i64 0) (.int .i64 ((n : Int) + 1))).run Tryz.prog W = .ok (.slice (some ⟨W.heap.size, 0, none⟩) 0 (n + 1)) (W.alloc (madeTms (n + 1))) := make_tms (n + 1) (by omega)
  have HL0 : Hid (LentTAt w w.heap.size n L (w.alloc (madeTms (n + 1))) 0 []) := Lib.hid ⟨own_tms w (n + 1) (by omega), rfl, rfl, fun x hx => (nomatch hx), List.Pairwise.nil, (Ext.refl w).alloc _, by simp⟩
  go_enter Tryz.func18, Tryz.ntmps18
  go_wp2
  go_loopg [3, 4] n (fun z u v wr => ∃ (i : Nat) (O : List Tm), z = n - i ∧ i ≤ n ∧ u = .slice (some ⟨w.heap.size, 0, none⟩) i (n + 1) ∧ v = .int .i64 i ∧ Hid (LentTAt w w.heap.size n L wr i O))
  case atStart => exact ⟨0, [], rfl, Nat.zero_le _, rfl, rfl, HL0⟩
  case round =>
    clear HL0 hmk
    obtain ⟨i, O, rfl, hi, rfl, rfl, HP⟩ := hrel
    have hwg : w.heap.size < wr.heap.size := HP.out.gg.2
    by_cases hlt : i < n
    · have hil : i < L.length := by rw [← hn.out]; exact hlt
      obtain ⟨ad, rfl, p0, p1⟩ := (h.out.ext HP.out.ext).at hil
      have hm := getT_mem hil
      obtain ⟨x, hx⟩ : ∃ x, L.getD i Tm.zero = x := ⟨_, rfl⟩
      rw [hx] at p0 p1 hm
      obtain ⟨nx, hnx⟩ : ∃ nx, nx = x.l.length := ⟨_, rfl⟩
      rw [← hnx] at p1
      have hnx9 : nx ≤ 1000000 := by rw [hnx]; exact hr.out x hm
      have HNX := Lib.hid hnx
      have HX := Lib.hid hx
      have HIL := Lib.hid hil
      have HR2 : Hid (Sl wr 1 x.A nx x.c (wds x.l)) := Lib.hid (by rw [hnx]; exact (h.out.ls x hm).ext HP.out.ext)
      have m1 : True := trivial
      clear hil hm hx hnx
      go_wp2_with (first
        | (go_at_call 59; have mk := m1; clear m1 mk; go_loud (refine (lentTime_any x.e x.A x.c nx x.l _ HNX HR2 hnx9).mono ?_); rintro e w3 ⟨h3, rfl, o3, x3⟩; have O3 := Lib.hid o3; have hb4 : h3 < w3.heap.size := (o3.lt h3 rfl).2; have hb3 : wr.heap.size ≤ h3 := (o3.lt h3 rfl).1; have X3 := Lib.hid x3; have HS3 := Lib.hid (HP.out.mono x3); clear o3 x3)
        | (at_builtin; go_loud (refine wpList_append_fit _ elemTimes w.heap.size _ _ rfl rfl w.heap.size i (n + 1) (tmsC O) rfl (HS3.out.own.alloc _) (by omega) (some ⟨w3.heap.size, 0, none⟩) 1 1 [.int .u64 x.e, .slice (some ⟨h3, 0, none⟩) nx (nx + 2)] rfl (Sl.one w3 #[.int .u64 x.e, .slice (some ⟨h3, 0, none⟩) nx (nx + 2)] 26 2 rfl) (by intro u hu; simp at hu; rcases hu with rfl | rfl <;> rfl) (by omega) ?_); intro w4 o4 g4; have O4 := Lib.hid o4; have G4 := Lib.hid ((extT_grown ((Ext.refl w3).alloc (.cells #[.int .u64 x.e, .slice (some ⟨h3, 0, none⟩) nx (nx + 2)] 26)) w.heap.size).trans g4); clear o4 g4))
      go_roundg (n - (i + 1))
      case measure => omega
      case rel => exact ⟨i + 1, O ++ [⟨x.e, some ⟨h3, 0, none⟩, nx + 2, x.l⟩], rfl, by omega, rfl, by go_num, Lib.hid (HP.out.new HIL.out HX.out HNX.out X3.out hb3 hb4 O3.out O4.out G4.out)⟩
    · obtain rfl : i = n := by omega
      have HE := Lib.hid HP.out.own
      go_wp2_with (at_builtin; go_loud (refine wpList_append_fit _ elemTimes w.heap.size _ _ rfl rfl w.heap.size i (i + 1) (tmsC O) rfl (HE.out.alloc _) (by omega) (some ⟨wr.heap.size, 0, none⟩) 1 1 [.int .u64 91, .slice none 0 0] rfl (Sl.one wr #[.int .u64 91, .slice none 0 0] 26 2 rfl) (by intro u hu; simp at hu; rcases hu with rfl | rfl <;> rfl) (by omega) ?_); intro w4 o4 g4; have O4 := Lib.hid o4; have G4 := Lib.hid ((extT_grown ((Ext.refl wr).alloc (.cells #[.int .u64 91, .slice none 0 0] 26)) w.heap.size).trans g4); clear o4 g4)
      go_ret
      refine ⟨w.heap.size, O, by simp, Nat.le_refl _, ⟨by rw [tmsC_append]; exact O4.out, fun y hy => ?_, HP.out.apart, HP.out.len⟩, by rw [HP.out.vals, List.take_of_length_le (by rw [← hn.out]; exact Nat.le_refl _)], HP.out.ext.grown G4.out (fun k e => by cases e; exact Nat.le_refl _)⟩
      obtain ⟨q1, k, q2, q3, q4⟩ := HP.out.rows y hy
      refine ⟨?_, k, q2, q3, by have := G4.out.size; omega⟩
      unfold LentTm at q1 ⊢
      rw [q2] at q1 ⊢
      exact ownT_upd q1 G4.out (by omega)
theorem tm_val_at {L M : List Tm} (h : M.map Tm.v = L.map Tm.v) {i : Nat} (hi : i < M.length) : (M.getD i Tm.zero).e = (L.getD i Tm.zero).e ∧ (M.getD i Tm.zero).l = (L.getD i Tm.zero).l := by
  have hl : L.length = M.length := by have := congrArg List.length h; simpa using this.symm
  have h1 := getT_v hi
  have h2 := getT_v (L := L) (i := i) (by omega)
  simp only [h] at h1
  rw [h2] at h1
  exact ⟨(congrArg Prod.fst h1).symm, (congrArg Prod.snd h1).symm⟩
set_option maxRecDepth 100000 in
set_option maxHeartbeats 4000000 in
theorem wholeTs_any (A2 : Option Addr) (c2 n B g : Nat) (L M : List Tm) (w : World) (hm : Hid (n = L.length)) (hs : n ≤ 1000000) (h1 : Hid (LentTs w B g n M)) (h2 : Hid (Tin w A2 c2 L)) (he : Hid (M.map Tm.v = L.map Tm.v)) (hr : Hid (∀ x ∈ L, x.l.length ≤ 1000000)) :
    Calls Tryz.prog 25 #[.slice (some ⟨g, 0, none⟩) n (n + 1), .slice A2 n c2] w fun e w' => e = .returned (.bool true) ∧ Ext w w' := by
  obtain ⟨g', eg, _, _, _, hc, _⟩ := h1.out.own.form (by omega)
  cases eg
  have pm : w.cell? ⟨g, n * 2, none⟩ = some (.int .u64 91) := hc _ _ (by
    have := tmsC_at (M ++ [tmMark]) n 0 (by rw [List.length_append, h1.out.len]; exact Nat.lt_succ_self n) (by decide)
    rw [Nat.add_zero, show (M ++ [tmMark]).getD n Tm.zero = tmMark from by rw [List.getD_eq_getElem?_getD, List.getElem?_append_right (by rw [h1.out.len]; exact Nat.le_refl _), h1.out.len, Nat.sub_self]; rfl] at this
    exact this)
  clear hc
  go_enter Tryz.func25, Tryz.ntmps25
  go_wp2
  go_loopw [5] (fun v wr => ∃ i : Nat, i ≤ n ∧ v = .int .i64 i ∧ Ext w wr) (fun v _ => n - (intOf v).toNat)
  case atStart => exact ⟨0, Nat.zero_le _, rfl, Ext.refl _⟩
  case round =>
    obtain ⟨i, hi, rfl, er⟩ := hrel
    clear pm
    by_cases hlt : i < n
    · have hil : i < M.length := by rw [h1.out.len]; exact hlt
      have him : i < L.length := by rw [← hm.out]; exact hlt
      obtain ⟨ad, eA, p0, p1⟩ := (h1.out.tin.ext er).at hil
      cases eA
      obtain ⟨bd, rfl, q0, q1⟩ := (h2.out.ext er).at him
      have hr1 := (h1.out.rows _ (getT_mem hil)).1.full
      have hr2 := h2.out.ls _ (getT_mem him)
      have hrl := hr.out _ (getT_mem him)
      obtain ⟨e1, e2⟩ := tm_val_at he.out hil
      rw [e1] at p0
      rw [e2] at p1 hr1
      obtain ⟨x, hx⟩ : ∃ x, M.getD i Tm.zero = x := ⟨_, rfl⟩
      obtain ⟨y, hy⟩ : ∃ y, L.getD i Tm.zero = y := ⟨_, rfl⟩
      rw [hx, hy] at p1 hr1
      rw [hy] at p0 q0 q1 hr2 hrl
      obtain ⟨nx, hnx⟩ : ∃ nx, nx = y.l.length := ⟨_, rfl⟩
      rw [← hnx] at p1 q1 hrl hr1 hr2
      have hrl9 : nx ≤ 1000000000 := by omega
      have HNX := Lib.hid hnx
      have XE : Ext wr wr.drew := (Ext.refl wr).drew
      have HR1 : Hid (Sl wr.drew 1 x.A (nx + 2) x.c (wds (y.l ++ marksW))) := Lib.hid ((hr1.ext er).ext XE)
      have HR2 : Hid (Sl wr.drew 1 y.A nx y.c (wds y.l)) := Lib.hid ((hr2.ext er).ext XE)
      rw [show (⟨g, 0, none⟩ : Addr).add (i * 2) = ⟨g, i * 2, none⟩ from by unfold Addr.add; split <;> simp_all] at p0 p1
      have P0 : ∀ z : Xt wr.drew, z.W.cell? ⟨g, i * 2, none⟩ = some (.int .u64 y.e) := fun z => (XE.trans z.x).cell p0
      have P1 : ∀ z : Xt wr.drew, z.W.cell? ⟨g, i * 2 + 1, none⟩ = some (.slice x.A nx x.c) := fun z => (XE.trans z.x).cell p1
      have Q0 : ∀ z : Xt wr.drew, z.W.cell? (bd.add (i * 2)) = some (.int .u64 y.e) := fun z => (XE.trans z.x).cell q0
      have Q1 : ∀ z : Xt wr.drew, z.W.cell? ⟨(bd.add (i * 2)).block, (bd.add (i * 2)).off + 1, none⟩ = some (.slice y.A nx y.c) := fun z => (XE.trans z.x).cell q1
      clear hil him hr1 hr2 e1 e2 hx hy hnx p0 p1 q0 q1 hrl
      go_upto_region 6 with fail
      refine wp_region_ord [0,0,3,7,0,0,48,112,255,511] (.flo [0,1,2,3,4,5,6,7] (.one 8 (.flo [9] (.fin)))) (by kernel_rfl) (by kernel_rfl) (by intro _ _ d _ _ h; cases d <;> exact h) ?_
      (refine ord_flo (pick_cons rfl (pick_cons rfl (pick_cons rfl (pick_cons rfl (pick_cons rfl (pick_cons rfl (pick_cons rfl (pick_cons rfl pick_nil)))))))) ?_; (repeat (go_big_quiet_step (fail))); refine wpQuiet_nil ?_; show ordWalk _ _ _ _ _ _ _)
      refine ord_one (pick_cons rfl pick_nil) ?_; intro K_ hK_
      go_wp2_with (go_at_call 67; go_loud (refine (wholeTime_any y.e x.A y.A x.c y.c nx y.l _ HNX hrl9 HR1 HR2).mono ?_); rintro e w1 ⟨rfl, x1⟩)
      (refine ord_flo (pick_cons rfl pick_nil) ?_; (repeat (go_big_quiet_step (fail))); refine wpQuiet_nil ?_; show ordWalk _ _ _ _ _ _ _)
      refine ord_fin ?_
      go_wp2
      go_roundw
      case rel => exact ⟨i + 1, by omega, by go_num, er.trans (XE.trans x1)⟩
      case measure => simp [intOf]; omega
    · go_wp2
      go_ret
      exact ⟨rfl, er⟩
end Go.Proofs.YtmdakaflmheidaaGreatDoor
namespace Go.Proofs.YtmdakaflmheidaaGreatDoor
open Go.RowKit

/-- the blocks of lent times -/
def LentTS (g : Nat) (L : List Tm) (k : Nat) : Prop := k = g ∨ ∃ x ∈ L, blk x.A x.c = some k
theorem blkT_some {A : Option Addr} {c k : Nat} (h : blk A c = some k) : ∃ a, A = some a ∧ a.block = k := by
  unfold blk at h
  cases A with
  | none => simp at h
  | some a =>
    cases c with
    | zero => simp at h
    | succ c => exact ⟨a, rfl, by simpa using h⟩
theorem lentT_apart {L : List Tm} (h : ApTm L) {i j : Nat} (hi : i < L.length) (hj : j < L.length) (hij : i < j) {k : Nat} (h1 : blk (L.getD i Tm.zero).A (L.getD i Tm.zero).c = some k) : blk (L.getD j Tm.zero).A (L.getD j Tm.zero).c ≠ some k := by
  intro h2
  rw [List.getD_eq_getElem?_getD, List.getElem?_eq_getElem hi] at h1
  rw [List.getD_eq_getElem?_getD, List.getElem?_eq_getElem hj] at h2
  obtain ⟨a, e1, e2⟩ := blkT_some h1
  obtain ⟨b, e3, e4⟩ := blkT_some h2
  have := List.pairwise_iff_getElem.1 h i j hi hj hij a b (by simpa using e1) (by simpa using e3)
  omega
set_option maxRecDepth 100000 in
set_option maxHeartbeats 4000000 in
theorem spoilTs_any (g n B : Nat) (L : List Tm) (w : World) (h : Hid (LentTs w B g n L)) (hn : n ≤ 1000000) :
    Calls Tryz.prog 26 #[.slice (some ⟨g, 0, none⟩) n (n + 1)] w fun e w' => e = .returned (.tuple #[]) ∧ Upd (LentTS g L) w w' := by
  have HL := Lib.hid h.out.len
  have HP0 : Hid (∀ j, 0 ≤ j → j < n → LentTm w B (L.getD j Tm.zero)) := Lib.hid (fun j _ hj => (h.out.rows _ (getT_mem (by rw [HL.out]; exact hj))).1)
  have HG : Hid (∀ j, j < n → ∃ k, (L.getD j Tm.zero).A = some ⟨k, 0, none⟩ ∧ g < k) := Lib.hid (fun j hj => by
    obtain ⟨_, k, e1, e2, _⟩ := h.out.rows _ (getT_mem (show j < L.length by rw [HL.out]; exact hj))
    exact ⟨k, e1, e2⟩)
  have HA := Lib.hid h.out.apart
  have HO0 := Lib.hid h.out.own
  go_enter Tryz.func26, Tryz.ntmps26
  go_wp2
  go_loopg [2] n (fun z v wr => ∃ i : Nat, z = n - i ∧ i ≤ n ∧ v = .int .i64 i ∧ Hid (Own wr B 26 2 (some ⟨g, 0, none⟩) (n + 1) (n + 1) (tmsC (L ++ [tmMark]))) ∧ Hid (∀ j, i ≤ j → j < n → LentTm wr B (L.getD j Tm.zero)) ∧ Hid (Upd (LentTS g L) w wr))
  case atStart => exact ⟨0, rfl, Nat.zero_le _, rfl, HO0, HP0, Lib.hid (Upd.refl _ _)⟩
  case round =>
    clear HO0 HP0
    obtain ⟨i, rfl, hi, rfl, HO, HP, HU⟩ := hrel
    by_cases hlt : i < n
    · have hil : i < L.length := by rw [HL.out]; exact hlt
      have hrow := HP.out i (Nat.le_refl _) hlt
      obtain ⟨k, eA, hgk⟩ := HG.out i hlt
      have hx : (tmsC (L ++ [tmMark]))[i * 2 + 1]? = some (.slice (L.getD i Tm.zero).A (L.getD i Tm.zero).l.length (L.getD i Tm.zero).c) := by
        have := tmsC_at (L ++ [tmMark]) i 1 (by rw [List.length_append]; omega) (by omega)
        rw [List.getD_eq_getElem?_getD, List.getElem?_append_left hil, ← List.getD_eq_getElem?_getD] at this
        exact this
      obtain ⟨_, eg, _, _, _, hcl, _⟩ := HO.out.form (by omega)
      cases eg
      have p0 := hcl _ _ hx
      have hmem := getT_mem hil
      have hap : ∀ j, i + 1 ≤ j → j < n → ∀ q, blk (L.getD i Tm.zero).A (L.getD i Tm.zero).c = some q → blk (L.getD j Tm.zero).A (L.getD j Tm.zero).c ≠ some q := fun j h1 h2 q hq => lentT_apart HA.out hil (by rw [HL.out]; exact h2) (by omega) hq
      obtain ⟨x, hxx⟩ : ∃ x, L.getD i Tm.zero = x := ⟨_, rfl⟩
      rw [hxx] at hrow eA p0 hmem hap
      obtain ⟨ee, A, c, l⟩ := x
      obtain rfl : A = some ⟨k, 0, none⟩ := eA
      obtain ⟨nl, hnl⟩ : ∃ nl, l.length = nl := ⟨_, rfl⟩
      replace p0 : wr.cell? ⟨g, i * 2 + 1, none⟩ = some (.slice (some ⟨k, 0, none⟩) nl c) := by rw [← hnl]; exact p0
      have HR : Hid (Own wr B 74 1 (some ⟨k, 0, none⟩) (nl + 2) c (wds (l ++ marksW))) := Lib.hid (by rw [← hnl]; exact hrow)
      have hnc : nl ≤ c := by have := HR.out.le.1; omega
      have HM : Hid (⟨ee, some ⟨k, 0, none⟩, c, l⟩ ∈ L) := Lib.hid hmem
      have HAp := Lib.hid hap
      clear hrow hmem hap hcl hx hxx hnl hil
      go_wp2_with (go_at_call 68; go_loud (refine (spoilWords_any (some ⟨k, 0, none⟩) nl (nl + 2) c B _ _ HR hnc).mono ?_); rintro e w1 ⟨rfl, x1⟩)
      have hb : ∀ q, blk (some ⟨k, 0, none⟩) c = some q → q = k := fun q hq => by
        obtain ⟨a, e1, e2⟩ := blkT_some hq
        cases e1
        exact e2.symm
      go_roundg (n - (i + 1))
      case measure => omega
      case rel => exact ⟨i + 1, rfl, by omega, by go_num, Lib.hid (HO.out.upd x1 (fun q hq hq2 => by
          have h1 := hb q hq2
          obtain ⟨a, e1, e2⟩ := blkT_some hq
          cases e1
          simp only at e2
          omega)), Lib.hid (fun j h1 h2 => Own.upd (HP.out j (by omega) h2) x1 (fun q hq hq2 => HAp.out j h1 h2 q hq2 hq)), Lib.hid (HU.out.trans (x1.mono (fun q _ hq => .inr ⟨_, HM.out, hq⟩)))⟩
    · obtain rfl : i = n := by omega
      obtain ⟨ys, hy⟩ := HO.out.fullW
      have HY := Lib.hid hy
      clear hy
      go_wp2
      go_loopg [4] (i + 1) (fun z v wr => ∃ (j : Nat) (ys : List Value), z = i + 1 - j ∧ j ≤ i + 1 ∧ v = .int .i64 j ∧ Hid (Own wr B 26 2 (some ⟨g, 0, none⟩) (i + 1) (i + 1) ys) ∧ Hid (Upd (LentTS g L) w wr))
      case atStart => exact ⟨0, ys, rfl, Nat.zero_le _, rfl, HY, HU⟩
      case round =>
        clear HY HU
        obtain ⟨j, ys, rfl, hj, rfl, HY, HU⟩ := hrel
        by_cases hlt2 : j < i + 1
        · obtain ⟨_, eg, _, _, _, hcl, hfz⟩ := HY.out.form (by omega)
          cases eg
          have hl : ys.length = (i + 1) * 2 := HY.out.1
          have q0 : wr.cell? ⟨g, j * 2, none⟩ = some (ys[j * 2]'(by omega)) := hcl _ _ (List.getElem?_eq_getElem (by omega))
          have q1 : wr.cell? ⟨g, j * 2 + 1, none⟩ = some (ys[j * 2 + 1]'(by omega)) := hcl _ _ (List.getElem?_eq_getElem (by omega))
          have z0 := hfz (j * 2)
          have z1 := hfz (j * 2 + 1)
          clear hcl hfz
          go_wp2
          go_roundg (i + 1 - (j + 1))
          case measure => omega
          case rel => exact ⟨j + 1, _, rfl, by omega, by go_num, Lib.hid ((HY.out.put (j * 2) (.int .u64 93)).put (j * 2 + 1) (.slice none 0 0)), Lib.hid ((HU.out.setCell (p := ⟨g, j * 2, none⟩) (.inl (.inl rfl)) _).setCell (p := ⟨g, j * 2 + 1, none⟩) (.inl (.inl rfl)) _)⟩
        · obtain rfl : j = i + 1 := by omega
          go_wp2
          go_returns
          exact ⟨rfl, HU.out⟩
end Go.Proofs.YtmdakaflmheidaaGreatDoor
namespace Go.Proofs.YtmdakaflmheidaaGreatDoor
open Go.RowKit

structure KL (w : World) (lo hi g n : Nat) (M : List Tm) : Prop where
  lent : LentTs w lo g n M
  top : g < hi ∧ ∀ x ∈ M, ∀ k, x.A = some ⟨k, 0, none⟩ → k < hi
theorem KL.of {w : World} {lo g n : Nat} {M : List Tm} (h : LentTs w lo g n M) : KL w lo w.heap.size g n M :=
  ⟨h, (h.own.lt g rfl).2, fun x hx k hk => by
    obtain ⟨_, q, e, _, q2⟩ := h.rows x hx
    rw [hk] at e
    injection e with e
    injection e with e
    omega⟩
theorem KL.ext {w w' : World} {lo hi g n : Nat} {M : List Tm} (h : KL w lo hi g n M) (y : Ext w w') : KL w' lo hi g n M := ⟨h.lent.ext y, h.top⟩
theorem KL.upd {S : Nat → Prop} {w w' : World} {lo hi g n : Nat} {M : List Tm} (h : KL w lo hi g n M) (y : Upd S w w') (hS : ∀ k, lo ≤ k → k < hi → ¬ S k) : KL w' lo hi g n M := by
  refine ⟨⟨h.lent.own.upd y (fun k hk => hS k (h.lent.own.lt k hk).1 (by have e : g = k := Option.some.inj hk; have := h.top.1; omega)), fun x hx => ?_, h.lent.apart, h.lent.len⟩, h.top⟩
  obtain ⟨r, q, e, q1, q2⟩ := h.lent.rows x hx
  refine ⟨Own.upd r y (fun k hk => hS k (r.lt k hk).1 ?_), q, e, q1, Nat.lt_of_lt_of_le q2 y.size⟩
  obtain ⟨a, e1, e2⟩ := blkT_some hk
  rw [e] at e1
  injection e1 with e1
  subst e1
  have := h.top.2 x hx q e
  simp only at e2
  omega
theorem KL.iv {w w' : World} {lo hi g n : Nat} {M : List Tm} (h : KL w lo hi g n M) (u : Upd (LentTS g M) w w') : Upd (fun k => lo ≤ k ∧ k < hi) w w' :=
  u.mono (fun k _ hk => by
    rcases hk with rfl | ⟨x, hx, hb⟩
    · exact ⟨(h.lent.own.lt _ rfl).1, h.top.1⟩
    · obtain ⟨r, q, e, q1, q2⟩ := h.lent.rows x hx
      refine ⟨(r.lt k hb).1, ?_⟩
      obtain ⟨a, e1, e2⟩ := blkT_some hb
      rw [e] at e1
      injection e1 with e1
      subst e1
      have := h.top.2 x hx q e
      simp only at e2
      omega)
end Go.Proofs.YtmdakaflmheidaaGreatDoor
