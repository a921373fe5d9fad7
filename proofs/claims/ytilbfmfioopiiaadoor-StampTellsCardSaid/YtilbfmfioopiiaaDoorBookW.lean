/- penstockref00.Book: Words, Own. Conditions: the lists lie elsewhere than the Book's own; each in memory of its own. -/
import Derived.Test.YtilbfmfioopiiaaDoorOwnWords
namespace Go.Proofs.YtilbfmfioopiiaaDoor
open Go.RowKit

set_option maxRecDepth 100000 in
set_option maxHeartbeats 400000 in
theorem ownBytes_nil (w : World) : Calls Tryd.prog 43 #[.slice none 0 0] w fun e w' => e = .returned (.bool true) ∧ w = w' := by
  go_enter Tryd.func43, Tryd.ntmps43
  go_wp2
  refine wp_loop_rounds 1 ?_
  rw [rounds_succ]
  go_wp2
  refine wp_loop_rounds 1 ?_
  rw [rounds_succ]
  go_wp2
  refine wp_loop_rounds 1 ?_
  rw [rounds_succ]
  go_wp2
  go_ret
  exact ⟨rfl, rfl⟩
set_option maxRecDepth 100000 in
set_option maxHeartbeats 400000 in
theorem ownTexts_nil (w : World) : Calls Tryd.prog 44 #[.slice none 0 0] w fun e w' => e = .returned (.bool true) ∧ w = w' := by
  go_enter Tryd.func44, Tryd.ntmps44
  go_wp2
  refine wp_loop_rounds 1 ?_
  rw [rounds_succ]
  go_wp2
  refine wp_loop_rounds 1 ?_
  rw [rounds_succ]
  go_wp2
  refine wp_loop_rounds 1 ?_
  rw [rounds_succ]
  go_wp2
  go_ret
  exact ⟨rfl, rfl⟩
set_option maxRecDepth 100000 in
set_option maxHeartbeats 400000 in
theorem ownInts_nil (w : World) : Calls Tryd.prog 45 #[.slice none 0 0] w fun e w' => e = .returned (.bool true) ∧ w = w' := by
  go_enter Tryd.func45, Tryd.ntmps45
  go_wp2
  refine wp_loop_rounds 1 ?_
  rw [rounds_succ]
  go_wp2
  refine wp_loop_rounds 1 ?_
  rw [rounds_succ]
  go_wp2
  refine wp_loop_rounds 1 ?_
  rw [rounds_succ]
  go_wp2
  go_ret
  exact ⟨rfl, rfl⟩
set_option maxRecDepth 100000 in
set_option maxHeartbeats 400000 in
theorem ownRow_nil (w : World) : Calls Tryd.prog 47 #[.slice none 0 0] w fun e w' => e = .returned (.bool true) ∧ w = w' := by
  go_enter Tryd.func47, Tryd.ntmps47
  go_wp2
  refine wp_loop_rounds 1 ?_
  rw [rounds_succ]
  go_wp2
  refine wp_loop_rounds 1 ?_
  rw [rounds_succ]
  go_wp2
  refine wp_loop_rounds 1 ?_
  rw [rounds_succ]
  go_wp2
  go_ret
  exact ⟨rfl, rfl⟩
set_option maxRecDepth 100000 in
set_option maxHeartbeats 400000 in
theorem ownSorts_nil (w : World) : Calls Tryd.prog 48 #[.slice none 0 0] w fun e w' => e = .returned (.bool true) ∧ w = w' := by
  go_enter Tryd.func48, Tryd.ntmps48
  go_wp2
  refine wp_loop_rounds 1 ?_
  rw [rounds_succ]
  go_wp2
  refine wp_loop_rounds 1 ?_
  rw [rounds_succ]
  go_wp2
  refine wp_loop_rounds 1 ?_
  rw [rounds_succ]
  go_wp2
  go_ret
  exact ⟨rfl, rfl⟩
set_option maxRecDepth 100000 in
set_option maxHeartbeats 400000 in
theorem ownPairs_nil (w : World) : Calls Tryd.prog 49 #[.slice none 0 0] w fun e w' => e = .returned (.bool true) ∧ w = w' := by
  go_enter Tryd.func49, Tryd.ntmps49
  go_wp2
  refine wp_loop_rounds 1 ?_
  rw [rounds_succ]
  go_wp2
  refine wp_loop_rounds 1 ?_
  rw [rounds_succ]
  go_wp2
  refine wp_loop_rounds 1 ?_
  rw [rounds_succ]
  go_wp2
  go_ret
  exact ⟨rfl, rfl⟩
set_option maxRecDepth 100000 in
set_option maxHeartbeats 400000 in
theorem ownFaults_nil (w : World) : Calls Tryd.prog 50 #[.slice none 0 0] w fun e w' => e = .returned (.bool true) ∧ w = w' := by
  go_enter Tryd.func50, Tryd.ntmps50
  go_wp2
  refine wp_loop_rounds 1 ?_
  rw [rounds_succ]
  go_wp2
  refine wp_loop_rounds 1 ?_
  rw [rounds_succ]
  go_wp2
  refine wp_loop_rounds 1 ?_
  rw [rounds_succ]
  go_wp2
  go_ret
  exact ⟨rfl, rfl⟩
set_option maxRecDepth 100000 in
set_option maxHeartbeats 400000 in
theorem ownColumns_nil (w : World) : Calls Tryd.prog 51 #[.slice none 0 0] w fun e w' => e = .returned (.bool true) ∧ w = w' := by
  go_enter Tryd.func51, Tryd.ntmps51
  go_wp2
  refine wp_loop_rounds 1 ?_
  rw [rounds_succ]
  go_wp2
  refine wp_loop_rounds 1 ?_
  rw [rounds_succ]
  go_wp2
  refine wp_loop_rounds 1 ?_
  rw [rounds_succ]
  go_wp2
  go_ret
  exact ⟨rfl, rfl⟩
set_option maxRecDepth 100000 in
set_option maxHeartbeats 400000 in
theorem ownCounteds_nil (w : World) : Calls Tryd.prog 52 #[.slice none 0 0] w fun e w' => e = .returned (.bool true) ∧ w = w' := by
  go_enter Tryd.func52, Tryd.ntmps52
  go_wp2
  refine wp_loop_rounds 1 ?_
  rw [rounds_succ]
  go_wp2
  refine wp_loop_rounds 1 ?_
  rw [rounds_succ]
  go_wp2
  refine wp_loop_rounds 1 ?_
  rw [rounds_succ]
  go_wp2
  go_ret
  exact ⟨rfl, rfl⟩
set_option maxRecDepth 100000 in
set_option maxHeartbeats 400000 in
theorem ownUpdates_nil (w : World) : Calls Tryd.prog 53 #[.slice none 0 0] w fun e w' => e = .returned (.bool true) ∧ w = w' := by
  go_enter Tryd.func53, Tryd.ntmps53
  go_wp2
  refine wp_loop_rounds 1 ?_
  rw [rounds_succ]
  go_wp2
  refine wp_loop_rounds 1 ?_
  rw [rounds_succ]
  go_wp2
  refine wp_loop_rounds 1 ?_
  rw [rounds_succ]
  go_wp2
  go_ret
  exact ⟨rfl, rfl⟩
set_option maxRecDepth 100000 in
set_option maxHeartbeats 400000 in
theorem ownTimes_nil (w : World) : Calls Tryd.prog 54 #[.slice none 0 0] w fun e w' => e = .returned (.bool true) ∧ w = w' := by
  go_enter Tryd.func54, Tryd.ntmps54
  go_wp2
  refine wp_loop_rounds 1 ?_
  rw [rounds_succ]
  go_wp2
  refine wp_loop_rounds 1 ?_
  rw [rounds_succ]
  go_wp2
  refine wp_loop_rounds 1 ?_
  rw [rounds_succ]
  go_wp2
  go_ret
  exact ⟨rfl, rfl⟩
set_option maxRecDepth 100000 in
set_option maxHeartbeats 400000 in
theorem ownExprs_nil (w : World) : Calls Tryd.prog 55 #[.slice none 0 0] w fun e w' => e = .returned (.bool true) ∧ w = w' := by
  go_enter Tryd.func55, Tryd.ntmps55
  go_wp2
  refine wp_loop_rounds 1 ?_
  rw [rounds_succ]
  go_wp2
  refine wp_loop_rounds 1 ?_
  rw [rounds_succ]
  go_wp2
  refine wp_loop_rounds 1 ?_
  rw [rounds_succ]
  go_wp2
  go_ret
  exact ⟨rfl, rfl⟩
set_option maxRecDepth 100000 in
set_option maxHeartbeats 400000 in
theorem ownRels_nil (w : World) : Calls Tryd.prog 56 #[.slice none 0 0] w fun e w' => e = .returned (.bool true) ∧ w = w' := by
  go_enter Tryd.func56, Tryd.ntmps56
  go_wp2
  refine wp_loop_rounds 1 ?_
  rw [rounds_succ]
  go_wp2
  refine wp_loop_rounds 1 ?_
  rw [rounds_succ]
  go_wp2
  refine wp_loop_rounds 1 ?_
  rw [rounds_succ]
  go_wp2
  go_ret
  exact ⟨rfl, rfl⟩
def bookC (w_ : Value) : Array Value := #[.slice none 0 0, .slice none 0 0, .slice none 0 0, w_, .slice none 0 0, .slice none 0 0, .slice none 0 0, .slice none 0 0, .slice none 0 0, .slice none 0 0, .slice none 0 0, .slice none 0 0, .slice none 0 0, .slice none 0 0]
/-- the Book at gb, its lists from B0 on -/
structure BookAt (w : World) (gb B0 : Nat) (Lw : List En) (w_ : En) : Prop where
  bk : Bk w gb 61 (bookC w_.v)
  lt : gb < B0
  le : B0 ≤ w.heap.size
  ow : Own w B0 23 1 w_.A w_.n w_.c (ensC Lw)
  nw : w_.n = Lw.length
theorem BookAt.ext {w w' : World} {gb B0 : Nat} {Lw : List En} {w_ : En} (h : BookAt w gb B0 Lw w_) (x : Ext w w') : BookAt w' gb B0 Lw w_ :=
  ⟨h.bk.ext x, h.lt, Nat.le_trans h.le x.size, h.ow.ext x, h.nw⟩
theorem BookAt.upd {S : Nat → Prop} {w w' : World} {gb B0 : Nat} {Lw : List En} {w_ : En} (h : BookAt w gb B0 Lw w_) (x : Upd S w w') (hg : ¬ S gb) (hS : ∀ k, B0 ≤ k → ¬ S k) : BookAt w' gb B0 Lw w_ :=
  ⟨(x.block gb (Array.getElem?_eq_some_iff.1 h.bk).1 hg).trans h.bk, h.lt, Nat.le_trans h.le x.size, h.ow.upd x (fun k hk => hS k (h.ow.lt k hk).1), h.nw⟩
theorem book_new {w : World} {gb : Nat} (h : Bk w gb 61 #[.slice none 0 0, .slice none 0 0, .slice none 0 0, .slice none 0 0, .slice none 0 0, .slice none 0 0, .slice none 0 0, .slice none 0 0, .slice none 0 0, .slice none 0 0, .slice none 0 0, .slice none 0 0, .slice none 0 0, .slice none 0 0]) : BookAt w gb w.heap.size [] En.zero :=
  ⟨h, h.lt, Nat.le_refl _, Own.nil _ _ _ _, rfl⟩
/-- the blocks that the Book's methods may turn -/
def BookS (gb B0 : Nat) (k : Nat) : Prop := k = gb ∨ B0 ≤ k
theorem BookAt.put_w {w w3 : World} {gb B0 : Nat} {Lw : List En} {w_ : En} {x : En} (h : BookAt w gb B0 Lw w_) (ob : Obj) {A3 : Option Addr} {c3 : Nat}
    (o3 : Own w3 B0 23 1 A3 (w_.n + 1) c3 (ensC Lw ++ [x.v])) (g3 : (w.alloc ob).grownBy w3 (blk w_.A w_.c)) (x3 : (A3 = w_.A ∧ c3 = w_.c) ∨ (blk A3 c3 = some (w.alloc ob).heap.size ∧ Ext (w.alloc ob) w3)) :
    BookAt (w3.setCell ⟨gb, 3, none⟩ (.slice A3 (w_.n + 1) c3)) gb B0 (Lw ++ [x]) ⟨A3, w_.n + 1, c3⟩ ∧ Upd (BookS gb B0) w (w3.setCell ⟨gb, 3, none⟩ (.slice A3 (w_.n + 1) c3)) := by
  have hsz := ((Ext.refl w).alloc ob).size
  have hrow : ∀ k, blk w_.A w_.c = some k → B0 ≤ k := fun k hk => (h.ow.lt k hk).1
  have hgb := (Array.getElem?_eq_some_iff.1 h.bk).1
  have u3 : Upd (fun k => blk w_.A w_.c = some k) w w3 := ((Upd.refl _ w).alloc ob).grown g3 (fun k hk => .inl hk)
  have ngb : ∀ {A : Option Addr} {c n : Nat} {e : TypeId} {xs : List Value}, Own w3 B0 e 1 A n c xs → blk A c ≠ some gb := fun o e => by have := (o.lt gb e).1; have := h.lt; omega
  have hnew : ∀ k, blk A3 c3 = some k → blk w_.A w_.c = some k ∨ w.heap.size ≤ k := fun k hk => by
    rcases x3 with ⟨rfl, rfl⟩ | ⟨h1, _⟩
    · exact .inl hk
    · rw [h1] at hk; injection hk with hk; exact .inr (by omega)
  have bk3 : Bk w3 gb 61 (bookC w_.v) := (u3.block gb hgb (fun e => by have := hrow gb e; have := h.lt; omega)).trans h.bk
  refine ⟨⟨bk3.set 3 _, h.lt, by rw [World.size_setCell]; exact Nat.le_trans h.le u3.size, ?_, ?_⟩, ?_⟩
  · rw [ensC_append]; exact o3.far (ngb o3) _
  · show w_.n + 1 = _; rw [List.length_append, h.nw]; rfl
  · exact (u3.mono (fun k _ hk => .inr (hrow k hk))).setCell (.inl (.inl rfl)) _
set_option maxRecDepth 100000 in
set_option maxHeartbeats 2000000 in
theorem bookWords_any (gb B0 n cc : Nat) (A : Option Addr) (Lw : List En) (w_ : En) (w : World) (h : Hid (BookAt w gb B0 Lw w_)) (hl : Lw.length ≤ 100000) :
    Calls Tryd.prog 15 #[.pointer (some ⟨gb, 0, none⟩), .slice A n cc] w fun e w' => e = .returned (.tuple #[]) ∧ ∃ x, BookAt w' gb B0 (Lw ++ [⟨A, n, cc⟩]) x ∧ Upd (BookS gb B0) w w' := by
  obtain ⟨wA, wn, wc⟩ := w_
  have hn : wn ≤ 100000 := by have : wn = Lw.length := h.out.nw; omega
  have q := h.out.bk.cell 3
  have z := h.out.bk.free 3
  replace q : w.cell? ⟨gb, 3, none⟩ = some (.slice wA wn wc) := q
  have hle := h.out.le
  go_enter Tryd.func15, Tryd.ntmps15
  go_wp2_with (at_builtin; go_loud (refine wpList_append_two _ elemL_OwnWords B0 _ _ rfl rfl wA wn wc (ensC Lw) rfl (h.out.ow.alloc _) (some ⟨w.heap.size, 0, none⟩) 1 1 [.slice A n cc] rfl (Sl.one w #[.slice A n cc] 23 1 rfl) (ensC_one [⟨A, n, cc⟩]) (by omega) (by decide) (by have := ((Ext.refl w).alloc (.cells (#[.slice A n cc] : Array Value) 23)).size; omega) ?_); intro A3 c3 w3 o3 g3 x3; have HP := Lib.hid (h.out.put_w (x := ⟨A, n, cc⟩) _ o3 g3 x3); have b3 : Bk w3 gb 61 (bookC (.slice wA wn wc)) := (((Upd.refl (fun k => blk wA wc = some k) w).alloc _).grown g3 (fun k hk => .inl hk)).block gb (Array.getElem?_eq_some_iff.1 h.out.bk).1 (fun e => by have := (h.out.ow.lt gb e).1; have := h.out.lt; omega) |>.trans h.out.bk; have q3 := b3.cell 3; have z3 := b3.free 3; clear b3 o3 g3 x3)
  go_returns
  exact ⟨rfl, _, HP.out.1, HP.out.2⟩
/-- the blocks that Own writes into -/
def OwnS (Lw : List En) (k : Nat) : Prop := Foot Lw k
def Few (L : List En) : Prop := L.length ≤ 10000 ∧ ∀ i, i < L.length → (ena L i).n ≤ 1000000
set_option maxRecDepth 100000 in
set_option maxHeartbeats 8000000 in
theorem bookOwn_any (gb B0 B : Nat) (Lw : List En) (w_ : En) (fw : Nat → List Value) (w : World) (h : Hid (BookAt w gb B0 Lw w_)) (lsw : Hid (Lists w B 22 1 Lw fw))
     (hlt : Hid (∀ k, OwnS Lw k → k < B0 ∧ k ≠ gb)) (feww : Hid (Few Lw)) (hw : Hid (B ≤ w.heap.size)) :
    Calls Tryd.prog 20 #[.pointer (some ⟨gb, 0, none⟩)] w fun e w' => e = .returned (.bool true) ∧ Upd (OwnS Lw) w w' := by
  have hnw : w_.n ≤ 10000 := by rw [h.out.nw]; exact feww.out.1
  have HG : Hid (∀ k, OwnS Lw k → k ≠ gb) := Lib.hid (fun k hk => (hlt.out k hk).2)
  have U0 : Hid (Upd (OwnS Lw) w w) := Lib.hid (Upd.refl _ _)
  have h0 := h
  have hw0 := hw
  have HBk := Lib.hid h.out.bk
  have q0 : w.cell? ⟨gb, 0, none⟩ = some (.slice none 0 0) := HBk.out.cell 0
  have q1 : w.cell? ⟨gb, 1, none⟩ = some (.slice none 0 0) := HBk.out.cell 1
  have q2 : w.cell? ⟨gb, 2, none⟩ = some (.slice none 0 0) := HBk.out.cell 2
  have q3 : w.cell? ⟨gb, 3, none⟩ = some (.slice w_.A w_.n w_.c) := HBk.out.cell 3
  have q4 : w.cell? ⟨gb, 4, none⟩ = some (.slice none 0 0) := HBk.out.cell 4
  have q5 : w.cell? ⟨gb, 5, none⟩ = some (.slice none 0 0) := HBk.out.cell 5
  have q6 : w.cell? ⟨gb, 6, none⟩ = some (.slice none 0 0) := HBk.out.cell 6
  have q7 : w.cell? ⟨gb, 7, none⟩ = some (.slice none 0 0) := HBk.out.cell 7
  have q8 : w.cell? ⟨gb, 8, none⟩ = some (.slice none 0 0) := HBk.out.cell 8
  have q9 : w.cell? ⟨gb, 9, none⟩ = some (.slice none 0 0) := HBk.out.cell 9
  have q10 : w.cell? ⟨gb, 10, none⟩ = some (.slice none 0 0) := HBk.out.cell 10
  have q11 : w.cell? ⟨gb, 11, none⟩ = some (.slice none 0 0) := HBk.out.cell 11
  have q12 : w.cell? ⟨gb, 12, none⟩ = some (.slice none 0 0) := HBk.out.cell 12
  have q13 : w.cell? ⟨gb, 13, none⟩ = some (.slice none 0 0) := HBk.out.cell 13
  go_enter Tryd.func20, Tryd.ntmps20
  go_wp2_with (first
    | (go_at_call 46; go_loud (refine (ownWords_any w_.A w_.c w_.n B Lw _ _ (Lib.hid h0.out.nw) (Lib.hid h0.out.ow.sl) lsw (Lib.hid (fun k hk => ⟨fun q => by have := (hlt.out k q).1; have := (h0.out.ow.lt k hk).1; omega, (h0.out.ow.lt k hk).2⟩)) hnw (Lib.hid feww.out.2) hw0).mono ?_); rintro e w1 ⟨rfl, u_⟩; have U1 : Hid (Upd (OwnS Lw) w w1) := Lib.hid (U0.out.trans (u_.mono (fun k _ hk => hk))); have h1 : Hid (BookAt w1 gb B0 Lw w_) := Lib.hid (h0.out.upd u_ (fun q => HG.out gb q rfl) (fun k hk q => by have := (hlt.out k q).1; omega)); have HBk1 := Lib.hid h1.out.bk; have q4 : w1.cell? ⟨gb, 4, none⟩ = some (.slice none 0 0) := HBk1.out.cell 4; have q5 : w1.cell? ⟨gb, 5, none⟩ = some (.slice none 0 0) := HBk1.out.cell 5; have q6 : w1.cell? ⟨gb, 6, none⟩ = some (.slice none 0 0) := HBk1.out.cell 6; have q7 : w1.cell? ⟨gb, 7, none⟩ = some (.slice none 0 0) := HBk1.out.cell 7; have q8 : w1.cell? ⟨gb, 8, none⟩ = some (.slice none 0 0) := HBk1.out.cell 8; have q9 : w1.cell? ⟨gb, 9, none⟩ = some (.slice none 0 0) := HBk1.out.cell 9; have q10 : w1.cell? ⟨gb, 10, none⟩ = some (.slice none 0 0) := HBk1.out.cell 10; have q11 : w1.cell? ⟨gb, 11, none⟩ = some (.slice none 0 0) := HBk1.out.cell 11; have q12 : w1.cell? ⟨gb, 12, none⟩ = some (.slice none 0 0) := HBk1.out.cell 12; have q13 : w1.cell? ⟨gb, 13, none⟩ = some (.slice none 0 0) := HBk1.out.cell 13; have hw1 : Hid (B ≤ w1.heap.size) := Lib.hid (Nat.le_trans hw0.out u_.size); clear u_)
    | (go_at_call 43; go_loud (refine (ownBytes_nil _).mono ?_); rintro e w_ ⟨rfl, rfl⟩)
    | (go_at_call 44; go_loud (refine (ownTexts_nil _).mono ?_); rintro e w_ ⟨rfl, rfl⟩)
    | (go_at_call 45; go_loud (refine (ownInts_nil _).mono ?_); rintro e w_ ⟨rfl, rfl⟩)
    | (go_at_call 47; go_loud (refine (ownRow_nil _).mono ?_); rintro e w_ ⟨rfl, rfl⟩)
    | (go_at_call 48; go_loud (refine (ownSorts_nil _).mono ?_); rintro e w_ ⟨rfl, rfl⟩)
    | (go_at_call 49; go_loud (refine (ownPairs_nil _).mono ?_); rintro e w_ ⟨rfl, rfl⟩)
    | (go_at_call 50; go_loud (refine (ownFaults_nil _).mono ?_); rintro e w_ ⟨rfl, rfl⟩)
    | (go_at_call 51; go_loud (refine (ownColumns_nil _).mono ?_); rintro e w_ ⟨rfl, rfl⟩)
    | (go_at_call 52; go_loud (refine (ownCounteds_nil _).mono ?_); rintro e w_ ⟨rfl, rfl⟩)
    | (go_at_call 53; go_loud (refine (ownUpdates_nil _).mono ?_); rintro e w_ ⟨rfl, rfl⟩)
    | (go_at_call 54; go_loud (refine (ownTimes_nil _).mono ?_); rintro e w_ ⟨rfl, rfl⟩)
    | (go_at_call 55; go_loud (refine (ownExprs_nil _).mono ?_); rintro e w_ ⟨rfl, rfl⟩)
    | (go_at_call 56; go_loud (refine (ownRels_nil _).mono ?_); rintro e w_ ⟨rfl, rfl⟩)
    | fail)
  go_ret
  exact ⟨rfl, U1.out⟩
end Go.Proofs.YtilbfmfioopiiaaDoor
