/- What a search keeps in memory: steps, the list of work, the least ways so far. flow.least$1, flow.Check$3: is a way never later? A search under way, in memory: its steps. A map from places to lists that a call makes: one more at a place. The chapter's own graph: its check, and its ways. The chapter's own graph: that it may be, and that it may not without what is added. What is sifted out is on no round. Regions that draw their order, where an operation leaves what a relation of worlds says: a fixed order serves every order. What flow.rounds keeps in memory: a set of places, counts of places; on and off. A sift in memory: what stands at each point. Conditions: each theorem states its own. -/
import Derived.Test.YteklohamkmiphaaFg5
import Derived.Test.YteklohamkmiphaaFg3
import Derived.Test.YteklohamkmiphaaFg4
import Derived.Test.YteklohamkmiphaaFg2
import Derived.Deep.LoopGhost
namespace Go.Proofs.Yteklohamkmiphaa
open Go.RowKit

/-- a step in memory: whereto, by what -/
structure Sm where
  q : Pt
  b : Pm
def Sm.zero : Sm := ⟨⟨0, false, 0⟩, Pm.zero⟩
instance : Inhabited Sm := ⟨Sm.zero⟩
def spC (x : Sm) : List Value := [.int .i64 x.q.n, .bool x.q.o, .int .i64 x.q.p, .int .i64 x.b.w.leave, .int .u32 x.b.w.add, .slice x.b.A x.b.w.enter.length x.b.c]
theorem spC_len (x : Sm) : (spC x).length = 6 := rfl
def Sm.v (x : Sm) : Pt × Way := (x.q, x.b.w)
/-- what a move is: whereto, by what -/
def Gr.mvv (g : Gr) (m : Mv Pt Wid) : Pt × Way := (g.tgt m, g.mw m)
/-- the steps from each place, as the call has made them: nobody writes to them -/
structure StR (w : World) (b : Nat) (g : Gr) : Prop where
  ex : ∃ L ck, TM w b L ck ∧ (∀ q, (getE L q = none ∧ g.mvs q = []) ∨ ∃ (A : Option Addr) (c : Nat) (xs : List Sm), getE L q = some (.slice A xs.length c) ∧ Sl w 6 A xs.length c (xs.flatMap spC) ∧ (∀ x ∈ xs, PmR w x.b) ∧ xs.map Sm.v = (g.mvs q).map g.mvv) ∧ L.length ≤ 2000
theorem StR.ext {w w' : World} {b : Nat} {g : Gr} (h : StR w b g) (e : Ext w w') : StR w' b g := by
  obtain ⟨L, ck, h1, h2, h3⟩ := h.ex
  refine ⟨L, ck, h1.ext e, fun q => ?_, h3⟩
  rcases h2 q with h | ⟨A, c, xs, a1, a2, a3, a4⟩
  · exact .inl h
  · exact .inr ⟨A, c, xs, a1, a2.ext e, fun x hx => (a3 x hx).ext e, a4⟩
/-- steps are looked up -/
theorem StR.look {w : World} {b : Nat} {g : Gr} (h : StR w b g) {T te : TypeId} (ht : Try.prog.underlying T = some (.map 27 te)) (hz : ∀ w : World, (zeroValue te).run Try.prog w = .ok (.slice none 0 0) w) {q : Pt} (hq : P64 q) :
    ∃ (A : Option Addr) (c : Nat) (xs : List Sm), (∀ w', Ext w w' → (Instr.lookup T (.map (some b)) (ptV q) false).run Try.prog w' = .ok (.slice A xs.length c) w') ∧ Sl w 6 A xs.length c (xs.flatMap spC) ∧ (∀ x ∈ xs, PmR w x.b) ∧ xs.map Sm.v = (g.mvs q).map g.mvv := by
  obtain ⟨L, ck, h1, h2, _⟩ := h.ex
  rcases h2 q with ⟨a1, a2⟩ | ⟨A, c, xs, a1, a2, a3, a4⟩
  · refine ⟨none, 0, [], fun w' e => ?_, Sl.nil w 6, fun x hx => (nomatch hx), by rw [a2]; rfl⟩
    have := (h1.ext e).look hq ht (hz w')
    rw [a1] at this
    exact this
  · refine ⟨A, c, xs, fun w' e => ?_, a2, a3, a4⟩
    have := (h1.ext e).look hq ht (hz w')
    rw [a1] at this
    exact this

/-! ### the least ways so far -/
/-- a way whose counters lie in memory that a call has made for it -/
def Wy (w0 w : World) (x : Pm) : Prop := Own w w0.heap.size 45 1 x.A x.w.enter.length x.c (wds x.w.enter)
section
variable {w0 w w' : World}
theorem Wy.pmR {x : Pm} (h : Wy w0 w x) : PmR w x := Own.sl h
theorem Wy.ext {x : Pm} (h : Wy w0 w x) (e : Ext w w') : Wy w0 w' x := Own.ext h e
theorem Wy.upd {x : Pm} {S : Nat → Prop} (h : Wy w0 w x) (u : Upd S w w') (hn : ∀ k, S k → ¬ Ty w k 45) : Wy w0 w' x := Own.upd h u fun k hk q => hn k q (Own.ty h hk)
/-- the block that a list's header names -/
def blkV : Option Value → Option Nat
  | some (.slice A _ c) => blk A c
  | _ => none
def nilS : Value := .slice none 0 0
/-- a place's list -/
structure KAt (w0 w : World) (v : Option Value) (l : List Pm) (A : Option Addr) (c : Nat) : Prop where
  hd : v.getD nilS = .slice A l.length c
  ow : Own w w0.heap.size 47 3 A l.length c (l.flatMap pmC)
  bk : blkV v = blk A c
structure KmR (w0 w : World) (kb : Nat) (L : List Pe) (ck : Nat) (K : Pt → List Pm) : Prop where
  tm : TM w kb L ck
  kb0 : w0.heap.size ≤ kb
  ls : ∀ q, ∃ A c, KAt w0 w (getE L q) (K q) A c
  wy : ∀ q, ∀ x ∈ K q, Wy w0 w x
  ap : ∀ q r k, q ≠ r → blkV (getE L q) = some k → blkV (getE L r) ≠ some k
variable {kb ck : Nat} {L : List Pe} {K : Pt → List Pm}
/-- the blocks that are written to -/
def kmB (kb : Nat) (L : List Pe) (k : Nat) : Prop := k = kb ∨ ∃ q, blkV (getE L q) = some k
theorem KmR.ty (h : KmR w0 w kb L ck K) {q : Pt} {k : Nat} (hk : blkV (getE L q) = some k) : Ty w k 47 := by
  obtain ⟨A, c, a⟩ := h.ls q
  rw [a.bk] at hk
  exact a.ow.ty hk
theorem KmR.lt (h : KmR w0 w kb L ck K) {k : Nat} (hk : kmB kb L k) : w0.heap.size ≤ k ∧ k < w.heap.size := by
  rcases hk with rfl | ⟨q, hk⟩
  · exact ⟨h.kb0, h.tm.lt⟩
  · obtain ⟨A, c, a⟩ := h.ls q
    rw [a.bk] at hk
    exact a.ow.lt k hk
theorem KmR.ne_kb (h : KmR w0 w kb L ck K) {q : Pt} : blkV (getE L q) ≠ some kb := fun e => h.tm.not_ty _ (h.ty e)
theorem KmR.not_u32 (h : KmR w0 w kb L ck K) {k : Nat} (hk : kmB kb L k) : ¬ Ty w k 45 := by
  rcases hk with rfl | ⟨q, hk⟩
  · exact h.tm.not_ty _
  · exact fun e => absurd (e.ne (h.ty hk)) (by decide)
theorem KmR.ext (h : KmR w0 w kb L ck K) (e : Ext w w') : KmR w0 w' kb L ck K :=
  ⟨h.tm.ext e, h.kb0, fun q => by obtain ⟨A, c, a⟩ := h.ls q; exact ⟨A, c, a.hd, a.ow.ext e, a.bk⟩, fun q x hx => (h.wy q x hx).ext e, h.ap⟩
theorem KmR.upd {S : Nat → Prop} (h : KmR w0 w kb L ck K) (u : Upd S w w') (hS : ∀ k, kmB kb L k → ¬ S k) (hn : ∀ k, S k → ¬ Ty w k 45) : KmR w0 w' kb L ck K :=
  ⟨h.tm.upd u (hS _ (.inl rfl)), h.kb0, fun q => by obtain ⟨A, c, a⟩ := h.ls q; exact ⟨A, c, a.hd, a.ow.upd u (fun k hk => hS k (.inr ⟨q, by rw [a.bk]; exact hk⟩)), a.bk⟩, fun q x hx => (h.wy q x hx).upd u hn, h.ap⟩
/-- one place's list is turned within its block -/
theorem KmR.turn (h : KmR w0 w kb L ck K) {q : Pt} {A : Option Addr} {c : Nat} (a : KAt w0 w (getE L q) (K q) A c) (u : Upd (fun k => blk A c = some k) w w') {l : List Pm} (hl : l.length = (K q).length) (o : Own w' w0.heap.size 47 3 A l.length c (l.flatMap pmC)) (hy : ∀ x ∈ l, x ∈ K q) :
    KmR w0 w' kb L ck (fun r => if r = q then l else K r) := by
  have nb : ¬ blk A c = some kb := fun e => h.ne_kb (q := q) (a.bk.trans e)
  have nu : ∀ k, blk A c = some k → ¬ Ty w k 45 := fun k hk => h.not_u32 (.inr ⟨q, a.bk.trans hk⟩)
  refine ⟨h.tm.upd u nb, h.kb0, fun r => ?_, fun r x hx => ?_, h.ap⟩
  · by_cases e : r = q
    · subst e
      rw [if_pos rfl]
      exact ⟨A, c, by rw [hl]; exact a.hd, o, a.bk⟩
    · rw [if_neg e]
      obtain ⟨A', c', a'⟩ := h.ls r
      exact ⟨A', c', a'.hd, a'.ow.upd u (fun k hk q2 => h.ap r q k e (a'.bk.trans hk) (a.bk.trans q2)), a'.bk⟩
  · by_cases e : r = q
    · subst e
      rw [if_pos rfl] at hx
      exact (h.wy r x (hy x hx)).upd u nu
    · rw [if_neg e] at hx
      exact (h.wy r x hx).upd u nu
/-- one place's list is made anew, then put back -/
theorem KmR.put {w1 : World} (h : KmR w0 w kb L ck K) {q : Pt} {A A' : Option Addr} {c c' ck' : Nat} {L' : List Pe} (a : KAt w0 w (getE L q) (K q) A c) (u : Upd (fun k => blk A c = some k) w w1) {l : List Pm} (o : Own w1 w0.heap.size 47 3 A' l.length c' (l.flatMap pmC)) (hy : ∀ x ∈ l, Wy w0 w1 x)
    (hb : ∀ k, blk A' c' = some k → blk A c = some k ∨ w.heap.size ≤ k) (m : TM w' kb L' ck') (pp : Put L q (.slice A' l.length c') L') (gm : w1.grownBy w' (some kb)) : KmR w0 w' kb L' ck' (fun r => if r = q then l else K r) := by
  have nb : ¬ blk A c = some kb := fun e => h.ne_kb (q := q) (a.bk.trans e)
  have nu : ∀ k, blk A c = some k → ¬ Ty w k 45 := fun k hk => h.not_u32 (.inr ⟨q, a.bk.trans hk⟩)
  have tm1 : TM w1 kb L ck := h.tm.upd u nb
  have um : Upd (fun k => k = kb) w1 w' := (Upd.refl _ w1).grown gm (fun k hk => .inl (by injection hk with hk; exact hk.symm))
  have nk : ∀ k, k = kb → ¬ Ty w1 k 45 := fun k e => by subst e; exact tm1.not_ty _
  have nk3 : ∀ k, k = kb → ¬ Ty w1 k 47 := fun k e => by subst e; exact tm1.not_ty _
  refine ⟨m, h.kb0, fun r => ?_, fun r x hx => ?_, fun r s k rs hr hs => ?_⟩
  · rw [pp.get r]
    by_cases e : r = q
    · subst e
      rw [if_pos rfl, if_pos rfl]
      exact ⟨A', c', rfl, o.upd um (fun k hk e => nk3 k e (o.ty hk)), rfl⟩
    · rw [if_neg e, if_neg e]
      obtain ⟨A2, c2, a2⟩ := h.ls r
      have o2 := a2.ow.upd u (fun k hk q2 => h.ap r q k e (a2.bk.trans hk) (a.bk.trans q2))
      exact ⟨A2, c2, a2.hd, o2.upd um (fun k hk e => nk3 k e (o2.ty hk)), a2.bk⟩
  · by_cases e : r = q
    · subst e
      rw [if_pos rfl] at hx
      exact (hy x hx).upd um nk
    · rw [if_neg e] at hx
      exact ((h.wy r x hx).upd u nu).upd um nk
  · rw [pp.get] at hr hs
    have far : ∀ r, r ≠ q → blkV (getE L r) = some k → blk A' c' ≠ some k := fun r e h1 h2 => by
      rcases hb k h2 with q1 | q1
      · exact h.ap r q k e h1 (a.bk.trans q1)
      · have := (h.lt (.inr ⟨r, h1⟩)).2; omega
    by_cases e : r = q
    · rw [if_pos e] at hr
      rw [if_neg (fun e2 => rs (e.trans e2.symm))] at hs
      exact far s (fun e2 => rs (e.trans e2.symm)) hs hr
    · rw [if_neg e] at hr
      by_cases e2 : s = q
      · rw [if_pos e2] at hs
        exact far r e hr hs
      · rw [if_neg e2] at hs
        exact h.ap r s k rs hr hs
end
end Go.Proofs.Yteklohamkmiphaa
namespace Go.Proofs.Yteklohamkmiphaa
open Go.RowKit

/-- a way that is held in a variable -/
structure CapW (w : World) (b : Nat) (p : Pm) : Prop where
  c0 : w.cell? ⟨b, 0, none⟩ = some (.int .i64 p.w.leave)
  c1 : w.cell? ⟨b, 1, none⟩ = some (.int .u32 p.w.add)
  c2 : w.cell? ⟨b, 2, none⟩ = some (.slice p.A p.w.enter.length p.c)
theorem CapW.ext {w w' : World} {b : Nat} {p : Pm} (h : CapW w b p) (e : Ext w w') : CapW w' b p := ⟨e.cell h.c0, e.cell h.c1, e.cell h.c2⟩
theorem CapW.word {w w' : World} {b g : Nat} {p : Pm} (h : CapW w b p) (e : w.grownBy w' (some g)) (hn : b ≠ g) : CapW w' b p :=
  ⟨e.cell h.c0 (fun q => hn (by injection q)), e.cell h.c1 (fun q => hn (by injection q)), e.cell h.c2 (fun q => hn (by injection q))⟩
/-- its counters are such, and few -/
def Few32 (x : Way) : Prop := U32 x.enter ∧ x.enter.length ≤ 1000000
set_option maxRecDepth 100000 in
set_option maxHeartbeats 800000 in
theorem least1_any (La aa : Int) (A : Option Addr) (n c : Nat) (l : List Int) (Lb ab : Int) (B : Option Addr) (m k : Nat) (j : List Int) (d : Int) (pb bd : Nat) (w : World) (h1 : Hid (Sl w 1 A n c (wds l))) (h2 : Hid (Sl w 1 B m k (wds j))) (u1 : Hid (U32 l)) (u2 : Hid (U32 j)) (n1 : n ≤ 1000000) (n2 : m ≤ 1000000)
    (c0 : w.cell? ⟨pb, 0, none⟩ = some (.int .i64 Lb)) (c1 : w.cell? ⟨pb, 1, none⟩ = some (.int .u32 ab)) (c2 : w.cell? ⟨pb, 2, none⟩ = some (.slice B m k)) (c3 : w.cell? ⟨bd, 0, none⟩ = some (.int .i64 d)) :
    Calls Try.prog 54 #[.agg #[.int .i64 La, .int .u32 aa, .slice A n c], .pointer (some ⟨pb, 0, none⟩), .pointer (some ⟨bd, 0, none⟩)] w fun e w' => e = .returned (.bool (pathLeqT Lb ab j La aa l d)) ∧ Ext w w' := by
  have XA : Hid (Ext w (w.alloc (Obj.cells #[.int .i64 La, .int .u32 aa, .slice A n c] 47))) := Lib.hid ((Ext.refl w).alloc _)
  have d0 := XA.out.cell c0
  have d1 := XA.out.cell c1
  have d2 := XA.out.cell c2
  have d3 := XA.out.cell c3
  have hE := pleq_any Lb ab La aa d B A m n k c j l _ (h2.out.ext XA.out) (h1.out.ext XA.out) u2.out u1.out n2 n1
  obtain ⟨r, hr⟩ : ∃ r, pathLeqT Lb ab j La aa l d = r := ⟨_, rfl⟩
  rw [hr] at hE ⊢
  clear hr c0 c1 c2 c3
  go_enter Try.func54, Try.ntmps54
  go_wp2_with (go_at_call 27; refine hE.mono ?_; rintro e w1 ⟨rfl, x1⟩; have HX : Hid (Ext w w1) := Lib.hid (XA.out.trans x1); clear x1)
  go_returns
  exact ⟨rfl, by have e1 := HX.out; (repeat' (first | with_reducible exact e1 | with_reducible refine Ext.drew ?_ | with_reducible refine Ext.drewN ?_ _ | with_reducible refine Ext.alloc ?_ _ | with_reducible refine Ext.set ?_ ?_ _ | omega | (simp; done) | (simp; omega)))⟩
set_option maxRecDepth 100000 in
set_option maxHeartbeats 800000 in
theorem check3_any (La aa : Int) (A : Option Addr) (n c : Nat) (l : List Int) (d : Int) (nb : Nat) (w : World) (h1 : Hid (Sl w 1 A n c (wds l))) (u1 : Hid (U32 l)) (n1 : n ≤ 1000000) (c2 : w.cell? ⟨nb, 2, none⟩ = some (.int .i64 d)) :
    Calls Try.prog 26 #[.agg #[.int .i64 La, .int .u32 aa, .slice A n c], .pointer (some ⟨nb, 0, none⟩)] w fun e w' => e = .returned (.bool (pathLeqT La aa l 0 0 [] d)) ∧ Ext w w' := by
  have XA : Hid (Ext w (w.alloc (Obj.cells #[.int .i64 La, .int .u32 aa, .slice A n c] 47))) := Lib.hid ((Ext.refl w).alloc _)
  have d2 := XA.out.cell c2
  have hE := pleq_any La aa 0 0 d A none n 0 c 0 l [] _ (h1.out.ext XA.out) (Sl.nil _ 1) u1.out (fun x hx => (nomatch hx)) n1 (by omega)
  obtain ⟨r, hr⟩ : ∃ r, pathLeqT La aa l 0 0 [] d = r := ⟨_, rfl⟩
  rw [hr] at hE ⊢
  clear hr c2
  go_enter Try.func26, Try.ntmps26
  go_wp2_with (go_at_call 27; refine hE.mono ?_; rintro e w1 ⟨rfl, x1⟩; have HX : Hid (Ext w w1) := Lib.hid (XA.out.trans x1); clear x1)
  go_returns
  exact ⟨rfl, by have e1 := HX.out; (repeat' (first | with_reducible exact e1 | with_reducible refine Ext.drew ?_ | with_reducible refine Ext.drewN ?_ _ | with_reducible refine Ext.alloc ?_ _ | with_reducible refine Ext.set ?_ ?_ _ | omega | (simp; done) | (simp; omega)))⟩
/-- the predicate of DeleteFunc -/
theorem least1_pred {w0 w : World} {L : List Pm} {p : Pm} {d : Int} {g pb bd : Nat} (hx : ∀ x ∈ L, Wy w0 w x) (hp : Wy w0 w p) (fx : ∀ x ∈ L, Few32 x.w) (fp : Few32 p.w) (cp : CapW w pb p) (cd : w.cell? ⟨bd, 0, none⟩ = some (.int .i64 d)) (gu : ¬ Ty w g 45) (np : pb ≠ g) (nd : bd ≠ g) :
    PredG 54 g (.pointer (some ⟨pb, 0, none⟩)) (.pointer (some ⟨bd, 0, none⟩)) (fun x => pl p.w x.w d) L w := fun W x hxL hW => by
  have U : Upd (fun k => k = g) w W := (Upd.refl _ w).grown hW (fun k hk => .inl (by injection hk with hk; exact hk.symm))
  have hn : ∀ k, k = g → ¬ Ty w k 45 := fun k hk => by rw [hk]; exact gu
  have h1 := ((hx x hxL).upd U hn).pmR
  have h2 := (hp.upd U hn).pmR
  have cp := cp.word hW np
  have cd := hW.cell cd (fun q => nd (by injection q))
  exact least1_any x.w.leave x.w.add x.A x.w.enter.length x.c x.w.enter p.w.leave p.w.add p.A p.w.enter.length p.c p.w.enter d pb bd W (Lib.hid h1) (Lib.hid h2) (Lib.hid (fx x hxL).1) (Lib.hid fp.1) (fx x hxL).2 fp.2 cp.c0 cp.c1 cp.c2 cd
end Go.Proofs.Yteklohamkmiphaa
namespace Go.Proofs.Yteklohamkmiphaa
open Go.RowKit

theorem elem_pm : Elem Try.prog 42 47 3 40 (.agg #[.int .i64 0, .int .u32 0, .slice none 0 0]) := ⟨by kernel_rfl, by kernel_rfl, rfl, by decide⟩
theorem elem_sp : Elem Try.prog 97 99 6 64 (.agg #[.int .i64 0, .bool false, .int .i64 0, .int .i64 0, .int .u32 0, .slice none 0 0]) := ⟨by kernel_rfl, by kernel_rfl, rfl, by decide⟩
theorem zeroPs (w : World) : (zeroValue 42).run Try.prog w = .ok (.slice none 0 0) w := by kernel_rfl
theorem zeroSs (w : World) : (zeroValue 97).run Try.prog w = .ok (.slice none 0 0) w := by kernel_rfl
theorem upd_ext0 {S : Nat → Prop} {w0 w w' : World} (x0 : Ext w0 w) (u : Upd S w w') (h : ∀ k, S k → w0.heap.size ≤ k) : Ext w0 w' :=
  ⟨u.os.trans x0.os, u.tape.trans x0.tape, u.output.trans x0.output, Nat.le_trans x0.size u.size, fun k hk => (u.block k (Nat.lt_of_lt_of_le hk x0.size) (fun q => by have := h k q; omega)).trans (x0.block k hk)⟩
theorem OwnQ.ty {w : World} {B s n c : Nat} {e : TypeId} {A : Option Addr} {xs : List Value} (h : OwnQ w B e s A n c xs) {k : Nat} (hk : blk A c = some k) : Ty w k e := by
  rcases h.2 with ⟨rfl, _⟩ | ⟨g, o, cur, rfl, _, hg, _⟩
  · rw [blk_zero] at hk; cases hk
  · cases c with
    | zero => cases hk
    | succ c =>
      injection hk with hk
      simp only at hk
      subst hk
      exact ⟨_, _, hg⟩
theorem Bk.updB {w w' : World} {S : Nat → Prop} {g : Nat} {t : TypeId} {cs : Array Value} (h : Bk w g t cs) (x : Upd S w w') (hn : ¬ S g) : Bk w' g t cs := (x.block g h.lt hn).trans h
/-! ### DeleteFunc at a list that is owned -/
def DelOwn (B : Nat) (A : Option Addr) (c : Nat) (p : Pm → Bool) (M : List Pm) (w : World) (e : Ending) (w' : World) : Prop := e = .returned (.slice A (M.filter (fun x => !p x)).length c) ∧ Own w' B 47 3 A (M.filter (fun x => !p x)).length c ((M.filter (fun x => !p x)).flatMap pmC) ∧ Upd (fun k => blk A c = some k) w w'
set_option maxRecDepth 100000 in
set_option maxHeartbeats 600000 in
theorem delete_nil (f : Value) (A : Option Addr) (c : Nat) (w : World) : Calls Try.prog 53 #[.slice A 0 c, f] w fun e w' => e = .returned (.slice A 0 c) ∧ Ext w w' := by
  have hidx : Calls Try.prog 51 #[.slice A 0 c, f] w fun e w' => e = .returned (.int .i64 (-1)) ∧ Ext w w' := by
    go_enter Try.func51, Try.ntmps51
    go_wp2
    refine wp_loop_rounds 1 ?_
    rw [rounds_succ]
    go_wp2
    go_ret
    exact ⟨rfl, Ext.refl w⟩
  go_enter Try.func53, Try.ntmps53
  go_wp2_with (go_at_call 51; refine hidx.mono ?_; rintro e w1 ⟨rfl, x1⟩)
  go_ret
  exact ⟨rfl, x1⟩
theorem delete_own (p : Pm → Bool) (g : Nat) (v0 v1 : Value) (eg : ∀ args w, (callFunc g args).run Try.prog w = .ok (.enter g args) w) (B : Nat) (A : Option Addr) (c : Nat) (M : List Pm) (w : World) (o : Own w B 47 3 A M.length c (M.flatMap pmC)) (hp : ∀ b, blk A c = some b → PredG g b v0 v1 p M w) :
    Calls Try.prog 53 #[.slice A M.length c, .func (.func g) #[] #[v0, v1]] w (DelOwn B A c p M w) := by
  by_cases h0 : M.length = 0
  · have hM : M = [] := List.eq_nil_of_length_eq_zero h0
    subst hM
    refine (delete_nil (.func (.func g) #[] #[v0, v1]) A c w).mono ?_
    rintro e w' ⟨rfl, x⟩
    exact ⟨rfl, o.ext x, Upd.ext x⟩
  · obtain ⟨b, rfl, hb, _⟩ := o.form (by omega)
    have hc : 0 < c := by
      cases c with
      | zero => rw [blk_zero] at hb; cases hb
      | succ c => omega
    refine (delete_any p g b v0 v1 eg B 47 c M.length M w (Lib.hid rfl) (Lib.hid ⟨o, hc⟩) (Lib.hid (hp b hb))).mono ?_
    rintro e w' ⟨m, rfl, rfl, h, u⟩
    exact ⟨rfl, h.ow, (Upd.refl _ w).grown u (fun k hk => .inl (by rw [hb]; exact hk))⟩

/-- a search under way: Q so far, the i-th place's j-th step comes next; P waits, from the o-th on -/
structure LsI (w0 w : World) (g : Gr) (fr : Pt) (st : Prop) (kb : Nat) (Q : List Ent) (i j o : Nat) (A : Option Addr) (c : Nat) (P : List Sm) : Prop where
  ex : Ext w0 w
  b : BInv g fr st Q i j
  il : o ≤ Q.length
  q : OwnQ w w0.heap.size 99 6 A P.length c (P.flatMap spC)
  pv : P.map Sm.v = (Q.drop o).map (fun e => (e.at', e.w))
  py : ∀ x ∈ P, Wy w0 w x.b
  kn : ∃ L ck K, KmR w0 w kb L ck K ∧ Kn g fr st Q (fun q => (K q).map Pm.w)
section
variable {w0 w w' : World} {g : Gr} {fr : Pt} {st : Prop} {kb : Nat} {Q : List Ent} {i j o : Nat} {A : Option Addr} {c : Nat} {P : List Sm}
theorem LsI.ext (I : LsI w0 w g fr st kb Q i j o A c P) (e : Ext w w') : LsI w0 w' g fr st kb Q i j o A c P :=
  ⟨I.ex.trans e, I.b, I.il, I.q.ext e, I.pv, fun x hx => (I.py x hx).ext e, by obtain ⟨L, ck, K, h1, h2⟩ := I.kn; exact ⟨L, ck, K, h1.ext e, h2⟩⟩
theorem LsI.off (I : LsI w0 w g fr st kb Q i j o A c P) {f : Ent} {m : Mv Pt Wid} (hf : Q[i]? = some f) (hm : (g.mvs f.at')[j]? = some m) (h : (thn f.w (g.mw m)).2 ≠ 0) : LsI w0 w g fr st kb Q i (j + 1) o A c P :=
  ⟨I.ex, I.b.off hf hm h, I.il, I.q, I.pv, I.py, I.kn⟩
theorem LsI.skip (I : LsI w0 w g fr st kb Q i j o A c P) {f : Ent} {m : Mv Pt Wid} {v : Way} (hf : Q[i]? = some f) (hm : (g.mvs f.at')[j]? = some m) (hv : thn f.w (g.mw m) = (v, 0)) {K : Pt → List Pm} (T : Kn g fr st Q (fun q => (K q).map Pm.w)) {x : Pm} (hx : x ∈ K (g.tgt m)) (hl : pl x.w v (g.dp fr) = true) : LsI w0 w g fr st kb Q i (j + 1) o A c P := by
  obtain ⟨a, e, h1, h2, h3, h4⟩ := T.covered (q := g.tgt m) (v := v) ⟨x.w, List.mem_map.2 ⟨x, hx, rfl⟩, hl⟩
  exact ⟨I.ex, I.b.skip hf hm hv h1 h2 h3 h4, I.il, I.q, I.pv, I.py, I.kn⟩
/-- the first one is taken -/
theorem LsI.pop {x : Sm} (I : LsI w0 w g fr st kb Q i 0 i A c (x :: P)) : LsI w0 w g fr st kb Q i 0 (i + 1) (if c = 1 then A else A.map (·.add 6)) (c - 1) P ∧ ∃ f, Q[i]? = some f ∧ f.at' = x.q ∧ f.w = x.b.w ∧ Wy w0 w x.b := by
  have hpv := I.pv
  have hl : i < Q.length := by
    rcases Nat.lt_or_ge i Q.length with h | h
    · exact h
    · rw [List.drop_of_length_le h] at hpv; cases hpv
  rw [List.drop_eq_getElem_cons hl, List.map_cons, List.map_cons] at hpv
  injection hpv with h1 h2
  injection h1 with h3 h4
  exact ⟨⟨I.ex, I.b, hl, OwnQ.drop I.q rfl, h2, fun y hy => I.py y (List.mem_cons_of_mem _ hy), I.kn⟩, Q[i], List.getElem?_eq_getElem hl, h3.symm, h4.symm, I.py x List.mem_cons_self⟩
theorem LsI.next (I : LsI w0 w g fr st kb Q i j (i + 1) A c P) {f : Ent} (hf : Q[i]? = some f) (hj : (g.mvs f.at').length ≤ j) : LsI w0 w g fr st kb Q (i + 1) 0 (i + 1) A c P :=
  ⟨I.ex, I.b.next hf hj, I.il, I.q, I.pv, I.py, I.kn⟩
/-- nothing waits: done -/
theorem LsI.done (I : LsI w0 w g fr st kb Q i 0 i A c []) : BInv g fr st Q Q.length 0 := by
  have hpv := I.pv
  have : Q.length ≤ i := by
    rcases Nat.lt_or_ge i Q.length with h | h
    · rw [List.drop_eq_getElem_cons h] at hpv; cases hpv
    · exact h
  have e : i = Q.length := Nat.le_antisymm I.il this
  rw [← e]; exact I.b
/-- no block of the least ways is one of steps -/
theorem KmR.not_sp {L : List Pe} {ck : Nat} {K : Pt → List Pm} (h : KmR w0 w kb L ck K) {k : Nat} (hk : kmB kb L k) : ¬ Ty w k 99 := by
  rcases hk with rfl | ⟨q, hk⟩
  · exact h.tm.not_ty _
  · exact fun e => absurd (e.ne (h.ty hk)) (by decide)
/-- something new -/
theorem LsI.push (I : LsI w0 w g fr st kb Q i j (i + 1) A c P) (G : GOK g) (hd : (g.dep fr).isSome) {f : Ent} {m : Mv Pt Wid} {p : Pm} (hf : Q[i]? = some f) (hm : (g.mvs f.at')[j]? = some m) (hv : thn f.w (g.mw m) = (p.w, 0)) (gv : GoodW (g.dp fr) (g.dp (g.tgt m)) p.w) {t : Pt} (ht : g.tgt m = t) (hy : Wy w0 w p)
    {L : List Pe} {ck : Nat} {K : Pt → List Pm} (k : KmR w0 w kb L ck K) (T : Kn g fr st Q (fun q => (K q).map Pm.w)) (no : ∀ x ∈ K t, pl x.w p.w (g.dp fr) = false)
    {A1 A2 A3 : Option Addr} {c1 c2 c3 ck2 : Nat} {L2 : List Pe} {w1 w2 w3 : World} (a : KAt w0 w (getE L t) (K t) A1 c1) (u : Upd (fun k => blk A1 c1 = some k) w w1) {l : List Pm} (hl : l = (K t).filter (fun x => !pl p.w x.w (g.dp fr)) ++ [p])
    (ow : Own w1 w0.heap.size 47 3 A2 l.length c2 (l.flatMap pmC)) (hb : ∀ k, blk A2 c2 = some k → blk A1 c1 = some k ∨ w.heap.size ≤ k) (tm : TM w2 kb L2 ck2) (pp : Put L t (.slice A2 l.length c2) L2) (gm : w1.grownBy w2 (some kb))
    (qw : OwnQ w3 w0.heap.size 99 6 A3 (P.length + 1) c3 (P.flatMap spC ++ spC ⟨t, p⟩)) (u3 : Upd (fun k => blk A c = some k) w2 w3) : LsI w0 w3 g fr st kb (Q ++ [⟨m :: f.mv, t, p.w, i, j⟩]) i (j + 1) (i + 1) A3 c3 (P ++ [⟨t, p⟩]) := by
  subst ht
  have bk : ∀ k, blk A1 c1 = some k → blkV (getE L (g.tgt m)) = some k := fun k hk => a.bk.trans hk
  have nu : ∀ q, blk A1 c1 = some q → ¬ Ty w q 45 := fun q hq => k.not_u32 (.inr ⟨_, bk q hq⟩)
  have um : Upd (fun k => k = kb) w1 w2 := (Upd.refl _ w1).grown gm (fun k hk => .inl (by injection hk with hk; exact hk.symm))
  have tm1 : TM w1 kb L ck := k.tm.upd u (fun e => k.ne_kb (bk _ e))
  have nm : ∀ q, q = kb → ¬ Ty w1 q 45 := fun q e => by rw [e]; exact tm1.not_ty _
  have wy1 : ∀ {x : Pm}, Wy w0 w x → Wy w0 w1 x := fun h => h.upd u nu
  have wy2 : ∀ {x : Pm}, Wy w0 w1 x → Wy w0 w2 x := fun h => h.upd um nm
  have hyl : ∀ x ∈ l, Wy w0 w1 x := fun x hx => by
    rw [hl] at hx
    rcases List.mem_append.1 hx with hx | hx
    · exact wy1 (k.wy _ x (List.mem_filter.1 hx).1)
    · rw [List.mem_singleton.1 hx]; exact wy1 hy
  have k2 := k.put a u ow hyl hb tm pp gm
  have q1 : OwnQ w1 w0.heap.size 99 6 A P.length c (P.flatMap spC) := I.q.upd u (fun q hq e => k.not_sp (.inr ⟨_, bk q e⟩) (I.q.ty hq))
  have q2 : OwnQ w2 w0.heap.size 99 6 A P.length c (P.flatMap spC) := q1.upd um (fun q hq e => by rw [e] at hq; exact tm1.not_ty _ (q1.ty hq))
  have n3 : ∀ q, blk A c = some q → ¬ Ty w2 q 45 := fun q hq e => absurd (e.ne (q2.ty hq)) (by decide)
  have k3 := k2.upd u3 (fun q hq e => k2.not_sp hq (q2.ty e)) n3
  have wy3 : ∀ {x : Pm}, Wy w0 w2 x → Wy w0 w3 x := fun h => h.upd u3 n3
  have e1 := upd_ext0 I.ex u (fun q hq => (k.lt (.inr ⟨_, bk q hq⟩)).1)
  have e2 := upd_ext0 e1 um (fun q e => by rw [e]; exact k.kb0)
  have e3 := upd_ext0 e2 u3 (fun q hq => (q2.lt q hq).1)
  have iQ : i < Q.length := (List.getElem?_eq_some_iff.1 hf).1
  have T2 : Kn g fr st (Q ++ [⟨m :: f.mv, g.tgt m, p.w, i, j⟩]) (fun q => (if q = g.tgt m then l else K q).map Pm.w) := by
    refine T.push I.b G hd (e := ⟨m :: f.mv, g.tgt m, p.w, i, j⟩) gv (fun q hq => ?_) ?_ (fun x hx => ?_) (fun e => by rw [e] at iQ; exact absurd iQ (Nat.not_lt_zero _))
    · show (if q = g.tgt m then l else K q).map Pm.w = _
      rw [if_neg hq]
    · show ((if g.tgt m = g.tgt m then l else K (g.tgt m)).map Pm.w).Perm _
      rw [if_pos rfl, hl, List.map_append, List.filter_map]
      exact List.Perm.refl _
    · obtain ⟨y, hy, rfl⟩ := List.mem_map.1 hx
      exact no y hy
  refine ⟨e3, I.b.push G hd hf hm hv (T.uncovered I.b G hd gv (fun x hx => ?_)), ?_, ?_, ?_, fun x hx => ?_, L2, ck2, _, k3, T2⟩
  · obtain ⟨y, hy, rfl⟩ := List.mem_map.1 hx
    exact no y hy
  · rw [List.length_append]; have := I.il; omega
  · rw [List.length_append, List.flatMap_append, List.flatMap_singleton]; exact qw
  · rw [List.map_append, I.pv, List.drop_append_of_le_length I.il, List.map_append]
    rfl
  · rcases List.mem_append.1 hx with hx | hx
    · exact wy3 (wy2 (wy1 (I.py x hx)))
    · rw [List.mem_singleton.1 hx]; exact wy3 (wy2 (wy1 hy))
/-- what else stays when something new is put -/
theorem push_frame {L : List Pe} {ck : Nat} {K : Pt → List Pm} (k : KmR w0 w kb L ck K) {q : Pt} {A1 : Option Addr} {c1 n : Nat} {xs : List Value} {w1 w2 w3 : World} (a : KAt w0 w (getE L q) (K q) A1 c1) (u : Upd (fun k => blk A1 c1 = some k) w w1) (gm : w1.grownBy w2 (some kb)) (qw : OwnQ w w0.heap.size 99 6 A n c xs) (u3 : Upd (fun k => blk A c = some k) w2 w3) :
    (∀ {x : Pm}, Wy w0 w x → Wy w0 w3 x) ∧ (∀ {b : Nat} {cs : Array Value}, Bk w b 99 cs → (∀ k, blk A c = some k → k ≠ b) → Bk w3 b 99 cs) := by
  have um : Upd (fun k => k = kb) w1 w2 := (Upd.refl _ w1).grown gm (fun k hk => .inl (by injection hk with hk; exact hk.symm))
  have U : Upd (fun k => blk A1 c1 = some k ∨ k = kb ∨ blk A c = some k) w w3 := (u.mono (fun _ _ h => .inl h)).trans ((um.mono (fun _ _ h => .inr (.inl h))).trans (u3.mono (fun _ _ h => .inr (.inr h))))
  refine ⟨fun {x} hx => hx.upd U (fun j hj => ?_), fun {b cs} hb hn => (U.block b (Array.getElem?_eq_some_iff.1 hb).1 (fun hj => ?_)).trans hb⟩
  · rcases hj with hj | rfl | hj
    · exact k.not_u32 (.inr ⟨q, a.bk.trans hj⟩)
    · exact k.tm.not_ty _
    · exact fun e => absurd (e.ne (qw.ty hj)) (by decide)
  · rcases hj with hj | rfl | hj
    · exact k.not_sp (.inr ⟨q, a.bk.trans hj⟩) hb.ty
    · exact k.tm.not_ty _ hb.ty
    · exact hn b hj rfl
end
end Go.Proofs.Yteklohamkmiphaa
namespace Go.Proofs.Yteklohamkmiphaa
open Go.RowKit

structure MpL {α : Type} (enc : α → List Value) (sz : Nat) (T : TypeId) (w0 w : World) (kb : Nat) (L : List Pe) (ck : Nat) (K : Pt → List α) : Prop where
  tm : TM w kb L ck
  kb0 : w0.heap.size ≤ kb
  ls : ∀ q, ∃ A c, (getE L q).getD nilS = .slice A (K q).length c ∧ Own w w0.heap.size T sz A (K q).length c ((K q).flatMap enc) ∧ blkV (getE L q) = blk A c
  ap : ∀ q r k, q ≠ r → blkV (getE L q) = some k → blkV (getE L r) ≠ some k
section
variable {α : Type} {enc : α → List Value} {sz : Nat} {T : TypeId} {w0 w w' : World} {kb ck : Nat} {L : List Pe} {K : Pt → List α}
theorem MpL.made (w : World) : MpL enc sz T w (w.alloc (.map #[] 0)) w.heap.size [] 0 (fun _ => []) :=
  ⟨TM.made w, Nat.le_refl _, fun q => ⟨Option.none, 0, rfl, Own.nil _ _ _ _, rfl⟩, fun q r k _ h => by cases h⟩
theorem MpL.ty (h : MpL enc sz T w0 w kb L ck K) {q : Pt} {k : Nat} (hk : blkV (getE L q) = some k) : Ty w k T := by
  obtain ⟨A, c, _, o, b⟩ := h.ls q
  rw [b] at hk
  exact o.ty hk
theorem MpL.lt (h : MpL enc sz T w0 w kb L ck K) {k : Nat} (hk : kmB kb L k) : w0.heap.size ≤ k ∧ k < w.heap.size := by
  rcases hk with rfl | ⟨q, hk⟩
  · exact ⟨h.kb0, h.tm.lt⟩
  · obtain ⟨A, c, _, o, b⟩ := h.ls q
    rw [b] at hk
    exact o.lt k hk
theorem MpL.ne_kb (h : MpL enc sz T w0 w kb L ck K) {q : Pt} : blkV (getE L q) ≠ some kb := fun e => h.tm.not_ty _ (h.ty e)
theorem MpL.not_ty (h : MpL enc sz T w0 w kb L ck K) {k : Nat} (hk : kmB kb L k) {U : TypeId} (hU : U ≠ T) : ¬ Ty w k U := by
  rcases hk with rfl | ⟨q, hk⟩
  · exact h.tm.not_ty _
  · exact fun e => hU (e.ne (h.ty hk))
theorem MpL.ext (h : MpL enc sz T w0 w kb L ck K) (e : Ext w w') : MpL enc sz T w0 w' kb L ck K :=
  ⟨h.tm.ext e, h.kb0, fun q => by obtain ⟨A, c, a, o, b⟩ := h.ls q; exact ⟨A, c, a, o.ext e, b⟩, h.ap⟩
theorem MpL.upd {S : Nat → Prop} (h : MpL enc sz T w0 w kb L ck K) (u : Upd S w w') (hS : ∀ k, kmB kb L k → ¬ S k) : MpL enc sz T w0 w' kb L ck K :=
  ⟨h.tm.upd u (hS _ (.inl rfl)), h.kb0, fun q => by obtain ⟨A, c, a, o, b⟩ := h.ls q; exact ⟨A, c, a, o.upd u (fun k hk => hS k (.inr ⟨q, by rw [b]; exact hk⟩)), b⟩, h.ap⟩
/-- an entry is taken, to be changed -/
theorem MpL.entry (h : MpL enc sz T w0 w kb L ck K) {q : Pt} {L' : List Pe} {ck' : Nat} (m : TM w' kb L' ck') (pp : Put L q ((getE L q).getD nilS) L') (gm : w.grownBy w' (some kb)) : MpL enc sz T w0 w' kb L' ck' K := by
  have um : Upd (fun k => k = kb) w w' := (Upd.refl _ w).grown gm (fun k hk => .inl (by injection hk with hk; exact hk.symm))
  have same : ∀ r, (getE L' r).getD nilS = (getE L r).getD nilS ∧ blkV (getE L' r) = blkV (getE L r) := fun r => by
    rw [pp.get r]
    by_cases e : r = q
    · rw [if_pos e, e]
      cases hq : getE L q with
      | none => exact ⟨rfl, rfl⟩
      | some v => exact ⟨rfl, rfl⟩
    · rw [if_neg e]; exact ⟨rfl, rfl⟩
  refine ⟨m, h.kb0, fun r => ?_, fun q r k e h1 h2 => ?_⟩
  · obtain ⟨A, c, a, o, b⟩ := h.ls r
    exact ⟨A, c, (same r).1.trans a, o.upd um (fun k hk e => by rw [e] at hk; exact h.tm.not_ty _ (o.ty hk)), (same r).2.trans b⟩
  · rw [(same q).2] at h1
    rw [(same r).2] at h2
    exact h.ap q r k e h1 h2
/-- one place's list is made anew, then put back -/
theorem MpL.put {w1 : World} (h : MpL enc sz T w0 w kb L ck K) {q : Pt} {A A' : Option Addr} {c c' ck' : Nat} {L' : List Pe} (hv : (getE L q).getD nilS = .slice A (K q).length c) (hbk : blkV (getE L q) = blk A c) (u : Upd (fun k => blk A c = some k) w w1) {l : List α} (o : Own w1 w0.heap.size T sz A' l.length c' (l.flatMap enc))
    (hb : ∀ k, blk A' c' = some k → blk A c = some k ∨ w.heap.size ≤ k) (m : TM w' kb L' ck') (pp : Put L q (.slice A' l.length c') L') (gm : w1.grownBy w' (some kb)) : MpL enc sz T w0 w' kb L' ck' (fun r => if r = q then l else K r) := by
  have _ := hv
  have nb : ¬ blk A c = some kb := fun e => h.ne_kb (q := q) (hbk.trans e)
  have tm1 : TM w1 kb L ck := h.tm.upd u nb
  have um : Upd (fun k => k = kb) w1 w' := (Upd.refl _ w1).grown gm (fun k hk => .inl (by injection hk with hk; exact hk.symm))
  have nk3 : ∀ k, k = kb → ¬ Ty w1 k T := fun k e => by subst e; exact tm1.not_ty _
  refine ⟨m, h.kb0, fun r => ?_, fun r s k rs hr hs => ?_⟩
  · rw [pp.get r]
    by_cases e : r = q
    · subst e
      rw [if_pos rfl, if_pos rfl]
      exact ⟨A', c', rfl, o.upd um (fun k hk e => nk3 k e (o.ty hk)), rfl⟩
    · rw [if_neg e, if_neg e]
      obtain ⟨A2, c2, a2, o2, b2⟩ := h.ls r
      have o2 := o2.upd u (fun k hk q2 => h.ap r q k e (b2.trans hk) (hbk.trans q2))
      exact ⟨A2, c2, a2, o2.upd um (fun k hk e => nk3 k e (o2.ty hk)), b2⟩
  · rw [pp.get] at hr hs
    have far : ∀ r, r ≠ q → blkV (getE L r) = some k → blk A' c' ≠ some k := fun r e h1 h2 => by
      rcases hb k h2 with q1 | q1
      · exact h.ap r q k e h1 (hbk.trans q1)
      · have := (h.lt (.inr ⟨r, h1⟩)).2; omega
    by_cases e : r = q
    · rw [if_pos e] at hr
      rw [if_neg (fun e2 => rs (e.trans e2.symm))] at hs
      exact far s (fun e2 => rs (e.trans e2.symm)) hs hr
    · rw [if_neg e] at hr
      by_cases e2 : s = q
      · rw [if_pos e2] at hs
        exact far r e hr hs
      · rw [if_neg e2] at hs
        exact h.ap r s k rs hr hs
/-- 'm[q] = append(m[q], x)': the entry, the append, the store -/
theorem MpL.push {w1 w2 w3 : World} (h : MpL enc sz T w0 w kb L ck K) {q : Pt} {A A' : Option Addr} {c c' ck1 : Nat} {L1 L3 : List Pe} (hv : (getE L q).getD nilS = .slice A (K q).length c) (hbk : blkV (getE L q) = blk A c) (m1 : TM w1 kb L1 ck1) (p1 : Put L q ((getE L q).getD nilS) L1) (g1 : w.grownBy w1 (some kb)) (u : Upd (fun k => blk A c = some k) w1 w2) {x : α}
    (o : Own w2 w0.heap.size T sz A' ((K q).length + 1) c' ((K q).flatMap enc ++ enc x)) (hb : ∀ k, blk A' c' = some k → blk A c = some k ∨ w1.heap.size ≤ k) (m3 : TM w3 kb L3 ck1) (p3 : Put L1 q (.slice A' ((K q).length + 1) c') L3) (g3 : w2.grownBy w3 (some kb)) : MpL enc sz T w0 w3 kb L3 ck1 (fun r => if r = q then K q ++ [x] else K r) := by
  have h1 := h.entry m1 p1 g1
  have e1 : getE L1 q = some ((getE L q).getD nilS) := by rw [p1.get, if_pos rfl]
  have hv1 : (getE L1 q).getD nilS = .slice A (K q).length c := by rw [e1]; exact hv
  have hb1 : blkV (getE L1 q) = blk A c := by rw [e1, hv]; rfl
  have hl : (K q ++ [x]).length = (K q).length + 1 := by rw [List.length_append]; rfl
  exact h1.put hv1 hb1 u (l := K q ++ [x]) (by rw [hl, List.flatMap_append, List.flatMap_singleton]; exact o) hb m3 (by rw [hl]; exact p3) g3
/-- where the writes were -/
theorem MpL.frame {w1 w2 w3 : World} (h : MpL enc sz T w0 w kb L ck K) {q : Pt} {A : Option Addr} {c : Nat} (hbk : blkV (getE L q) = blk A c) (g1 : w.grownBy w1 (some kb)) (u : Upd (fun k => blk A c = some k) w1 w2) (g3 : w2.grownBy w3 (some kb)) : Upd (kmB kb L) w w3 := by
  have U1 : Upd (kmB kb L) w w1 := (Upd.refl _ w).grown g1 (fun k hk => .inl (.inl (by injection hk with hk; exact hk.symm)))
  have U2 : Upd (kmB kb L) w1 w2 := u.mono (fun k _ hk => .inr ⟨q, hbk.trans hk⟩)
  have U3 : Upd (kmB kb L) w2 w3 := (Upd.refl _ w2).grown g3 (fun k hk => .inl (.inl (by injection hk with hk; exact hk.symm)))
  exact U1.trans (U2.trans U3)
end
/-- what stands at a place, of pairs -/
def sel {α : Type} (t : List (Pt × α)) (q : Pt) : List α := (t.filter (fun x => decide (x.1 = q))).map Prod.snd
theorem sel_push {α : Type} (t : List (Pt × α)) (q : Pt) (x : α) : sel (t ++ [(q, x)]) = fun r => if r = q then sel t q ++ [x] else sel t r := by
  funext r
  unfold sel
  rw [List.filter_append, List.map_append]
  by_cases e : r = q
  · subst e; simp
  · rw [if_neg e, List.filter_cons_of_neg (by simpa using fun h : q = r => e h.symm)]; simp
theorem sel_len {α : Type} (t : List (Pt × α)) (q : Pt) : (sel t q).length ≤ t.length := by
  unfold sel; rw [List.length_map]; exact List.length_filter_le _ _
end Go.Proofs.Yteklohamkmiphaa
namespace Go.Proofs.Yteklohamkmiphaa
open Go.RowKit

instance : DecidableEq Way := fun a b => decidable_of_iff (a.leave = b.leave ∧ a.add = b.add ∧ a.enter = b.enter) ⟨fun h => by cases a; cases b; simp only at h; rw [h.1, h.2.1, h.2.2], fun h => by rw [h]; exact ⟨rfl, rfl, rfl⟩⟩

def tabK (T : List (Pt × Way)) (q : Pt) : List Way := (T.filter (fun x => decide (x.1 = q))).map (fun x => x.2)
/-- where a way leads on, there is something at least as early -/
def onB (g : Gr) (d : Int) (T : List (Pt × Way)) (p : Pt) (w : Way) : Bool := (g.mvs p).all fun m => decide ((thn w (g.mw m)).2 ≠ 0) || T.any fun x => decide (x.1 = g.tgt m) && pl x.2 (thn w (g.mw m)).1 d
def closedB (g : Gr) (fr : Pt) (st : Bool) (T : List (Pt × Way)) : Bool := (! st || T.any fun x => decide (x.1 = fr) && pl x.2 idW (g.dp fr)) && onB g (g.dp fr) T fr idW && T.all fun x => onB g (g.dp fr) T x.1 x.2
/-- each came from one before -/
def madeB (g : Gr) (fr : Pt) : List (Pt × Way) → List (Pt × Way) → Bool
  | _, [] => true
  | S, x :: T => (S.any fun s => (g.mvs s.1).any fun m => decide (g.tgt m = x.1) && decide (thn s.2 (g.mw m) = (x.2, 0))) && madeB g fr (x :: S) T
def apartB (d : Int) (T : List (Pt × Way)) : Bool := T.all fun x => T.all fun y => decide (x = y) || ! decide (x.1 = y.1) || ! pl x.2 y.2 d

theorem tabK_mem {T : List (Pt × Way)} {q : Pt} {w : Way} : w ∈ tabK T q ↔ (q, w) ∈ T := by
  unfold tabK
  rw [List.mem_map]
  constructor
  · rintro ⟨x, hx, rfl⟩
    have hx := List.mem_filter.1 hx
    have := of_decide_eq_true hx.2
    rw [← this]; exact hx.1
  · intro h
    exact ⟨(q, w), List.mem_filter.2 ⟨h, by simp⟩, rfl⟩

theorem closed_route {g : Gr} (G : GOK g) {fr : Pt} (hf : (g.dep fr).isSome) {st : Bool} {T : List (Pt × Way)} (c : closedB g fr st T = true) (hT : ∀ x, x ∈ T → (g.dep x.1).isSome ∧ GoodW (g.dp fr) (g.dp x.1) x.2) {p : Pt} {w : Way} (r : Route g fr p w) :
    (∀ m, m ∈ g.mvs p → ∀ v, thn w (g.mw m) = (v, 0) → ∃ x, x ∈ tabK T (g.tgt m) ∧ pl x v (g.dp fr) = true) := by
  unfold closedB at c
  simp only [Bool.and_eq_true] at c
  have on : ∀ {u : Way}, onB g (g.dp fr) T p u = true → GoodW (g.dp fr) (g.dp p) u → (g.dep p).isSome → pl u w (g.dp fr) = true → GoodW (g.dp fr) (g.dp p) w → ∀ m, m ∈ g.mvs p → ∀ v, thn w (g.mw m) = (v, 0) → ∃ x, x ∈ tabK T (g.tgt m) ∧ pl x v (g.dp fr) = true := by
    intro u h gu hp l gw m hm v hv
    obtain ⟨gb, gt⟩ := G.goodB hm hp
    obtain ⟨s, s1, s2, s3⟩ := gb.mono gu gw l hv
    unfold onB at h
    have := (List.all_eq_true.1 h) m hm
    rw [s1] at this
    simp only [ne_eq, not_true_eq_false, decide_false, Bool.false_or, List.any_eq_true, Bool.and_eq_true, decide_eq_true_eq] at this
    obtain ⟨x, x1, x2, x3⟩ := this
    refine ⟨x.2, tabK_mem.2 (by rw [← x2]; exact x1), ?_⟩
    have gx := (hT x x1).2
    rw [x2] at gx
    exact pl_trans gx s2 (gb.goes gw hv) x3 s3
  revert on
  induction r with
  | nil =>
    intro on
    have gi := (G.route hf (.nil : Route g fr fr idW)).2
    exact on c.1.2 gi hf (pl_refl gi) gi
  | @step p' w' w m' r' hm' hv' ih =>
    intro on
    have gr := G.route hf (.step r' hm' hv')
    have gr' := G.route hf r'
    obtain ⟨x, x1, x2⟩ := ih (fun {u} h gu hp l gw m hm v hv => by
      obtain ⟨gb, gt⟩ := G.goodB hm hp
      obtain ⟨s, s1, s2, s3⟩ := gb.mono gu gw l hv
      unfold onB at h
      have := (List.all_eq_true.1 h) m hm
      rw [s1] at this
      simp only [ne_eq, not_true_eq_false, decide_false, Bool.false_or, List.any_eq_true, Bool.and_eq_true, decide_eq_true_eq] at this
      obtain ⟨x, x1, x2, x3⟩ := this
      refine ⟨x.2, tabK_mem.2 (by rw [← x2]; exact x1), ?_⟩
      have gx := (hT x x1).2
      rw [x2] at gx
      exact pl_trans gx s2 (gb.goes gw hv) x3 s3) m' hm' w hv'
    have xT := tabK_mem.1 x1
    exact on ((List.all_eq_true.1 c.2) _ xT) (hT _ xT).2 gr.1 x2 gr.2

theorem closed_found {g : Gr} (G : GOK g) {fr : Pt} (hf : (g.dep fr).isSome) {st : Bool} {T : List (Pt × Way)} (c : closedB g fr st T = true) (hT : ∀ x, x ∈ T → (g.dep x.1).isSome ∧ GoodW (g.dp fr) (g.dp x.1) x.2) {q : Pt} {w : Way} (h : Found g fr (st = true) q w) :
    ∃ x, x ∈ tabK T q ∧ pl x w (g.dp fr) = true := by
  rcases h with ⟨hs, rfl, rfl⟩ | ⟨p, u, m, h1, h2, h3, rfl⟩
  · unfold closedB at c
    simp only [Bool.and_eq_true, hs, Bool.not_true, Bool.false_or, List.any_eq_true, decide_eq_true_eq] at c
    obtain ⟨x, x1, x2, x3⟩ := c.1.1
    exact ⟨x.2, tabK_mem.2 (by rw [← x2]; exact x1), x3⟩
  · exact closed_route G hf c hT h1 m h2 w h3

theorem made_route {g : Gr} {fr : Pt} : ∀ (S T : List (Pt × Way)), madeB g fr S T = true → (∀ x, x ∈ S → Route g fr x.1 x.2) → ∀ x, x ∈ T → ∃ p u m, Route g fr p u ∧ m ∈ g.mvs p ∧ thn u (g.mw m) = (x.2, 0) ∧ x.1 = g.tgt m
  | S, [], _, _, x, hx => by simp at hx
  | S, y :: T, h, hS, x, hx => by
    unfold madeB at h
    simp only [Bool.and_eq_true, List.any_eq_true, decide_eq_true_eq] at h
    obtain ⟨⟨s, s1, m, m1, m2, m3⟩, h2⟩ := h
    have hy : ∃ p u m, Route g fr p u ∧ m ∈ g.mvs p ∧ thn u (g.mw m) = (y.2, 0) ∧ y.1 = g.tgt m := ⟨s.1, s.2, m, hS s s1, m1, m3, m2.symm⟩
    rcases List.mem_cons.1 hx with rfl | hx
    · exact hy
    · refine made_route (y :: S) T h2 (fun z hz => ?_) x hx
      rcases List.mem_cons.1 hz with rfl | hz
      · obtain ⟨p, u, m, a1, a2, a3, a4⟩ := hy
        rw [a4]; exact .step a1 a2 a3
      · exact hS z hz

/-- a list that is closed, each of which came, none behind another: the table; the root comes first where it is asked for -/
theorem tab_of {g : Gr} (G : GOK g) {fr : Pt} (hf : (g.dep fr).isSome) {T : List (Pt × Way)} (c : closedB g fr true ((fr, idW) :: T) = true) (m : madeB g fr [(fr, idW)] T = true) (a : apartB (g.dp fr) ((fr, idW) :: T) = true) (nd : ((fr, idW) :: T).Nodup) :
    Tab g fr True (tabK ((fr, idW) :: T)) := by
  have fd : ∀ x, x ∈ (fr, idW) :: T → Found g fr True x.1 x.2 := by
    intro x hx
    rcases List.mem_cons.1 hx with rfl | hx
    · exact .inl ⟨trivial, rfl, rfl⟩
    · exact .inr (made_route _ T m (fun z hz => by simp at hz; subst hz; exact .nil) x hx)
  have hT : ∀ x, x ∈ (fr, idW) :: T → (g.dep x.1).isSome ∧ GoodW (g.dp fr) (g.dp x.1) x.2 := fun x hx => G.route hf (fd x hx).route
  refine ⟨fun q w hw => fd (q, w) (tabK_mem.1 hw), fun q w hw => ?_, fun q => ?_⟩
  · refine closed_found G hf c hT ?_
    rcases hw with ⟨_, h⟩ | h
    · exact .inl ⟨rfl, h⟩
    · exact .inr h
  · unfold apartB at a
    rw [List.all_eq_true] at a
    have key : ∀ x, x ∈ (fr, idW) :: T → ∀ y, y ∈ (fr, idW) :: T → x ≠ y → x.1 = y.1 → pl x.2 y.2 (g.dp fr) = false := by
      intro x hx y hy ne e
      have := (List.all_eq_true.1 (a x hx)) y hy
      simpa [ne, e] using this
    unfold tabK
    refine List.pairwise_map.2 ?_
    have np := (List.nodup_iff_pairwise_ne.1 nd).filter (fun x => decide (x.1 = q))
    refine np.imp_of_mem ?_
    intro x y hx hy hne
    have hx := List.mem_filter.1 hx
    have hy := List.mem_filter.1 hy
    have ex := of_decide_eq_true hx.2
    have ey := of_decide_eq_true hy.2
    exact ⟨key x hx.1 y hy.1 hne (by rw [ex, ey]), key y hy.1 x hx.1 (Ne.symm hne) (by rw [ex, ey])⟩

/-- the chapter's graph -/
def exG (a : Int) : Gr :=
  ⟨[⟨0, 1, 0, []⟩, ⟨1, 1, 0, [⟨0, 0, ⟨0, 0, [0]⟩⟩]⟩, ⟨2, 1, 1, [⟨0, 0, idW⟩, ⟨1, 0, idW⟩]⟩, ⟨1, 1, 1, [⟨0, 0, ⟨0, a, []⟩⟩]⟩, ⟨1, 1, 1, [⟨0, 0, ⟨1, 0, []⟩⟩]⟩, ⟨1, 0, 0, []⟩],
   [(⟨0, true, 0⟩, ⟨1, false, 0⟩), (⟨1, true, 0⟩, ⟨2, false, 0⟩), (⟨3, true, 0⟩, ⟨2, false, 1⟩), (⟨2, true, 0⟩, ⟨3, false, 0⟩), (⟨2, true, 0⟩, ⟨4, false, 0⟩), (⟨4, true, 0⟩, ⟨5, false, 0⟩)]⟩

theorem exG_32 {a : Int} (h0 : 0 ≤ a) (h1 : a ≤ 4294967295) : G32 (exG a) := by
  intro n hn x hx
  have z : ∀ y, y ∈ [(0 : Int)] → 0 ≤ y ∧ y ≤ 4294967295 := fun y hy => by simp at hy; omega
  unfold exG idW at hn
  simp only [List.mem_cons, List.not_mem_nil, or_false] at hn
  rcases hn with rfl | rfl | rfl | rfl | rfl | rfl <;> simp only [List.mem_cons, List.not_mem_nil, or_false] at hx
  · subst hx; exact ⟨by simp, by simp, z⟩
  · rcases hx with rfl | rfl <;> exact ⟨by simp, by simp, fun y hy => by simp at hy⟩
  · subst hx; exact ⟨h0, h1, fun y hy => by simp at hy⟩
  · subst hx; exact ⟨by simp, by simp, fun y hy => by simp at hy⟩

def exT1 : List (Pt × Way) := [(⟨1, false, 0⟩, idW), (⟨1, true, 0⟩, ⟨0, 0, [0]⟩), (⟨2, false, 0⟩, ⟨0, 0, [0]⟩), (⟨2, true, 0⟩, ⟨0, 0, [0]⟩), (⟨3, false, 0⟩, ⟨0, 0, [0]⟩), (⟨4, false, 0⟩, ⟨0, 0, [0]⟩), (⟨3, true, 0⟩, ⟨0, 0, [1]⟩), (⟨4, true, 0⟩, idW), (⟨2, false, 1⟩, ⟨0, 0, [1]⟩), (⟨5, false, 0⟩, idW)]
def exT2 : List (Pt × Way) := [(⟨3, false, 0⟩, idW), (⟨4, false, 0⟩, idW), (⟨3, true, 0⟩, ⟨0, 1, []⟩), (⟨4, true, 0⟩, ⟨1, 0, []⟩), (⟨2, false, 1⟩, ⟨0, 1, []⟩), (⟨5, false, 0⟩, ⟨1, 0, []⟩)]

theorem exG1_ok : formT (exG 1) = true := by decide +kernel
theorem exG0_ok : formT (exG 0) = true := by decide +kernel
theorem ex_tab1 : Tab (exG 1) ⟨0, true, 0⟩ True (tabK ((⟨0, true, 0⟩, idW) :: exT1)) :=
  tab_of (formT_ok exG1_ok (exG_32 (by decide +kernel) (by decide +kernel))) (by decide +kernel) (by decide +kernel) (by decide +kernel) (by decide +kernel) (by decide +kernel)
theorem ex_tab2 : Tab (exG 1) ⟨2, true, 0⟩ True (tabK ((⟨2, true, 0⟩, idW) :: exT2)) :=
  tab_of (formT_ok exG1_ok (exG_32 (by decide +kernel) (by decide +kernel))) (by decide +kernel) (by decide +kernel) (by decide +kernel) (by decide +kernel) (by decide +kernel)
end Go.Proofs.Yteklohamkmiphaa
namespace Go.Proofs.Yteklohamkmiphaa
open Go.RowKit

theorem no_cyc {g : Gr} (G : GOK g) (Ts : Pt → List (Pt × Way)) (h : ∀ q, q ∈ g.ports → (g.dep q).isSome = true → closedB g q false (Ts q) = true ∧ madeB g q [(q, idW)] (Ts q) = true ∧ ((tabK (Ts q) q).all fun x => ! pl x idW (g.dp q)) = true) : ¬ Cyc g := by
  rintro ⟨q, w, h1, h2, h3, h4⟩
  obtain ⟨c, m, a⟩ := h q (G.mem_ports h2 h1) h2
  have hT : ∀ x, x ∈ Ts q → (g.dep x.1).isSome ∧ GoodW (g.dp q) (g.dp x.1) x.2 := fun x hx => by
    obtain ⟨p, u, m', a1, a2, a3, a4⟩ := made_route _ _ m (fun z hz => by simp at hz; subst hz; exact .nil) x hx
    rw [a4]
    exact G.route h2 (.step a1 a2 a3)
  obtain ⟨x, x1, x2⟩ := closed_found G h2 c hT (q := q) (w := w) (by
    rcases h3 with ⟨f, _⟩ | h3
    · exact f.elim
    · exact .inr h3)
  have gx := (hT _ (tabK_mem.1 x1)).2
  have gw := (G.route h2 h3.route).2
  have gi := (G.route h2 (.nil : Route g q q idW)).2
  have := (List.all_eq_true.1 a) x x1
  rw [pl_trans gx gw gi x2 h4] at this
  simp at this

def exTs (q : Pt) : List (Pt × Way) :=
  if q = ⟨1, false, 0⟩ then [(⟨1, true, 0⟩, ⟨0, 0, [0]⟩), (⟨2, false, 0⟩, ⟨0, 0, [0]⟩), (⟨2, true, 0⟩, ⟨0, 0, [0]⟩), (⟨3, false, 0⟩, ⟨0, 0, [0]⟩), (⟨4, false, 0⟩, ⟨0, 0, [0]⟩), (⟨3, true, 0⟩, ⟨0, 0, [1]⟩), (⟨4, true, 0⟩, idW), (⟨2, false, 1⟩, ⟨0, 0, [1]⟩), (⟨5, false, 0⟩, idW)]
  else if q = ⟨2, false, 0⟩ ∨ q = ⟨2, false, 1⟩ then [(⟨2, true, 0⟩, idW), (⟨3, false, 0⟩, idW), (⟨4, false, 0⟩, idW), (⟨3, true, 0⟩, ⟨0, 1, []⟩), (⟨4, true, 0⟩, ⟨1, 0, []⟩), (⟨2, false, 1⟩, ⟨0, 1, []⟩), (⟨5, false, 0⟩, ⟨1, 0, []⟩)]
  else if q = ⟨3, false, 0⟩ then [(⟨3, true, 0⟩, ⟨0, 1, []⟩), (⟨2, false, 1⟩, ⟨0, 1, []⟩), (⟨2, true, 0⟩, ⟨0, 1, []⟩), (⟨3, false, 0⟩, ⟨0, 1, []⟩), (⟨4, false, 0⟩, ⟨0, 1, []⟩), (⟨4, true, 0⟩, ⟨1, 0, []⟩), (⟨5, false, 0⟩, ⟨1, 0, []⟩)]
  else if q = ⟨4, false, 0⟩ then [(⟨4, true, 0⟩, ⟨1, 0, []⟩), (⟨5, false, 0⟩, ⟨1, 0, []⟩)]
  else []

theorem exG1_cyc : ¬ Cyc (exG 1) := no_cyc (formT_ok exG1_ok (exG_32 (by decide +kernel) (by decide +kernel))) exTs (by decide +kernel)
theorem exG1_check : CheckIs (exG 1) 0 := .inr (.inr ⟨exG1_ok, exG1_cyc, rfl⟩)
theorem exG0_cyc : Cyc (exG 0) := by
  obtain ⟨p, u, m, a1, a2, a3, a4⟩ := made_route (g := exG 0) (fr := ⟨2, false, 1⟩) [(⟨2, false, 1⟩, idW)] [(⟨2, true, 0⟩, idW), (⟨3, false, 0⟩, idW), (⟨3, true, 0⟩, idW), (⟨2, false, 1⟩, idW)] (by decide +kernel) (fun z hz => by simp at hz; subst hz; exact .nil) (⟨2, false, 1⟩, idW) (by simp)
  exact ⟨⟨2, false, 1⟩, idW, rfl, by decide +kernel, .inr ⟨p, u, m, a1, a2, a3, a4⟩, by decide +kernel⟩
theorem exG0_check : CheckIs (exG 0) 61 := .inr (.inl ⟨exG0_ok, exG0_cyc, rfl⟩)
theorem exG1_ways1 {l : List Way} {e : Int} (h : WaysIs (exG 1) ⟨0, true, 0⟩ ⟨5, false, 0⟩ l e) : l = [idW] ∧ e = 0 :=
  WaysIs.unique (exG_32 (by decide +kernel) (by decide +kernel)) h (.inr (.inr ⟨exG1_check, by unfold PlacesT; decide +kernel, rfl, _, ex_tab1, by decide +kernel, by decide +kernel⟩))
theorem exG1_ways2 {l : List Way} {e : Int} (h : WaysIs (exG 1) ⟨2, true, 0⟩ ⟨2, false, 1⟩ l e) : l = [⟨0, 1, []⟩] ∧ e = 0 :=
  WaysIs.unique (exG_32 (by decide +kernel) (by decide +kernel)) h (.inr (.inr ⟨exG1_check, by unfold PlacesT; decide +kernel, rfl, _, ex_tab2, by decide +kernel, by decide +kernel⟩))
end Go.Proofs.Yteklohamkmiphaa
namespace Go.Proofs.Yteklohamkmiphaa
open Go.RowKit

/-- places that are reached by one step at least -/
inductive Reach (g : Gr) : Pt → Pt → Prop
  | one {p q : Pt} {b : Way} : Stp g p q b → Reach g p q
  | more {p q r : Pt} {b : Way} : Reach g p q → Stp g q r b → Reach g p r
theorem Reach.trans {g : Gr} {p q r : Pt} (h : Reach g p q) (k : Reach g q r) : Reach g p r := by
  induction k with
  | one s => exact .more h s
  | more _ s ih => exact .more ih s
theorem Reach.first {g : Gr} {p r : Pt} (h : Reach g p r) : ∃ q b, Stp g p q b ∧ (q = r ∨ Reach g q r) := by
  induction h with
  | one s => exact ⟨_, _, s, .inl rfl⟩
  | more _ s ih =>
    obtain ⟨q, b, h1, h2⟩ := ih
    refine ⟨q, b, h1, .inr ?_⟩
    rcases h2 with rfl | h2
    · exact .one s
    · exact .more h2 s
theorem Route.reach {g : Gr} {fr q : Pt} {w : Way} (h : Route g fr q w) : q = fr ∨ Reach g fr q := by
  induction h with
  | nil => exact .inl rfl
  | step _ hm _ ih =>
    right
    rcases ih with rfl | ih
    · exact .one (stp_of hm)
    · exact .more ih (stp_of hm)
theorem Found.reach {g : Gr} {fr q : Pt} {w : Way} (h : Found g fr False q w) : Reach g fr q := by
  rcases h with ⟨f, _⟩ | ⟨p, u, m, h1, h2, _, rfl⟩
  · exact f.elim
  · rcases h1.reach with rfl | h1
    · exact .one (stp_of h2)
    · exact .more h1 (stp_of h2)

/-- how often a place is among these that are left -/
def inLeft (left : Pt → Bool) (l : List Pt) : Nat := (l.filter left).length
theorem inLeft_drop (left : Pt → Bool) (p : Pt) (hp : left p = true) (l : List Pt) : inLeft left l = inLeft (fun x => left x && ! decide (x = p)) l + l.count p := by
  unfold inLeft
  induction l with
  | nil => rfl
  | cons a l ih =>
    by_cases h : a = p
    · subst h
      rw [List.filter_cons_of_pos hp, List.filter_cons_of_neg (by simp), List.length_cons, List.count_cons_self, ih]; omega
    · rw [List.count_cons_of_ne (Ne.symm (fun e => h e.symm))]
      cases hl : left a
      · rw [List.filter_cons_of_neg (by simp [hl]), List.filter_cons_of_neg (by simp [hl]), ih]
      · rw [List.filter_cons_of_pos hl, List.filter_cons_of_pos (by simp [hl, h]), List.length_cons, List.length_cons, ih]; omega

/-- what a sift keeps: the places of a round stay, and are counted often enough -/
structure SiftI (nxt : Pt → List Pt) (C : Pt → Prop) (left : Pt → Bool) (cnt : Pt → Int) (rem : List Pt) : Prop where
  st : ∀ c, C c → left c = true
  ct : ∀ c, C c → (inLeft left (nxt c) : Int) + rem.count c ≤ cnt c
theorem SiftI.pos {nxt : Pt → List Pt} {C : Pt → Prop} {left : Pt → Bool} {cnt : Pt → Int} {rem : List Pt} (h : SiftI nxt C left cnt rem) (hn : ∀ c, C c → ∃ x, x ∈ nxt c ∧ C x) {c : Pt} (hc : C c) : 1 ≤ cnt c := by
  obtain ⟨x, x1, x2⟩ := hn c hc
  have h1 := h.ct c hc
  have h2 : 0 < inLeft left (nxt c) := by
    unfold inLeft
    exact List.length_pos_iff.2 (List.ne_nil_of_mem (List.mem_filter.2 ⟨x1, h.st x x2⟩))
  omega
theorem SiftI.drop {nxt prv : Pt → List Pt} {C : Pt → Prop} {left : Pt → Bool} {cnt : Pt → Int} (h : SiftI nxt C left cnt []) (tp : ∀ p q, (prv p).count q = (nxt q).count p) {p : Pt} (hp : left p = true) (hc : ¬ C p) : SiftI nxt C (fun x => left x && ! decide (x = p)) cnt (prv p) := by
  refine ⟨fun c h1 => ?_, fun c h1 => ?_⟩
  · have : c ≠ p := fun e => hc (e ▸ h1)
    simp [h.st c h1, this]
  · have h2 := h.ct c h1
    have h3 := inLeft_drop left p hp (nxt c)
    rw [tp]
    simp at h2
    omega
theorem SiftI.dec {nxt : Pt → List Pt} {C : Pt → Prop} {left : Pt → Bool} {cnt : Pt → Int} {q : Pt} {rem : List Pt} (h : SiftI nxt C left cnt (q :: rem)) {cnt' : Pt → Int} (h1 : cnt' q = cnt q - 1) (h2 : ∀ p, p ≠ q → cnt' p = cnt p) : SiftI nxt C left cnt' rem := by
  refine ⟨h.st, fun c hc => ?_⟩
  have := h.ct c hc
  by_cases e : c = q
  · subst e
    rw [List.count_cons_self] at this
    rw [h1]; omega
  · rw [List.count_cons_of_ne (fun x => e x.symm)] at this
    rw [h2 c e]; exact this
end Go.Proofs.Yteklohamkmiphaa
namespace Go.Proofs.Yteklohamkmiphaa
open Go.RowKit

class WRel (R : World → World → Prop) : Prop where
  refl : ∀ w, R w w
  trans : ∀ {a b c}, R a b → R b c → R a c
/-- the worlds that have come of w, as R says -/
structure Zt (R : World → World → Prop) (w : World) where
  W : World
  x : R w W
instance Zt.any (R : World → World → Prop) [h : WRel R] (w : World) : Nonempty (Zt R w) := ⟨⟨w, h.refl w⟩⟩
section
variable {P : Program} {ops : Array Oper} {Q : Exit → Act → World → Prop} {bs : Array Nat} {R : World → World → Prop}
/-- whatever order is picked from here on, and operations of the set X at most make new memory -/
def wpXR (R : World → World → Prop) (P : Program) (ops : Array Oper) (Q : Exit → Act → World → Prop) (X : Nat → Bool) : Nat → Array Bool → Act → World → Prop
  | 0, listed, a, w => Region.ready .any ops listed = [] ∧ Q .normal a w
  | fuel + 1, listed, a, w =>
    (Region.ready .any ops listed = [] → Q .normal a w) ∧
    ∀ i ∈ Region.ready .any ops listed, wpOp P ops Q i (fun a' w' => (X i = true → R w w') ∧ wpXR R P ops Q X fuel (listed.setIfInBounds i true) a' w') a w

theorem wpAny_of_XR {X : Nat → Bool} : ∀ (fuel : Nat) (listed : Array Bool) (a : Act) (w : World), wpXR R P ops Q X fuel listed a w → wpAny P .any ops Q fuel listed a w
  | 0, _, _, _, h => h
  | fuel + 1, _, _, _, h => ⟨h.1, fun i hi => wpOp_mono (fun a' w' h' => wpAny_of_XR fuel _ a' w' h'.2) (h.2 i hi)⟩

theorem wpX_doneR {X : Nat → Bool} {listed : Array Bool} {a : Act} {w : World} (hr : Region.ready .any ops listed = []) (h : Q .normal a w) : ∀ fuel, wpXR R P ops Q X fuel listed a w
  | 0 => ⟨hr, h⟩
  | _ + 1 => ⟨fun _ => h, by rw [hr]; simp⟩

theorem yields_laterR [WRel R] {o : Oper} {v : Value} {a : Act} {w w' : World} (h : YieldsIf P ops (R w) o v a) (x : R w w') : YieldsIf P ops (R w') o v a :=
  h.imp (fun ⟨h1, h2⟩ => ⟨h1, fun u hu => h2 u (WRel.trans x hu)⟩) id

theorem wpX_firstR [WRel R] {X : Nat → Bool} (hok : ancOkB ops bs = true) {i : Nat} {oi : Oper} {v : Value} (hi : ops[i]? = some oi) (hsel : ∀ (j : Nat) (o : Oper) cs b, ops[j]? = some o → o.op ≠ .select cs b)
    (hQ : ∀ c a d v w, Q (.panic c) (a.put d v) w → Q (.panic c) a w) :
    ∀ (fuel : Nat) (listed : Array Bool) (a : Act) (w : World), Closed ops bs listed →
      (∀ j oj, ops[j]? = some oj → j ≠ i → listed.getD j true = false → ancB ops bs i j = false → oi.apart ops oj = true ∧ X j = true) →
      i ∈ Region.ready .any ops listed → YieldsIf P ops (R w) oi v a →
      wpXR R P ops Q X fuel (listed.setIfInBounds i true) (a.put oi.dst v) w → wpXR R P ops Q X (fuel + 1) listed a w := by
  intro fuel
  induction fuel with
  | zero =>
    intro listed a w hcl _ hr hy H
    refine ⟨fun h => (by rw [h] at hr; cases hr), fun j hj => ?_⟩
    by_cases hji : j = i
    · subst hji; exact hy.wpOp hi (WRel.refl (R := R) w) ⟨fun _ => WRel.refl (R := R) w, H⟩
    · have := ready_mono hj hji
      rw [H.1] at this
      cases this
  | succ fuel ih =>
    intro listed a w hcl hfree hr hy H
    refine ⟨fun h => (by rw [h] at hr; cases hr), fun j hj => ?_⟩
    by_cases hji : j = i
    · subst hji; exact hy.wpOp hi (WRel.refl (R := R) w) ⟨fun _ => WRel.refl (R := R) w, H⟩
    · have h1 := H.2 j (ready_mono hj hji)
      obtain ⟨hjun, oj, hoj, hall⟩ := mem_ready.1 hj
      have hiun := (mem_ready.1 hr).1
      have hnot : ancB ops bs i j = false := by
        cases hb : ancB ops bs i j with
        | false => rfl
        | true =>
          have h2 := ready_anc hok hcl hj hb
          rcases Nat.lt_or_ge i listed.size with h' | h'
          · simp [h'] at h2 hiun; rw [hiun] at h2; cases h2
          · simp [Array.getElem?_eq_none h'] at h2
      obtain ⟨hap, hX⟩ := hfree j oj hoj hji hjun hnot
      have h2 := wpOp_putIf hoj hap (fun cs b => hsel i oi cs b hi) (fun cs b => hsel j oj cs b hoj) (fun c a w => hQ c a _ _ w) hy h1
      have hfree' : ∀ k ok, ops[k]? = some ok → k ≠ i → (listed.setIfInBounds j true).getD k true = false → ancB ops bs i k = false → oi.apart ops ok = true ∧ X k = true := fun k ok hk hki hun hno => by
        refine hfree k ok hk hki ?_ hno
        by_cases hjk : j = k
        · subst hjk; exact hjun
        · rw [getD_set_ne true hjk] at hun; exact hun
      refine wpOp_mono (fun a' w' h3 => ⟨h3.2.1, ih (listed.setIfInBounds j true) a' w' (hcl.add hok hj) hfree' (ready_mono hr (Ne.symm hji)) (yields_laterR h3.1 (h3.2.1 hX)) ?_⟩) h2
      rw [Array.setIfInBounds_comm _ _ hji]
      exact h3.2.2

theorem wpX_first_pureR [WRel R] {X : Nat → Bool} (hok : ancOkB ops bs = true) {i : Nat} {oi : Oper} {v : Value} (hi : ops[i]? = some oi) (hsel : ∀ (j : Nat) (o : Oper) cs b, ops[j]? = some o → o.op ≠ .select cs b)
    (hQ : ∀ c a d v w, Q (.panic c) (a.put d v) w → Q (.panic c) a w) :
    ∀ (fuel : Nat) (listed : Array Bool) (a : Act) (w : World), Closed ops bs listed →
      (∀ j oj, ops[j]? = some oj → j ≠ i → listed.getD j true = false → ancB ops bs i j = false → oi.apart ops oj = true) →
      i ∈ Region.ready .any ops listed → YieldsIf P ops (fun _ => True) oi v a →
      wpXR R P ops Q X fuel (listed.setIfInBounds i true) (a.put oi.dst v) w → wpXR R P ops Q X (fuel + 1) listed a w := by
  intro fuel
  induction fuel with
  | zero =>
    intro listed a w hcl _ hr hy H
    refine ⟨fun h => (by rw [h] at hr; cases hr), fun j hj => ?_⟩
    by_cases hji : j = i
    · subst hji; exact hy.wpOp hi trivial ⟨fun _ => WRel.refl (R := R) w, H⟩
    · have := ready_mono hj hji
      rw [H.1] at this
      cases this
  | succ fuel ih =>
    intro listed a w hcl hfree hr hy H
    refine ⟨fun h => (by rw [h] at hr; cases hr), fun j hj => ?_⟩
    by_cases hji : j = i
    · subst hji; exact hy.wpOp hi trivial ⟨fun _ => WRel.refl (R := R) w, H⟩
    · have h1 := H.2 j (ready_mono hj hji)
      obtain ⟨hjun, oj, hoj, hall⟩ := mem_ready.1 hj
      have hiun := (mem_ready.1 hr).1
      have hnot : ancB ops bs i j = false := by
        cases hb : ancB ops bs i j with
        | false => rfl
        | true =>
          have h2 := ready_anc hok hcl hj hb
          rcases Nat.lt_or_ge i listed.size with h' | h'
          · simp [h'] at h2 hiun; rw [hiun] at h2; cases h2
          · simp [Array.getElem?_eq_none h'] at h2
      have hap := hfree j oj hoj hji hjun hnot
      have h2 := wpOp_putIf hoj hap (fun cs b => hsel i oi cs b hi) (fun cs b => hsel j oj cs b hoj) (fun c a w => hQ c a _ _ w) hy h1
      have hfree' : ∀ k ok, ops[k]? = some ok → k ≠ i → (listed.setIfInBounds j true).getD k true = false → ancB ops bs i k = false → oi.apart ops ok = true := fun k ok hk hki hun hno => by
        refine hfree k ok hk hki ?_ hno
        by_cases hjk : j = k
        · subst hjk; exact hjun
        · rw [getD_set_ne true hjk] at hun; exact hun
      refine wpOp_mono (fun a' w' h3 => ⟨h3.2.1, ih (listed.setIfInBounds j true) a' w' (hcl.add hok hj) hfree' (ready_mono hr (Ne.symm hji)) h3.1 ?_⟩) h2
      rw [Array.setIfInBounds_comm _ _ hji]
      exact h3.2.2

/-! #### the walk in the fixed order: 'flo': operations that only read; 'ext': one that may make new memory; 'one': one that is alone; 'both': either of two comes up -/
/-- b: the world of which the facts at hand speak; what is at hand has grown out of it -/
def ordWalkR (R : World → World → Prop) (P : Program) (ops : Array Oper) (Q : Exit → Act → World → Prop) : Plan → World → Act → World → Prop
  | .fin, _, a, w => Q .normal a w
  | .flo l r, b, a, w => wpQuiet P ops (fun w' => ∃ y : Zt R b, w' = y.W) (fun a' => ordWalkR R P ops Q r b a' w) (pickOps ops l) a
  | .pur l r, b, a, w => wpQuiet P ops (fun _ => True) (fun a' => ordWalkR R P ops Q r b a' w) (pickOps ops l) a
  | .ext i r, b, a, w => wpList P ops (Exit.then (fun a' w' => R w w' ∧ ordWalkR R P ops Q r b a' w') Q) (pickOps ops [i]) a w
  | .one i r, _, a, w => wpList P ops (Exit.then (fun a' w' => ordWalkR R P ops Q r w' a' w') Q) (pickOps ops [i]) a w
  | .both i j r q, b, a, w => wpList P ops (Exit.then (fun a' w' => R w w' ∧ ordWalkR R P ops Q r b a' w') Q) (pickOps ops [i]) a w ∧ wpList P ops (Exit.then (fun a' w' => R w w' ∧ ordWalkR R P ops Q q b a' w') Q) (pickOps ops [j]) a w

theorem quiet_yieldsR {o : Oper} {a : Act} {w : World} {K : Act → Prop} (ho : isFlo o.op = true) (h : o.quiet P a (fun w' => ∃ y : Zt R w, w' = y.W) K) :
    ∃ v, (∀ u, R w u → (execOp a.eval o).run P u = .ok (.value v) u) ∧ K (a.put o.dst v) := by
  obtain ⟨v, h1, h2⟩ := h
  refine ⟨v, fun u hu => ?_, h2⟩
  have h3 := h1 u ⟨⟨u, hu⟩, rfl⟩
  unfold Oper.quietAt at h3
  cases hr : (execOp a.eval o).run P u with
  | ok n u' =>
    rw [hr] at h3
    obtain ⟨x, rfl⟩ := flo_value ho hr
    obtain ⟨e1, e2⟩ := h3
    rw [e1, e2]
  | halt x u' => rw [hr] at h3; exact h3.elim

theorem X_of_ordR [WRel R] (hok : ancOkB ops bs = true) (hsel : Region.noSelect ops = true) (hQ : ∀ c a d v w, Q (.panic c) (a.put d v) w → Q (.panic c) a w) (es : List Nat) :
    ∀ (p : Plan) (b : World) (listed : Array Bool) (a : Act) (w : World) (fuel : Nat), R b w → total p ≤ fuel → Closed ops bs listed → ordB ops bs es p listed = true → ordWalkR R P ops Q p b a w →
      wpXR R P ops Q (inX ops es) fuel listed a w := by
  intro p
  induction p with
  | fin =>
    intro b listed a w fuel _ _ _ hB h
    exact wpX_doneR (by simpa [ordB] using hB) h fuel
  | flo l r ih =>
    induction l with
    | nil =>
      intro b listed a w fuel hx hf hc hB h
      refine ih b listed a w fuel hx (by simpa [total] using hf) hc (by simpa [ordB, flosB, listAll] using hB) ?_
      simpa [ordWalkR, pickOps, wpQuiet] using h
    | cons i l ihl =>
      intro b listed a w fuel hx hf hc hB h
      simp only [ordB, flosB, listAll, Bool.and_eq_true] at hB
      obtain ⟨⟨hi, hl⟩, hr⟩ := hB
      cases ho : ops[i]? with
      | none => simp [floB, ho] at hi
      | some oi =>
        simp only [floB, ho, Bool.and_eq_true] at hi
        obtain ⟨⟨hflo, hrd⟩, hfr⟩ := hi
        have hrd' : i ∈ Region.ready .any ops listed := by simpa using hrd
        obtain ⟨fuel, rfl⟩ : ∃ f, fuel = f + 1 := ⟨fuel - 1, by simp [total] at hf; omega⟩
        have hfree : ∀ j oj, ops[j]? = some oj → j ≠ i → listed.getD j true = false → ancB ops bs i j = false → oi.apart ops oj = true ∧ inX ops es j = true := by
          intro j oj hj hne hun hno
          have := List.all_eq_true.1 hfr j (List.mem_range.2 (Array.getElem?_eq_some_iff.1 hj).1)
          simpa [hne, hun, hno, hj] using this
        have hp : pickOps ops (i :: l) = oi :: pickOps ops l := by simp [pickOps, ho]
        simp only [ordWalkR, hp] at h
        unfold wpQuiet at h
        have go : ∀ v, YieldsIf P ops (R w) oi v a → wpQuiet P ops (fun w' => ∃ y : Zt R b, w' = y.W) (fun a' => ordWalkR R P ops Q r b a' w) (pickOps ops l) (a.put oi.dst v) → wpXR R P ops Q (inX ops es) (fuel + 1) listed a w := by
          intro v hy hk
          refine wpX_firstR hok ho (Region.noSelect_spec hsel) hQ fuel listed a w hc hfree hrd' hy ?_
          refine ihl b (listed.setIfInBounds i true) (a.put oi.dst v) w fuel hx (by simp [total] at hf ⊢; omega) (hc.add hok hrd') ?_ ?_
          · simp only [ordB, Bool.and_eq_true]; exact ⟨hl, hr⟩
          · simpa only [ordWalkR] using hk
        split at h
        · rename_i hw
          obtain ⟨v, hv, hk⟩ := quiet_yieldsR hflo h
          exact go v (.inl ⟨hw, fun u hu => hv u (WRel.trans hx hu)⟩) hk
        · rename_i hw
          exact go undef (.inr ⟨by simpa using hw, rfl⟩) h
  | pur l r ih =>
    induction l with
    | nil =>
      intro b listed a w fuel hx hf hc hB h
      refine ih b listed a w fuel hx (by simpa [total] using hf) hc (by simpa [ordB, pursB, listAll] using hB) ?_
      simpa [ordWalkR, pickOps, wpQuiet] using h
    | cons i l ihl =>
      intro b listed a w fuel hx hf hc hB h
      simp only [ordB, pursB, listAll, Bool.and_eq_true] at hB
      obtain ⟨⟨hi, hl⟩, hr⟩ := hB
      cases ho : ops[i]? with
      | none => simp [purB, ho] at hi
      | some oi =>
        simp only [purB, ho, Bool.and_eq_true] at hi
        obtain ⟨⟨hflo, hrd⟩, hfr⟩ := hi
        have hrd' : i ∈ Region.ready .any ops listed := by simpa using hrd
        obtain ⟨fuel, rfl⟩ : ∃ f, fuel = f + 1 := ⟨fuel - 1, by simp [total] at hf; omega⟩
        have hfree : ∀ j oj, ops[j]? = some oj → j ≠ i → listed.getD j true = false → ancB ops bs i j = false → oi.apart ops oj = true := by
          intro j oj hj hne hun hno
          have := List.all_eq_true.1 hfr j (List.mem_range.2 (Array.getElem?_eq_some_iff.1 hj).1)
          simpa [hne, hun, hno, hj] using this
        have hp : pickOps ops (i :: l) = oi :: pickOps ops l := by simp [pickOps, ho]
        simp only [ordWalkR, hp] at h
        unfold wpQuiet at h
        have go : ∀ v, YieldsIf P ops (fun _ => True) oi v a → wpQuiet P ops (fun _ => True) (fun a' => ordWalkR R P ops Q r b a' w) (pickOps ops l) (a.put oi.dst v) → wpXR R P ops Q (inX ops es) (fuel + 1) listed a w := by
          intro v hy hk
          refine wpX_first_pureR hok ho (Region.noSelect_spec hsel) hQ fuel listed a w hc hfree hrd' hy ?_
          refine ihl b (listed.setIfInBounds i true) (a.put oi.dst v) w fuel hx (by simp [total] at hf ⊢; omega) (hc.add hok hrd') ?_ ?_
          · simp only [ordB, Bool.and_eq_true]; exact ⟨hl, hr⟩
          · simpa only [ordWalkR] using hk
        split at h
        · rename_i hw
          obtain ⟨v, hv, hk⟩ := quiet_yields_pure hflo h
          exact go v (.inl ⟨hw, fun u _ => hv u⟩) hk
        · rename_i hw
          exact go undef (.inr ⟨by simpa using hw, rfl⟩) h
  | ext i r ih =>
    intro b listed a w fuel hx hf hc hB h
    simp only [ordB, Bool.and_eq_true] at hB
    obtain ⟨hr, hr2⟩ := hB
    have hr' : Region.ready .any ops listed = [i] := by simpa using hr
    have hmem : i ∈ Region.ready .any ops listed := by rw [hr']; simp
    obtain ⟨_, o, ho, _⟩ := mem_ready.1 hmem
    obtain ⟨fuel, rfl⟩ : ∃ f, fuel = f + 1 := ⟨fuel - 1, by simp [total] at hf; omega⟩
    refine ⟨fun h0 => (by rw [hr'] at h0; cases h0), fun j hj => ?_⟩
    rw [hr'] at hj
    obtain rfl : j = i := by simpa using hj
    exact wpOp_mono (fun a' w' hh => ⟨fun _ => hh.1, ih b _ a' w' fuel (WRel.trans hx hh.1) (by simp [total] at hf ⊢; omega) (hc.add hok hmem) hr2 hh.2⟩) (one_step ho h)
  | one i r ih =>
    intro b listed a w fuel hx hf hc hB h
    simp only [ordB, Bool.and_eq_true] at hB
    obtain ⟨⟨hr, hk⟩, hr2⟩ := hB
    have hr' : Region.ready .any ops listed = [i] := by simpa using hr
    have hmem : i ∈ Region.ready .any ops listed := by rw [hr']; simp
    obtain ⟨_, o, ho, _⟩ := mem_ready.1 hmem
    obtain ⟨fuel, rfl⟩ : ∃ f, fuel = f + 1 := ⟨fuel - 1, by simp [total] at hf; omega⟩
    refine ⟨fun h0 => (by rw [hr'] at h0; cases h0), fun j hj => ?_⟩
    rw [hr'] at hj
    obtain rfl : j = i := by simpa using hj
    have hnx : inX ops es j = false := by simpa using hk
    exact wpOp_mono (fun a' w' hh => ⟨fun hX => (by rw [hnx] at hX; cases hX), ih w' _ a' w' fuel (WRel.refl (R := R) w') (by simp [total] at hf ⊢; omega) (hc.add hok hmem) hr2 hh⟩) (one_step ho h)
  | both i j r q ihr ihq =>
    intro b listed a w fuel hx hf hc hB h
    simp only [ordB, Bool.and_eq_true] at hB
    obtain ⟨⟨hr, hr2⟩, hq2⟩ := hB
    have hr' : Region.ready .any ops listed = [i, j] := by simpa using hr
    obtain ⟨fuel, rfl⟩ : ∃ f, fuel = f + 1 := ⟨fuel - 1, by simp [total] at hf; omega⟩
    have mi : i ∈ Region.ready .any ops listed := by rw [hr']; simp
    have mj : j ∈ Region.ready .any ops listed := by rw [hr']; simp
    refine ⟨fun h0 => (by rw [hr'] at h0; cases h0), fun k hk => ?_⟩
    rw [hr'] at hk
    rcases List.mem_cons.1 hk with rfl | hk
    · obtain ⟨_, o, ho, _⟩ := mem_ready.1 mi
      exact wpOp_mono (fun a' w' hh => ⟨fun _ => hh.1, ihr b _ a' w' fuel (WRel.trans hx hh.1) (by simp [total] at hf ⊢; omega) (hc.add hok mi) hr2 hh.2⟩) (one_step ho h.1)
    · obtain rfl : k = j := by simpa using hk
      obtain ⟨_, o, ho, _⟩ := mem_ready.1 mj
      exact wpOp_mono (fun a' w' hh => ⟨fun _ => hh.1, ihq b _ a' w' fuel (WRel.trans hx hh.1) (by simp [total] at hf ⊢; omega) (hc.add hok mj) hq2 hh.2⟩) (one_step ho h.2)

/-- A REGION THAT DRAWS ITS ORDER, WALKED IN ONE ORDER. 'bs': of each operation those that come ahead of it in every order, as bits. -/
theorem wp_region_ordR [WRel R] {id : Nat} {a : Act} {w : World} {l : List Oper} (bs : List Nat) (p : Plan) (hm : P.follows .mixedOrders = true)
    (hB : (ancOkB l.toArray bs.toArray && Region.noSelect l.toArray && ordB l.toArray bs.toArray (extIdx p) p (Array.replicate l.toArray.size false) && decide (total p ≤ l.toArray.size)) = true)
    (hQ : ∀ c a d v w, Q (.panic c) (a.put d v) w → Q (.panic c) a w)
    (h : ordWalkR R P l.toArray Q p w.drew a w.drew) : (Code.region id l.toArray true).wp P Q a w := by
  simp only [Bool.and_eq_true, decide_eq_true_eq] at hB
  obtain ⟨⟨⟨h1, h2⟩, h3⟩, h4⟩ := hB
  refine wp_region_any hm (wpAny_of_XR _ _ _ _ (X_of_ordR h1 h2 hQ _ p w.drew _ a w.drew _ (WRel.refl (R := R) _) h4 ?_ h3 h))
  intro j hj
  exfalso
  rcases Nat.lt_or_ge j l.toArray.size with h' | h'
  · simp [Array.getD] at hj
  · simp [Array.getD] at hj

/-- the steps of such a walk -/
def ordNextR (R : World → World → Prop) (P : Program) (ops : Array Oper) (Q : Exit → Act → World → Prop) (r : Plan) (b w : World) (a' : Act) (w' : World) : Prop := R w w' ∧ ordWalkR R P ops Q r b a' w'
theorem ordNextR.mk {r : Plan} {b w w' : World} {a : Act} (x : R w w') (h : ordWalkR R P ops Q r b a w') : ordNextR R P ops Q r b w a w' := ⟨x, h⟩
theorem ord_floR {l : List Nat} {r : Plan} {a : Act} {b w : World} {ol : List Oper} (hp : pickOps ops l = ol)
    (h : wpQuiet P ops (fun w' => ∃ y : Zt R b, w' = y.W) (fun a' => ordWalkR R P ops Q r b a' w) ol a) : ordWalkR R P ops Q (.flo l r) b a w := by
  subst hp; exact h
theorem ord_extR {i : Nat} {r : Plan} {a : Act} {b w : World} {o : Oper} (hp : pickOps ops [i] = [o])
    (h : ∀ K : Act → World → Prop, (∀ a' w', ordNextR R P ops Q r b w a' w' → K a' w') → wpList P ops (Exit.then K Q) [o] a w) : ordWalkR R P ops Q (.ext i r) b a w := by
  show wpList P ops _ (pickOps ops [i]) a w
  rw [hp]; exact h _ fun _ _ h => h
theorem ord_oneR {i : Nat} {r : Plan} {a : Act} {b w : World} {o : Oper} (hp : pickOps ops [i] = [o])
    (h : ∀ K : Act → World → Prop, (∀ a' w', ordWalkR R P ops Q r w' a' w' → K a' w') → wpList P ops (Exit.then K Q) [o] a w) : ordWalkR R P ops Q (.one i r) b a w := by
  show wpList P ops _ (pickOps ops [i]) a w
  rw [hp]; exact h _ fun _ _ h => h
theorem ord_finR {a : Act} {b w : World} (h : Q .normal a w) : ordWalkR R P ops Q .fin b a w := h
end
end Go.Proofs.Yteklohamkmiphaa
namespace Go.Proofs.Yteklohamkmiphaa
open Go.RowKit

def ptC (p : Pt) : List Value := [.int .i64 p.n, .bool p.o, .int .i64 p.p]
theorem ptC_len (p : Pt) : (ptC p).length = 3 := rfl
def Pt.z : Pt := ⟨0, false, 0⟩
theorem elem_pt : Elem Try.prog 41 27 3 24 (.agg #[.int .i64 0, .bool false, .int .i64 0]) := ⟨by kernel_rfl, by kernel_rfl, rfl, by decide⟩
theorem zeroPt (w : World) : (zeroValue 41).run Try.prog w = .ok (.slice none 0 0) w := by kernel_rfl
theorem zeroBo (w : World) : (zeroValue 4).run Try.prog w = .ok (.bool false) w := by kernel_rfl
theorem zeroIn (w : World) : (zeroValue 3).run Try.prog w = .ok (.int .i64 0) w := by kernel_rfl
/-! ### a set of places -/
structure SetM (w : World) (kl : Nat) (L : List Pe) (ck : Nat) (F : Pt → Bool) : Prop where
  tm : TM w kl L ck
  get : ∀ q, getE L q = if F q then some (.bool true) else none
section
variable {w w' : World} {kl ck ck' : Nat} {L L' : List Pe} {F : Pt → Bool}
theorem SetM.made (w : World) : SetM (w.alloc (.map #[] 0)) w.heap.size [] 0 (fun _ => false) := ⟨TM.made w, fun _ => rfl⟩
theorem SetM.ext (h : SetM w kl L ck F) (e : Ext w w') : SetM w' kl L ck F := ⟨h.tm.ext e, h.get⟩
theorem SetM.upd {S : Nat → Prop} (h : SetM w kl L ck F) (u : Upd S w w') (hn : ¬ S kl) : SetM w' kl L ck F := ⟨h.tm.upd u hn, h.get⟩
theorem SetM.put (h : SetM w kl L ck F) {p : Pt} (m : TM w' kl L' ck') (pp : Put L p (.bool true) L') : SetM w' kl L' ck' (fun q => F q || decide (q = p)) := by
  refine ⟨m, fun q => ?_⟩
  rw [pp.get]
  by_cases e : q = p
  · rw [if_pos e]; simp [e]
  · rw [if_neg e, h.get]; simp [e]
theorem SetM.del (h : SetM w kl L ck F) {p : Pt} (m : TM w' kl (L.filter fun x => !decide (x.p = p)) ck') : SetM w' kl (L.filter fun x => !decide (x.p = p)) ck' (fun q => F q && !decide (q = p)) := by
  refine ⟨m, fun q => ?_⟩
  rw [del_get]
  by_cases e : q = p
  · rw [if_pos e]; simp [e]
  · rw [if_neg e, h.get]; simp [e]
theorem SetM.look (h : SetM w kl L ck F) {p : Pt} (hp : P64 p) : (Instr.lookup 76 (.map (some kl)) (ptV p) false).run Try.prog w = .ok (.bool (F p)) w := by
  have := h.tm.look hp Try.underlying76 (zeroBo w)
  rw [h.get] at this
  rw [this]
  cases F p <;> rfl
theorem SetM.mem (h : SetM w kl L ck F) {p : Pt} : F p = true ↔ ∃ x ∈ L, x.p = p := by
  constructor
  · intro hp
    have := h.get p
    rw [hp, if_pos rfl] at this
    obtain ⟨x, hx, e, _⟩ := getE_mem this
    exact ⟨x, hx, e⟩
  · rintro ⟨x, hx, rfl⟩
    have := h.get x.p
    rw [getE_some h.tm.np hx] at this
    cases hF : F x.p with
    | true => rfl
    | false => rw [hF] at this; cases this
theorem SetM.less (h : SetM w kl L ck F) {p : Pt} (hp : F p = true) : (L.filter fun x => !decide (x.p = p)).length < L.length := by
  obtain ⟨x, hx, e⟩ := h.mem.1 hp
  exact List.length_filter_lt_length_iff_exists.2 ⟨x, hx, by simp [e]⟩
end
/-! ### counts of places -/
def CntM (w : World) (kc : Nat) (cnt : Pt → Int) : Prop := ∃ L ck, TM w kc L ck ∧ ∀ q, (getE L q).getD (.int .i64 0) = .int .i64 (cnt q)
section
variable {w w' : World} {kc : Nat} {cnt : Pt → Int}
theorem CntM.made (w : World) : CntM (w.alloc (.map #[] 0)) w.heap.size (fun _ => 0) := ⟨[], 0, TM.made w, fun _ => rfl⟩
theorem CntM.ext (h : CntM w kc cnt) (e : Ext w w') : CntM w' kc cnt := by obtain ⟨L, ck, h1, h2⟩ := h; exact ⟨L, ck, h1.ext e, h2⟩
theorem CntM.upd {S : Nat → Prop} (h : CntM w kc cnt) (u : Upd S w w') (hn : ¬ S kc) : CntM w' kc cnt := by obtain ⟨L, ck, h1, h2⟩ := h; exact ⟨L, ck, h1.upd u hn, h2⟩
theorem CntM.look (h : CntM w kc cnt) {p : Pt} (hp : P64 p) : (Instr.lookup 102 (.map (some kc)) (ptV p) false).run Try.prog w = .ok (.int .i64 (cnt p)) w := by
  obtain ⟨L, ck, h1, h2⟩ := h
  have := h1.look hp Try.underlying102 (zeroIn w)
  rw [h2] at this
  exact this
theorem CntM.lt (h : CntM w kc cnt) : kc < w.heap.size := by obtain ⟨L, ck, h1, _⟩ := h; exact h1.lt
theorem CntM.not_ty (h : CntM w kc cnt) (t : TypeId) : ¬ Ty w kc t := by obtain ⟨L, ck, h1, _⟩ := h; exact h1.not_ty t
/-- worlds in which the counts are as they were; nothing else has turned -/
def CntR (kc : Nat) (w w' : World) : Prop := Upd (fun k => k = kc) w w' ∧ ∀ cnt, CntM w kc cnt → CntM w' kc cnt
instance (kc : Nat) : WRel (CntR kc) := ⟨fun w => ⟨Upd.refl _ w, fun _ h => h⟩, fun h k => ⟨h.1.trans k.1, fun c x => k.2 c (h.2 c x)⟩⟩
theorem CntR.entry {L L' : List Pe} {ck ck' : Nat} {p : Pt} (h : TM w kc L ck) (m : TM w' kc L' ck') (pp : Put L p ((getE L p).getD (.int .i64 0)) L') (g : w.grownBy w' (some kc)) : CntR kc w w' := by
  refine ⟨(Upd.refl _ w).grown g (fun k hk => .inl (by injection hk with hk; exact hk.symm)), fun cnt hc => ?_⟩
  obtain ⟨L2, ck2, h1, h2⟩ := hc
  have e : (Obj.map (L.map entT).toArray ck) = .map (L2.map entT).toArray ck2 := Option.some.inj (h.bk.symm.trans h1.bk)
  injection e with e1 e2
  have e1 : L.map entT = L2.map entT := by simpa using e1
  have eL : L = L2 := by
    refine List.ext_getElem? fun i => ?_
    have := congrArg (fun l => l[i]?) e1
    simp only [List.getElem?_map] at this
    cases ha : L[i]? with
    | none => rw [ha] at this; cases hb : L2[i]? with
      | none => rfl
      | some b => rw [hb] at this; cases this
    | some a =>
      rw [ha] at this
      cases hb : L2[i]? with
      | none => rw [hb] at this; cases this
      | some b =>
        rw [hb] at this
        injection this with this
        unfold entT at this
        injection this with q1 q2 q3
        have q1 := ptV_inj q1
        cases a; cases b
        simp only at q1 q2 q3
        rw [q1, q2, q3]
  subst eL
  refine ⟨L', ck', m, fun q => ?_⟩
  rw [pp.get]
  by_cases e : q = p
  · rw [if_pos e, e]; exact h2 p
  · rw [if_neg e]; exact h2 q
/-- a count is written -/
theorem CntM.store {L L1 L3 : List Pe} {ck3 : Nat} {p : Pt} {v : Int} (hc : ∀ q, (getE L q).getD (.int .i64 0) = .int .i64 (cnt q)) (p1 : Put L p ((getE L p).getD (.int .i64 0)) L1) (m3 : TM w kc L3 ck3) (p3 : Put L1 p (.int .i64 v) L3) : CntM w kc (fun q => if q = p then v else cnt q) := by
  refine ⟨L3, ck3, m3, fun q => ?_⟩
  rw [p3.get]
  by_cases e : q = p
  · simp only [if_pos e]; rfl
  · simp only [if_neg e]; rw [p1.get, if_neg e]; exact hc q
end
/-! ### on and off -/
/-- a function that tells of a place the next ones -/
def NxtOk (B : Nat) (S : World → Prop) (F : Nat) (v : Value) (nx : Pt → List Pt) : Prop := ∀ W, S W → ∀ p, P64 p → Calls Try.prog F #[ptV p, v] W fun e w' => ∃ A c, e = .returned (.slice A (nx p).length c) ∧ Sl w' 3 A (nx p).length c ((nx p).flatMap ptC) ∧ Ext W w' ∧ ∀ k, blk A c = some k → k < B ∨ W.heap.size ≤ k
set_option maxRecDepth 100000 in
set_option maxHeartbeats 1000000 in
theorem on_any (bq bm : Nat) (g : Gr) (pn : Int) (po : Bool) (pp : Int) (w : World) (hc : w.cell? ⟨bq, 0, none⟩ = some (.map (some bm))) (hm : Hid (StR w bm g)) (hp : Hid (P64 ⟨pn, po, pp⟩)) (hl : Hid ((g.mvs ⟨pn, po, pp⟩).length ≤ 1000)) :
    Calls Try.prog 47 #[.agg #[.int .i64 pn, .bool po, .int .i64 pp], .pointer (some ⟨bq, 0, none⟩)] w fun e w' => ∃ A c, e = .returned (.slice A ((g.mvs ⟨pn, po, pp⟩).map g.tgt).length c) ∧ Sl w' 3 A ((g.mvs ⟨pn, po, pp⟩).map g.tgt).length c (((g.mvs ⟨pn, po, pp⟩).map g.tgt).flatMap ptC) ∧ Ext w w' ∧ ∀ k, blk A c = some k → w.heap.size ≤ k := by
  obtain ⟨sA, sc, xs, hlk, hsl, _, hsv⟩ := hm.out.look Try.underlying74 zeroSs hp.out
  have XA : Hid (Ext w (w.alloc (.cells #[.int .i64 pn, .bool po, .int .i64 pp] 27))) := Lib.hid ((Ext.refl w).alloc _)
  have hlk1 := hlk _ XA.out
  unfold ptV at hlk1
  obtain ⟨ns, hns⟩ : ∃ n, n = xs.length := ⟨_, rfl⟩
  have hmp : (g.mvs ⟨pn, po, pp⟩).map g.tgt = xs.map (fun x => x.q) := by
    have := congrArg (List.map Prod.fst) hsv
    rw [List.map_map, List.map_map] at this
    exact this.symm
  have hn9 : ns ≤ 1000 := by have h1 := congrArg List.length hmp; rw [List.length_map, List.length_map] at h1; have h2 := hl.out; omega
  have c1 := XA.out.cell hc
  rw [← hns] at hlk1
  have HMP := Lib.hid hmp
  have HNS := Lib.hid hns
  have HSL := Lib.hid hsl
  rw [hmp]
  clear hlk hsl hsv hmp hns hc
  go_enter Try.func47, Try.ntmps47
  go_wp2
  clear hlk1 c1
  go_loopg [4, 6, 11] ns (fun gg s4 _ s11 wr => ∃ (i : Nat) (A : Option Addr) (c : Nat), s11 = .int .i64 i ∧ i ≤ ns ∧ gg = ns - i ∧ s4 = .slice A i c ∧ Hid (Own wr w.heap.size 27 3 A i c (((xs.take i).map (fun x => x.q)).flatMap ptC)) ∧ Hid (Ext w wr))
  case atStart => exact ⟨0, none, 0, rfl, Nat.zero_le _, rfl, rfl, Lib.hid (Own.nil _ _ _ _), XA⟩
  case round =>
    obtain ⟨i, A, c, rfl, hi, rfl, rfl, HO, HX⟩ := hrel
    by_cases hlt : i < ns
    · have hil : i < xs.length := by rw [← HNS.out]; exact hlt
      have hltz : (i : Int) < (ns : Int) := by omega
      obtain ⟨ad, hsA, h0, h1⟩ := els_at spC 6 spC_len Sm.zero (HSL.out.ext HX.out) rfl hil (by omega)
      subst hsA
      have htk : xs.take (i + 1) = xs.take i ++ [xs.getD i Sm.zero] := by rw [List.take_succ_eq_append_getElem hil, List.getD_eq_getElem?_getD, List.getElem?_eq_getElem hil]; rfl
      obtain ⟨⟨⟨sn, so, sp⟩, ⟨bA, bc, ⟨bl, ba, be⟩⟩⟩, hs⟩ : ∃ s, xs.getD i Sm.zero = s := ⟨_, rfl⟩
      rw [hs] at h0 h1 htk
      obtain ⟨nb, hnb⟩ : ∃ n, n = be.length := ⟨_, rfl⟩
      have q0 := h0 _ rfl
      have q1 := h1 0 _ rfl
      have q2 := h1 1 _ rfl
      have q3 := h1 2 _ rfl
      have q4 := h1 3 _ rfl
      have q5 := h1 4 _ rfl
      simp only at q0 q1 q2 q3 q4 q5
      rw [← hnb] at q5
      have HTK := Lib.hid htk
      have EA : Hid (Ext wr ((wr.alloc (.cells #[.int .i64 sn, .bool so, .int .i64 sp, .int .i64 bl, .int .u32 ba, .slice bA nb bc] 99)).alloc (.cells #[.int .i64 sn, .bool so, .int .i64 sp] 27))) := Lib.hid (((Ext.refl wr).alloc _).alloc _)
      have HO1 := Lib.hid (HO.out.ext EA.out)
      have HS1 : Hid (Sl ((wr.alloc (.cells #[.int .i64 sn, .bool so, .int .i64 sp, .int .i64 bl, .int .u32 ba, .slice bA nb bc] 99)).alloc (.cells #[.int .i64 sn, .bool so, .int .i64 sp] 27)) 3 (some ⟨wr.heap.size + 1, 0, none⟩) 1 1 [.int .i64 sn, .bool so, .int .i64 sp]) := Lib.hid (by
        have q := Sl.one (wr.alloc (.cells #[.int .i64 sn, .bool so, .int .i64 sp, .int .i64 bl, .int .u32 ba, .slice bA nb bc] 99)) #[.int .i64 sn, .bool so, .int .i64 sp] 27 3 rfl
        simpa using q)
      have hb1 : w.heap.size ≤ ((wr.alloc (.cells #[.int .i64 sn, .bool so, .int .i64 sp, .int .i64 bl, .int .u32 ba, .slice bA nb bc] 99)).alloc (.cells #[.int .i64 sn, .bool so, .int .i64 sp] 27)).heap.size := Nat.le_trans HX.out.size EA.out.size
      clear h0 h1 hs htk hnb
      go_wp2_with (at_builtin; go_loud (refine wpList_append_two _ elem_pt w.heap.size _ _ rfl rfl A i c (((xs.take i).map (fun x => x.q)).flatMap ptC) rfl HO1.out (some ⟨wr.heap.size + 1, 0, none⟩) 1 1 [.int .i64 sn, .bool so, .int .i64 sp] rfl HS1.out (by intro u hu; simp at hu; rcases hu with rfl | rfl | rfl <;> rfl) (by omega) (by decide) hb1 ?_); intro A3 c3 w3 o3 g3 x3; have O3 := Lib.hid o3; have X3 : Hid (Ext w w3) := Lib.hid ((HX.out.trans EA.out).grown g3 (fun k hk => (HO.out.lt k hk).1)); clear o3 g3 x3)
      go_roundg (ns - (i + 1))
      case measure => omega
      case rel => exact ⟨i + 1, A3, c3, by go_num, by omega, rfl, rfl, Lib.hid (by rw [HTK.out, List.map_append, List.flatMap_append]; exact O3.out), X3⟩
    · obtain rfl : i = ns := by omega
      go_wp2
      go_ret
      have q := HO.out
      rw [HNS.out, List.take_length] at q
      refine ⟨A, c, ?_, ?_, HX.out, fun k hk => (HO.out.lt k hk).1⟩
      · rw [List.length_map, ← HNS.out]; rfl
      · rw [List.length_map]; exact q.sl
set_option maxRecDepth 100000 in
set_option maxHeartbeats 600000 in
theorem off_any (vb kk : Nat) {w0 : World} {L : List Pe} {ck : Nat} (K : Pt → List Pt) (pn : Int) (po : Bool) (pp : Int) (w : World) (hc : w.cell? ⟨vb, 0, none⟩ = some (.map (some kk))) (hm : Hid (MpL ptC 3 27 w0 w kk L ck K)) (hp : Hid (P64 ⟨pn, po, pp⟩)) :
    Calls Try.prog 48 #[.agg #[.int .i64 pn, .bool po, .int .i64 pp], .pointer (some ⟨vb, 0, none⟩)] w fun e w' => ∃ A c, e = .returned (.slice A (K ⟨pn, po, pp⟩).length c) ∧ Sl w' 3 A (K ⟨pn, po, pp⟩).length c ((K ⟨pn, po, pp⟩).flatMap ptC) ∧ Ext w w' ∧ ∀ k, blk A c = some k → kmB kk L k := by
  have XA : Hid (Ext w (w.alloc (.cells #[.int .i64 pn, .bool po, .int .i64 pp] 27))) := Lib.hid ((Ext.refl w).alloc _)
  have c1 := XA.out.cell hc
  obtain ⟨A, c, h1, h2, h3⟩ := hm.out.ls ⟨pn, po, pp⟩
  have HBK : Hid (∀ k, blk A c = some k → kmB kk L k) := Lib.hid (fun k hk => .inr ⟨_, h3.trans hk⟩)
  have hlk := (hm.out.ext XA.out).tm.look hp.out Try.underlying100 (zeroPt _)
  rw [show (getE L ⟨pn, po, pp⟩).getD (.slice none 0 0) = _ from h1] at hlk
  unfold ptV at hlk
  obtain ⟨n, hn⟩ : ∃ n, n = (K ⟨pn, po, pp⟩).length := ⟨_, rfl⟩
  have HO := Lib.hid (h2.ext XA.out)
  rw [← hn] at hlk HO ⊢
  clear h1 h2 h3 hn hc
  go_enter Try.func48, Try.ntmps48
  go_wp2
  go_ret
  exact ⟨A, c, rfl, HO.out.sl, XA.out, HBK.out⟩
end Go.Proofs.Yteklohamkmiphaa
namespace Go.Proofs.Yteklohamkmiphaa
open Go.RowKit

theorem cell_map {w : World} {a : Addr} {es : Array MapEntry} {k : Nat} (h : w.heap[a.block]? = some (.map es k)) : w.cell? a = none := by unfold World.cell?; rw [h]
theorem sl_map {w w' : World} {kb sz n c : Nat} {A : Option Addr} {xs : List Value} (h : Sl w sz A n c xs) {es : Array MapEntry} {k : Nat} (t : w.heap[kb]? = some (.map es k)) (u : Upd (fun k => k = kb) w w') : Sl w' sz A n c xs := by
  refine ⟨h.1, h.2.1, h.2.2.1, h.2.2.2.1, fun hn => ?_⟩
  obtain ⟨ad, e, hc⟩ := h.2.2.2.2 hn
  refine ⟨ad, e, fun j v hv => u.cell (fun q => ?_) (hc j v hv)⟩
  have h1 := hc j v hv
  rw [cell_map (es := es) (k := k) (by rw [q]; exact t)] at h1
  cases h1
theorem sl_lt {w : World} {sz n c k : Nat} {A : Option Addr} {xs : List Value} (h : Sl w sz A n c xs) (hn : 0 < n) (hs : 0 < sz) (hk : blk A c = some k) : k < w.heap.size := by
  obtain ⟨ad, rfl, hc⟩ := h.2.2.2.2 hn
  have hl : 0 < xs.length := by rw [h.1]; exact Nat.mul_pos hn hs
  have h1 := World.block_lt_of_cell? w _ (hc 0 _ (List.getElem?_eq_getElem hl))
  rw [block_add] at h1
  cases c with
  | zero => cases hk
  | succ c => injection hk with hk; rw [← hk]; exact h1
theorem own_init {w : World} {B n c : Nat} {T : TypeId} {A : Option Addr} {xs x : List Value} (h : Own w B T 3 A (n + 1) c (xs ++ x)) (hx : x.length = 3) : Own w B T 3 A n c xs := by
  obtain ⟨h1, h2⟩ := h
  have hl : xs.length = n * 3 := by rw [List.length_append, hx] at h1; omega
  refine ⟨hl, ?_⟩
  rcases h2 with ⟨_, h2⟩ | ⟨g, cur, e, hb, hg, hnc, hcm, hcs, htake⟩
  · omega
  · refine .inr ⟨g, cur, e, hb, hg, by omega, hcm, hcs, ?_⟩
    have := congrArg (List.take (n * 3)) htake
    rw [List.take_take, Nat.min_eq_left (by omega), ← hl, List.take_left] at this
    rw [← hl]; exact this
theorem bk_map {w w' : World} {g kb : Nat} {t : TypeId} {cs : Array Value} (h : Bk w g t cs) {es : Array MapEntry} {k : Nat} (m : w.heap[kb]? = some (.map es k)) (u : Upd (fun k => k = kb) w w') : Bk w' g t cs :=
  h.updB u (fun e => by
    have e : g = kb := e
    subst e
    have q := h.symm.trans m
    cases q)
/-- what a count will be -/
theorem inLeft_take {F : Pt → Bool} {l : List Pt} {i : Nat} (h : i < l.length) : inLeft F (l.take (i + 1)) = inLeft F (l.take i) + (if F (l.getD i Pt.z) then 1 else 0) := by
  unfold inLeft
  rw [List.take_succ_eq_append_getElem h, List.filter_append, List.length_append, List.getD_eq_getElem?_getD, List.getElem?_eq_getElem h]
  cases hF : F l[i] with
  | true => simp [hF]
  | false => simp [hF]
theorem inLeft_le (F : Pt → Bool) (l : List Pt) : inLeft F l ≤ l.length := List.length_filter_le _ _
theorem leftOf_le (L : List Pe) (seen : Array Nat) : (leftOf (L.map entT).toArray seen).size ≤ L.length := by
  unfold leftOf
  refine Nat.le_trans Array.size_filter_le ?_
  simp
/-- the counting under way -/
structure SfA (ws w : World) (kl kc r : Nat) (L : List Pe) (ck : Nat) (F : Pt → Bool) (nx : Pt → List Pt) (seen : Array Nat) (cnt : Pt → Int) (A : Option Addr) (c : Nat) (T : List Pt) : Prop where
  u : Upd (fun k => k = kl) ws w
  s : SetM w kl L ck F
  t : TR w kl r L ck seen
  n : CntM w kc cnt
  c1 : ∀ x ∈ L, seen.contains x.born = true → cnt x.p = inLeft F (nx x.p)
  c0 : ∀ q, (∀ x ∈ L, x.p = q → seen.contains x.born = false) → cnt q = 0
  cb : ∀ q, 0 ≤ cnt q ∧ cnt q ≤ 2000000
  q : Own w ws.heap.size 27 3 A T.length c (T.flatMap ptC)
  tz : ∀ p ∈ T, ∃ x ∈ L, x.p = p ∧ seen.contains x.born = true ∧ cnt p = 0
  r0 : ws.heap.size ≤ r
  k0 : ws.heap.size ≤ kc
  ne : r ≠ kc
  kw : kl < ws.heap.size
  tl : T.length + (leftOf (L.map entT).toArray seen).size ≤ L.length
section
variable {ws w w' : World} {kl kc r ck : Nat} {L : List Pe} {F : Pt → Bool} {nx : Pt → List Pt} {seen : Array Nat} {cnt : Pt → Int} {A : Option Addr} {c : Nat} {T : List Pt}
theorem SfA.ext (I : SfA ws w kl kc r L ck F nx seen cnt A c T) (e : Ext w w') : SfA ws w' kl kc r L ck F nx seen cnt A c T :=
  ⟨I.u.trans (Upd.ext e), I.s.ext e, I.t.ext e, I.n.ext e, I.c1, I.c0, I.cb, I.q.ext e, I.tz, I.r0, I.k0, I.ne, I.kw, I.tl⟩
theorem born_eq {L : List Pe} (h : (L.map Pe.born).Nodup) {x y : Pe} (hx : x ∈ L) (hy : y ∈ L) (e : x.born = y.born) : x = y := by
  obtain ⟨i, hi⟩ := List.getElem?_of_mem hy
  obtain ⟨j, hj⟩ := List.getElem?_of_mem hx
  obtain ⟨i1, i2⟩ := List.getElem?_eq_some_iff.1 hi
  obtain ⟨j1, j2⟩ := List.getElem?_eq_some_iff.1 hj
  have nb := List.pairwise_iff_getElem.1 (List.nodup_iff_pairwise_ne.1 h)
  rcases Nat.lt_trichotomy i j with q | q | q
  · have := nb i j (by simpa using i1) (by simpa using j1) q
    simp only [List.getElem_map, i2, j2] at this
    exact absurd e.symm this
  · subst q; rw [← i2, ← j2]
  · have := nb j i (by simpa using j1) (by simpa using i1) q
    simp only [List.getElem_map, i2, j2] at this
    exact absurd e this
theorem place_eq {L : List Pe} (h : (L.map Pe.p).Nodup) {x y : Pe} (hx : x ∈ L) (hy : y ∈ L) (e : x.p = y.p) : x = y := by
  obtain ⟨i, hi⟩ := List.getElem?_of_mem hy
  obtain ⟨j, hj⟩ := List.getElem?_of_mem hx
  obtain ⟨i1, i2⟩ := List.getElem?_eq_some_iff.1 hi
  obtain ⟨j1, j2⟩ := List.getElem?_eq_some_iff.1 hj
  have nb := List.pairwise_iff_getElem.1 (List.nodup_iff_pairwise_ne.1 h)
  rcases Nat.lt_trichotomy i j with q | q | q
  · have := nb i j (by simpa using i1) (by simpa using j1) q
    simp only [List.getElem_map, i2, j2] at this
    exact absurd e.symm this
  · subst q; rw [← i2, ← j2]
  · have := nb j i (by simpa using j1) (by simpa using i1) q
    simp only [List.getElem_map, i2, j2] at this
    exact absurd e this
/-- a place is taken: it has not been counted yet; the loop has gone on -/
structure SfP (ws w : World) (kl kc r : Nat) (L : List Pe) (ck : Nat) (F : Pt → Bool) (nx : Pt → List Pt) (seen : Array Nat) (x : Pe) (cnt : Pt → Int) (k : Nat) (A : Option Addr) (c : Nat) (T : List Pt) : Prop where
  u : Upd (fun k => k = kl) ws w
  s : SetM w kl L ck F
  t : TR w kl r L ck (seen.push x.born)
  n : CntM w kc cnt
  cp : cnt x.p = inLeft F ((nx x.p).take k)
  c1 : ∀ y ∈ L, seen.contains y.born = true → cnt y.p = inLeft F (nx y.p)
  c0 : ∀ q, q ≠ x.p → (∀ x ∈ L, x.p = q → seen.contains x.born = false) → cnt q = 0
  cb : ∀ q, 0 ≤ cnt q ∧ cnt q ≤ 2000000
  q : Own w ws.heap.size 27 3 A T.length c (T.flatMap ptC)
  tz : ∀ p ∈ T, ∃ x ∈ L, x.p = p ∧ seen.contains x.born = true ∧ cnt p = 0
  xm : x ∈ L
  xs : seen.contains x.born = false
  r0 : ws.heap.size ≤ r
  k0 : ws.heap.size ≤ kc
  ne : r ≠ kc
  kw : kl < ws.heap.size
  tl : T.length + (leftOf (L.map entT).toArray (seen.push x.born)).size + 1 ≤ L.length
theorem SfA.take (I : SfA ws w kl kc r L ck F nx seen cnt A c T) {x : Pe} (hx : x ∈ L) (hs : seen.contains x.born = false) (t : TR w' kl r L ck (seen.push x.born)) (g : w.grownBy w' (some r)) (hlt : (leftOf (L.map entT).toArray (seen.push x.born)).size < (leftOf (L.map entT).toArray seen).size) : SfP ws w' kl kc r L ck F nx seen x cnt 0 A c T := by
  have u : Upd (fun k => k = r) w w' := (Upd.refl _ w).grown g (fun k hk => .inl (by injection hk with hk; exact hk.symm))
  refine ⟨⟨u.os.trans I.u.os, u.tape.trans I.u.tape, u.output.trans I.u.output, Nat.le_trans I.u.size u.size, fun k hk hn => (u.block k (Nat.lt_of_lt_of_le hk I.u.size) (fun e => by have := I.r0; omega)).trans (I.u.block k hk hn)⟩, ⟨t.m, I.s.get⟩, t, I.n.upd u (fun e => I.ne e.symm), ?_, I.c1, fun q _ h => I.c0 q h, I.cb, I.q.upd u (fun k hk e => by rw [e] at hk; exact I.t.not_ty _ (I.q.ty hk)), I.tz, hx, hs, I.r0, I.k0, I.ne, I.kw, by have := I.tl; omega⟩
  rw [I.c0 x.p (fun y hy e => by rw [place_eq I.s.tm.np hy hx e]; exact hs), List.take_zero]
  rfl
theorem SfP.ext {x : Pe} {k : Nat} (I : SfP ws w kl kc r L ck F nx seen x cnt k A c T) (e : Ext w w') : SfP ws w' kl kc r L ck F nx seen x cnt k A c T :=
  ⟨I.u.trans (Upd.ext e), I.s.ext e, I.t.ext e, I.n.ext e, I.cp, I.c1, I.c0, I.cb, I.q.ext e, I.tz, I.xm, I.xs, I.r0, I.k0, I.ne, I.kw, I.tl⟩
theorem SfP.skip {x : Pe} {k : Nat} (I : SfP ws w kl kc r L ck F nx seen x cnt k A c T) (hk : k < (nx x.p).length) (hF : F ((nx x.p).getD k Pt.z) = false) : SfP ws w kl kc r L ck F nx seen x cnt (k + 1) A c T :=
  ⟨I.u, I.s, I.t, I.n, by rw [inLeft_take hk, hF, I.cp]; simp, I.c1, I.c0, I.cb, I.q, I.tz, I.xm, I.xs, I.r0, I.k0, I.ne, I.kw, I.tl⟩
/-- the count is one more -/
theorem SfP.inc {x : Pe} {k : Nat} (I : SfP ws w kl kc r L ck F nx seen x cnt k A c T) (hk : k < (nx x.p).length) (hm : (nx x.p).length ≤ 2000000) (hF : F ((nx x.p).getD k Pt.z) = true) (u : Upd (fun k => k = kc) w w') (n : CntM w' kc (fun q => if q = x.p then cnt x.p + 1 else cnt q)) : SfP ws w' kl kc r L ck F nx seen x (fun q => if q = x.p then cnt x.p + 1 else cnt q) (k + 1) A c T := by
  have hkl : kl ≠ kc := by have h1 := I.kw; have h2 := I.k0; omega
  have ht : TM w' kl L ck := I.t.m.upd u hkl
  refine ⟨⟨u.os.trans I.u.os, u.tape.trans I.u.tape, u.output.trans I.u.output, Nat.le_trans I.u.size u.size, fun j hj hn => (u.block j (Nat.lt_of_lt_of_le hj I.u.size) (fun e => by have := I.k0; omega)).trans (I.u.block j hj hn)⟩, I.s.upd u hkl, I.t.upd u hkl I.ne, n, ?_, fun y hy hs => ?_, fun q hq h => ?_, fun q => ?_, I.q.upd u (fun j hj e => by rw [e] at hj; exact I.n.not_ty _ (I.q.ty hj)), fun p hp => ?_, I.xm, I.xs, I.r0, I.k0, I.ne, I.kw, I.tl⟩
  · simp only [if_true]
    rw [inLeft_take hk, hF, I.cp]
    simp
  · have : y.p ≠ x.p := fun e => by
      have := place_eq I.s.tm.np hy I.xm e
      rw [this, I.xs] at hs
      cases hs
    simp only [if_neg this]
    exact I.c1 y hy hs
  · simp only [if_neg hq]
    exact I.c0 q hq h
  · by_cases e : q = x.p
    · simp only [if_pos e]
      have h1 := inLeft_le F ((nx x.p).take k)
      rw [List.length_take] at h1
      rw [I.cp]
      omega
    · simp only [if_neg e]; exact I.cb q
  · obtain ⟨y, hy, e1, e2, e3⟩ := I.tz p hp
    have : p ≠ x.p := fun e => by
      have := place_eq I.s.tm.np hy I.xm (e1.trans e)
      rw [this, I.xs] at e2
      cases e2
    exact ⟨y, hy, e1, e2, by simp only [if_neg this]; exact e3⟩
theorem contains_push' {seen : Array Nat} {a b : Nat} (h : (seen.push a).contains b = true) : seen.contains b = true ∨ b = a := by
  rw [Array.contains_push] at h
  simpa using h
theorem contains_old {seen : Array Nat} {a b : Nat} (h : seen.contains b = true) : (seen.push a).contains b = true := by
  rw [Array.contains_push, h]; rfl
theorem contains_new (seen : Array Nat) (a : Nat) : (seen.push a).contains a = true := by
  rw [Array.contains_push]; simp
/-- a place is counted -/
theorem SfP.done {x : Pe} {k : Nat} (I : SfP ws w kl kc r L ck F nx seen x cnt k A c T) (hk : k = (nx x.p).length) : SfA ws w kl kc r L ck F nx (seen.push x.born) cnt A c T := by
  have hcp := I.cp
  rw [hk, List.take_length] at hcp
  refine ⟨I.u, I.s, I.t, I.n, fun y hy hs => ?_, fun q h => ?_, I.cb, I.q, fun p hp => ?_, I.r0, I.k0, I.ne, I.kw, by have := I.tl; omega⟩
  · rcases contains_push' hs with hs | hs
    · exact I.c1 y hy hs
    · rw [born_eq I.s.tm.nb hy I.xm hs]; exact hcp
  · refine I.c0 q (fun e => ?_) (fun y hy e => ?_)
    · have := h x I.xm e.symm
      rw [contains_new] at this; cases this
    · have := h y hy e
      cases hs : seen.contains y.born with
      | false => rfl
      | true => rw [contains_old hs] at this; cases this
  · obtain ⟨y, hy, e1, e2, e3⟩ := I.tz p hp
    exact ⟨y, hy, e1, contains_old e2, e3⟩
/-- .. and nothing follows: it is put on the list -/
theorem SfP.put {x : Pe} {k : Nat} {A' : Option Addr} {c' : Nat} (I : SfP ws w kl kc r L ck F nx seen x cnt k A c T) (hk : k = (nx x.p).length) (h0 : cnt x.p = 0) (u : Upd (fun k => blk A c = some k) w w') (o : Own w' ws.heap.size 27 3 A' (T.length + 1) c' (T.flatMap ptC ++ ptC x.p)) : SfA ws w' kl kc r L ck F nx (seen.push x.born) cnt A' c' (T ++ [x.p]) := by
  have J := I.done hk
  have ht : ∀ k, blk A c = some k → Ty w k 27 := fun k hk => J.q.ty hk
  have hkl : ¬ blk A c = some kl := fun e => J.s.tm.not_ty _ (ht _ e)
  refine ⟨⟨u.os.trans J.u.os, u.tape.trans J.u.tape, u.output.trans J.u.output, Nat.le_trans J.u.size u.size, fun j hj hn => (u.block j (Nat.lt_of_lt_of_le hj J.u.size) (fun e => by have := (J.q.lt j e).1; omega)).trans (J.u.block j hj hn)⟩, J.s.upd u hkl, J.t.upd u hkl (fun e => J.t.not_ty _ (ht _ e)), J.n.upd u (fun e => J.n.not_ty _ (ht _ e)), J.c1, J.c0, J.cb, by rw [List.length_append, List.flatMap_append, List.flatMap_singleton]; exact o, fun p hp => ?_, J.r0, J.k0, J.ne, J.kw, by rw [List.length_append]; have := I.tl; simp only [List.length_cons, List.length_nil]; omega⟩
  rcases List.mem_append.1 hp with hp | hp
  · exact J.tz p hp
  · rw [List.mem_singleton.1 hp]
    exact ⟨x, I.xm, rfl, contains_new _ _, h0⟩
/-! ### the sifting -/
structure SfB (ws w : World) (kl kc : Nat) (C : Pt → Prop) (nx : Pt → List Pt) (L : List Pe) (ck : Nat) (F : Pt → Bool) (cnt : Pt → Int) (rem : List Pt) (D : Nat) (A : Option Addr) (c : Nat) (T : List Pt) : Prop where
  u : Upd (fun k => k = kl) ws w
  s : SetM w kl L ck F
  n : CntM w kc cnt
  si : SiftI nx C F cnt rem
  cb : ∀ q, -(D : Int) ≤ cnt q ∧ cnt q ≤ 2000000
  q : Own w ws.heap.size 27 3 A T.length c (T.flatMap ptC)
  tz : ∀ p ∈ T, ¬ C p ∧ P64 p
  k0 : ws.heap.size ≤ kc
  kw : kl < ws.heap.size
  db : D + L.length * 2000000 ≤ 4200000000000
  tb : T.length + L.length * 2000000 ≤ 4200002100000
variable {C : Pt → Prop} {rem : List Pt} {D : Nat}
theorem SfA.go (I : SfA ws w kl kc r L ck F nx seen cnt A c T) (hall : ∀ x ∈ L, seen.contains x.born = true) (hC : ∀ p, C p → F p = true) (hn : ∀ p, C p → ∃ x, x ∈ nx p ∧ C x) (hL : L.length ≤ 2100000) : SfB ws w kl kc C nx L ck F cnt [] 0 A c T := by
  have ct : ∀ p, C p → cnt p = inLeft F (nx p) := fun p hp => by
    obtain ⟨x, hx, e⟩ := I.s.mem.1 (hC p hp)
    rw [← e]; exact I.c1 x hx (hall x hx)
  have si : SiftI nx C F cnt [] := ⟨hC, fun p hp => by rw [ct p hp]; simp⟩
  refine ⟨I.u, I.s, I.n, si, fun q => by have := I.cb q; omega, I.q, fun p hp => ?_, I.k0, I.kw, by omega, by have := I.tl; omega⟩
  obtain ⟨x, hx, e1, _, e2⟩ := I.tz p hp
  refine ⟨fun h => ?_, by rw [← e1]; exact I.s.tm.k6 x hx⟩
  have := si.pos hn h
  omega
theorem SfB.ext (I : SfB ws w kl kc C nx L ck F cnt rem D A c T) (e : Ext w w') : SfB ws w' kl kc C nx L ck F cnt rem D A c T :=
  ⟨I.u.trans (Upd.ext e), I.s.ext e, I.n.ext e, I.si, I.cb, I.q.ext e, I.tz, I.k0, I.kw, I.db, I.tb⟩
theorem SfB.pop {p : Pt} (I : SfB ws w kl kc C nx L ck F cnt rem D A c (T ++ [p])) : SfB ws w kl kc C nx L ck F cnt rem D A c T ∧ ¬ C p ∧ P64 p := by
  have hq := I.q
  rw [List.length_append, List.flatMap_append, List.flatMap_singleton] at hq
  have htb := I.tb
  rw [List.length_append] at htb
  simp only [List.length_cons, List.length_nil] at htb
  have := I.tz p (by simp)
  exact ⟨⟨I.u, I.s, I.n, I.si, I.cb, own_init hq rfl, fun q hq => I.tz q (List.mem_append_left _ hq), I.k0, I.kw, I.db, by omega⟩, this.1, this.2⟩
/-- a place is struck -/
theorem SfB.strike {p : Pt} {prv : Pt → List Pt} {ck' : Nat} (I : SfB ws w kl kc C nx L ck F cnt [] D A c T) (tp : ∀ p q, (prv p).count q = (nx q).count p) (hp : F p = true) (hc : ¬ C p) (m : TM w' kl (L.filter fun x => !decide (x.p = p)) ck') (g : w.grownBy w' (some kl)) : SfB ws w' kl kc C nx (L.filter fun x => !decide (x.p = p)) ck' (fun x => F x && !decide (x = p)) cnt (prv p) D A c T ∧ (L.filter fun x => !decide (x.p = p)).length < L.length := by
  have u : Upd (fun k => k = kl) w w' := (Upd.refl _ w).grown g (fun k hk => .inl (by injection hk with hk; exact hk.symm))
  have hl := I.s.less hp
  have hkc : ¬ kc = kl := by have h1 := I.kw; have h2 := I.k0; omega
  have hdb : D + (L.filter fun x => !decide (x.p = p)).length * 2000000 ≤ 4200000000000 := Nat.le_trans (Nat.add_le_add_left (Nat.mul_le_mul_right _ (Nat.le_of_lt hl)) _) I.db
  have htb : T.length + (L.filter fun x => !decide (x.p = p)).length * 2000000 ≤ 4200002100000 := Nat.le_trans (Nat.add_le_add_left (Nat.mul_le_mul_right _ (Nat.le_of_lt hl)) _) I.tb
  exact ⟨⟨I.u.trans u, I.s.del m, I.n.upd u hkc, I.si.drop tp hp hc, I.cb, I.q.upd u (fun k hk e => by rw [e] at hk; exact I.s.tm.not_ty _ (I.q.ty hk)), I.tz, I.k0, I.kw, hdb, htb⟩, hl⟩
/-- a count is one less -/
theorem SfB.dec {q : Pt} (I : SfB ws w kl kc C nx L ck F cnt (q :: rem) D A c T) (hD : D + 1 + L.length * 2000000 ≤ 4200000000000) (u : Upd (fun k => k = kc) w w') (n : CntM w' kc (fun x => if x = q then cnt q - 1 else cnt x)) : SfB ws w' kl kc C nx L ck F (fun x => if x = q then cnt q - 1 else cnt x) rem (D + 1) A c T := by
  have hkl : ¬ kl = kc := by have h1 := I.kw; have h2 := I.k0; omega
  refine ⟨⟨u.os.trans I.u.os, u.tape.trans I.u.tape, u.output.trans I.u.output, Nat.le_trans I.u.size u.size, fun j hj hn => (u.block j (Nat.lt_of_lt_of_le hj I.u.size) (fun e => by have := I.k0; omega)).trans (I.u.block j hj hn)⟩, I.s.upd u hkl, n, I.si.dec (if_pos rfl) (fun p hp => if_neg hp), fun x => ?_, I.q.upd u (fun k hk e => by rw [e] at hk; exact I.n.not_ty _ (I.q.ty hk)), I.tz, I.k0, I.kw, hD, I.tb⟩
  have h1 := I.cb q
  have h2 := I.cb x
  by_cases e : x = q
  · simp only [if_pos e]; omega
  · simp only [if_neg e]; omega
/-- a place is put on the list -/
theorem SfB.push {q : Pt} {A' : Option Addr} {c' : Nat} (I : SfB ws w kl kc C nx L ck F cnt rem D A c T) (hq : ¬ C q) (h6 : P64 q) (hT : T.length + 1 + L.length * 2000000 ≤ 4200002100000) (u : Upd (fun k => blk A c = some k) w w') (o : Own w' ws.heap.size 27 3 A' (T.length + 1) c' (T.flatMap ptC ++ ptC q)) : SfB ws w' kl kc C nx L ck F cnt rem D A' c' (T ++ [q]) := by
  have ht : ∀ k, blk A c = some k → Ty w k 27 := fun k hk => I.q.ty hk
  refine ⟨⟨u.os.trans I.u.os, u.tape.trans I.u.tape, u.output.trans I.u.output, Nat.le_trans I.u.size u.size, fun j hj hn => (u.block j (Nat.lt_of_lt_of_le hj I.u.size) (fun e => by have := (I.q.lt j e).1; omega)).trans (I.u.block j hj hn)⟩, I.s.upd u (fun e => I.s.tm.not_ty _ (ht _ e)), I.n.upd u (fun e => I.n.not_ty _ (ht _ e)), I.si, I.cb, by rw [List.length_append, List.flatMap_append, List.flatMap_singleton]; exact o, fun p hp => ?_, I.k0, I.kw, I.db, by rw [List.length_append]; exact hT⟩
  rcases List.mem_append.1 hp with hp | hp
  · exact I.tz p hp
  · rw [List.mem_singleton.1 hp]; exact ⟨hq, h6⟩
end
end Go.Proofs.Yteklohamkmiphaa
