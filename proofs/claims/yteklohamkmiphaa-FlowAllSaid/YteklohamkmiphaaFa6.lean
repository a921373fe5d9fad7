/- flow.least$1, flow.Check$3: is a way never later? A search under way, in memory: its steps. A map from places to lists that a call makes: one more at a place. flow.steps, plainly: what stands at each place, and that it is where one may go from there. What Apply answers, as plain functions. The plain law of StampGoes: ways one behind the other, times that stay ahead, ways that never come behind. Graphs that are alike but for orders; a time that goes along a route. The chapter's own graph: its check, and its ways. The chapter's own graph: that it may be, and that it may not without what is added. What is sifted out is on no round. Regions that draw their order, where an operation leaves what a relation of worlds says: a fixed order serves every order. Conditions: each theorem states its own. -/
import Derived.Test.YteklohamkmiphaaFa5
import Derived.Test.YteklohamkmiphaaFa3
import Derived.Test.YteklohamkmiphaaFa1
import Derived.Test.YteklohamkmiphaaFa2
import Derived.Test.YteklohamkmiphaaFa4
namespace Go.Proofs.Yteklohamkmiphaa
open Go.RowKit

/-- a way that is held in a variable -/
structure CapW (w : World) (b : Nat) (p : Pm) : Prop where
  c0 : w.cell? ⟨b, 0, none⟩ = some (.int .i64 p.w.leave)
  c1 : w.cell? ⟨b, 1, none⟩ = some (.int .u32 p.w.add)
  c2 : w.cell? ⟨b, 2, none⟩ = some (.slice p.A p.w.enter.length p.c)
theorem CapW.ext {w w' : World} {b : Nat} {p : Pm} (h : CapW w b p) (e : Ext w w') : CapW w' b p := ⟨e.cell h.c0, e.cell h.c1, e.cell h.c2⟩
theorem CapW.word {w w' : World} {b g : Nat} {p : Pm} (h : CapW w b p) (e : w.grownBy w' (some g)) (hn : b ≠ g) : CapW w' b p :=
  ⟨e.cell h.c0 (fun q => hn (by injection q)), e.cell h.c1 (fun q => hn (by injection q)), e.cell h.c2 (fun q => hn (by injection q))⟩
/-- its counters are such, and few -/
def Few32 (x : Way) : Prop := U32 x.enter ∧ x.enter.length ≤ 1000000
set_option maxRecDepth 100000 in
set_option maxHeartbeats 800000 in
theorem least1_any (La aa : Int) (A : Option Addr) (n c : Nat) (l : List Int) (Lb ab : Int) (B : Option Addr) (m k : Nat) (j : List Int) (d : Int) (pb bd : Nat) (w : World) (h1 : Hid (Sl w 1 A n c (wds l))) (h2 : Hid (Sl w 1 B m k (wds j))) (u1 : Hid (U32 l)) (u2 : Hid (U32 j)) (n1 : n ≤ 1000000) (n2 : m ≤ 1000000)
    (c0 : w.cell? ⟨pb, 0, none⟩ = some (.int .i64 Lb)) (c1 : w.cell? ⟨pb, 1, none⟩ = some (.int .u32 ab)) (c2 : w.cell? ⟨pb, 2, none⟩ = some (.slice B m k)) (c3 : w.cell? ⟨bd, 0, none⟩ = some (.int .i64 d)) :
    Calls Try.prog 54 #[.agg #[.int .i64 La, .int .u32 aa, .slice A n c], .pointer (some ⟨pb, 0, none⟩), .pointer (some ⟨bd, 0, none⟩)] w fun e w' => e = .returned (.bool (pathLeqT Lb ab j La aa l d)) ∧ Ext w w' := by
  have XA : Hid (Ext w (w.alloc (Obj.cells #[.int .i64 La, .int .u32 aa, .slice A n c] 47))) := Lib.hid ((Ext.refl w).alloc _)
  have d0 := XA.out.cell c0
  have d1 := XA.out.cell c1
  have d2 := XA.out.cell c2
  have d3 := XA.out.cell c3
  have hE := pleq_any Lb ab La aa d B A m n k c j l _ (h2.out.ext XA.out) (h1.out.ext XA.out) u2.out u1.out n2 n1
  obtain ⟨r, hr⟩ : ∃ r, pathLeqT Lb ab j La aa l d = r := ⟨_, rfl⟩
  rw [hr] at hE ⊢
  clear hr c0 c1 c2 c3
  go_enter Try.func54, Try.ntmps54
  go_wp2_with (go_at_call 27; refine hE.mono ?_; rintro e w1 ⟨rfl, x1⟩; have HX : Hid (Ext w w1) := Lib.hid (XA.out.trans x1); clear x1)
  go_returns
  exact ⟨rfl, by have e1 := HX.out; (repeat' (first | with_reducible exact e1 | with_reducible refine Ext.drew ?_ | with_reducible refine Ext.drewN ?_ _ | with_reducible refine Ext.alloc ?_ _ | with_reducible refine Ext.set ?_ ?_ _ | omega | (simp; done) | (simp; omega)))⟩
set_option maxRecDepth 100000 in
set_option maxHeartbeats 800000 in
theorem check3_any (La aa : Int) (A : Option Addr) (n c : Nat) (l : List Int) (d : Int) (nb : Nat) (w : World) (h1 : Hid (Sl w 1 A n c (wds l))) (u1 : Hid (U32 l)) (n1 : n ≤ 1000000) (c2 : w.cell? ⟨nb, 2, none⟩ = some (.int .i64 d)) :
    Calls Try.prog 26 #[.agg #[.int .i64 La, .int .u32 aa, .slice A n c], .pointer (some ⟨nb, 0, none⟩)] w fun e w' => e = .returned (.bool (pathLeqT La aa l 0 0 [] d)) ∧ Ext w w' := by
  have XA : Hid (Ext w (w.alloc (Obj.cells #[.int .i64 La, .int .u32 aa, .slice A n c] 47))) := Lib.hid ((Ext.refl w).alloc _)
  have d2 := XA.out.cell c2
  have hE := pleq_any La aa 0 0 d A none n 0 c 0 l [] _ (h1.out.ext XA.out) (Sl.nil _ 1) u1.out (fun x hx => (nomatch hx)) n1 (by omega)
  obtain ⟨r, hr⟩ : ∃ r, pathLeqT La aa l 0 0 [] d = r := ⟨_, rfl⟩
  rw [hr] at hE ⊢
  clear hr c2
  go_enter Try.func26, Try.ntmps26
  go_wp2_with (go_at_call 27; refine hE.mono ?_; rintro e w1 ⟨rfl, x1⟩; have HX : Hid (Ext w w1) := Lib.hid (XA.out.trans x1); clear x1)
  go_returns
  exact ⟨rfl, by have e1 := HX.out; (repeat' (first | with_reducible exact e1 | with_reducible refine Ext.drew ?_ | with_reducible refine Ext.drewN ?_ _ | with_reducible refine Ext.alloc ?_ _ | with_reducible refine Ext.set ?_ ?_ _ | omega | (simp; done) | (simp; omega)))⟩
/-- the predicate of DeleteFunc -/
theorem least1_pred {w0 w : World} {L : List Pm} {p : Pm} {d : Int} {g pb bd : Nat} (hx : ∀ x ∈ L, Wy w0 w x) (hp : Wy w0 w p) (fx : ∀ x ∈ L, Few32 x.w) (fp : Few32 p.w) (cp : CapW w pb p) (cd : w.cell? ⟨bd, 0, none⟩ = some (.int .i64 d)) (gu : ¬ Ty w g 45) (np : pb ≠ g) (nd : bd ≠ g) :
    PredG 54 g (.pointer (some ⟨pb, 0, none⟩)) (.pointer (some ⟨bd, 0, none⟩)) (fun x => pl p.w x.w d) L w := fun W x hxL hW => by
  have U : Upd (fun k => k = g) w W := (Upd.refl _ w).grown hW (fun k hk => .inl (by injection hk with hk; exact hk.symm))
  have hn : ∀ k, k = g → ¬ Ty w k 45 := fun k hk => by rw [hk]; exact gu
  have h1 := ((hx x hxL).upd U hn).pmR
  have h2 := (hp.upd U hn).pmR
  have cp := cp.word hW np
  have cd := hW.cell cd (fun q => nd (by injection q))
  exact least1_any x.w.leave x.w.add x.A x.w.enter.length x.c x.w.enter p.w.leave p.w.add p.A p.w.enter.length p.c p.w.enter d pb bd W (Lib.hid h1) (Lib.hid h2) (Lib.hid (fx x hxL).1) (Lib.hid fp.1) (fx x hxL).2 fp.2 cp.c0 cp.c1 cp.c2 cd
end Go.Proofs.Yteklohamkmiphaa
namespace Go.Proofs.Yteklohamkmiphaa
open Go.RowKit

theorem elem_pm : Elem Try.prog 42 47 3 40 (.agg #[.int .i64 0, .int .u32 0, .slice none 0 0]) := ⟨by kernel_rfl, by kernel_rfl, rfl, by decide⟩
theorem elem_sp : Elem Try.prog 97 99 6 64 (.agg #[.int .i64 0, .bool false, .int .i64 0, .int .i64 0, .int .u32 0, .slice none 0 0]) := ⟨by kernel_rfl, by kernel_rfl, rfl, by decide⟩
theorem zeroPs (w : World) : (zeroValue 42).run Try.prog w = .ok (.slice none 0 0) w := by kernel_rfl
theorem zeroSs (w : World) : (zeroValue 97).run Try.prog w = .ok (.slice none 0 0) w := by kernel_rfl
theorem upd_ext0 {S : Nat → Prop} {w0 w w' : World} (x0 : Ext w0 w) (u : Upd S w w') (h : ∀ k, S k → w0.heap.size ≤ k) : Ext w0 w' :=
  ⟨u.os.trans x0.os, u.tape.trans x0.tape, u.output.trans x0.output, Nat.le_trans x0.size u.size, fun k hk => (u.block k (Nat.lt_of_lt_of_le hk x0.size) (fun q => by have := h k q; omega)).trans (x0.block k hk)⟩
theorem OwnQ.ty {w : World} {B s n c : Nat} {e : TypeId} {A : Option Addr} {xs : List Value} (h : OwnQ w B e s A n c xs) {k : Nat} (hk : blk A c = some k) : Ty w k e := by
  rcases h.2 with ⟨rfl, _⟩ | ⟨g, o, cur, rfl, _, hg, _⟩
  · rw [blk_zero] at hk; cases hk
  · cases c with
    | zero => cases hk
    | succ c =>
      injection hk with hk
      simp only at hk
      subst hk
      exact ⟨_, _, hg⟩
theorem Bk.updB {w w' : World} {S : Nat → Prop} {g : Nat} {t : TypeId} {cs : Array Value} (h : Bk w g t cs) (x : Upd S w w') (hn : ¬ S g) : Bk w' g t cs := (x.block g h.lt hn).trans h
/-! ### DeleteFunc at a list that is owned -/
def DelOwn (B : Nat) (A : Option Addr) (c : Nat) (p : Pm → Bool) (M : List Pm) (w : World) (e : Ending) (w' : World) : Prop := e = .returned (.slice A (M.filter (fun x => !p x)).length c) ∧ Own w' B 47 3 A (M.filter (fun x => !p x)).length c ((M.filter (fun x => !p x)).flatMap pmC) ∧ Upd (fun k => blk A c = some k) w w'
set_option maxRecDepth 100000 in
set_option maxHeartbeats 600000 in
theorem delete_nil (f : Value) (A : Option Addr) (c : Nat) (w : World) : Calls Try.prog 53 #[.slice A 0 c, f] w fun e w' => e = .returned (.slice A 0 c) ∧ Ext w w' := by
  have hidx : Calls Try.prog 51 #[.slice A 0 c, f] w fun e w' => e = .returned (.int .i64 (-1)) ∧ Ext w w' := by
    go_enter Try.func51, Try.ntmps51
    go_wp2
    refine wp_loop_rounds 1 ?_
    rw [rounds_succ]
    go_wp2
    go_ret
    exact ⟨rfl, Ext.refl w⟩
  go_enter Try.func53, Try.ntmps53
  go_wp2_with (go_at_call 51; refine hidx.mono ?_; rintro e w1 ⟨rfl, x1⟩)
  go_ret
  exact ⟨rfl, x1⟩
theorem delete_own (p : Pm → Bool) (g : Nat) (v0 v1 : Value) (eg : ∀ args w, (callFunc g args).run Try.prog w = .ok (.enter g args) w) (B : Nat) (A : Option Addr) (c : Nat) (M : List Pm) (w : World) (o : Own w B 47 3 A M.length c (M.flatMap pmC)) (hp : ∀ b, blk A c = some b → PredG g b v0 v1 p M w) :
    Calls Try.prog 53 #[.slice A M.length c, .func (.func g) #[] #[v0, v1]] w (DelOwn B A c p M w) := by
  by_cases h0 : M.length = 0
  · have hM : M = [] := List.eq_nil_of_length_eq_zero h0
    subst hM
    refine (delete_nil (.func (.func g) #[] #[v0, v1]) A c w).mono ?_
    rintro e w' ⟨rfl, x⟩
    exact ⟨rfl, o.ext x, Upd.ext x⟩
  · obtain ⟨b, rfl, hb, _⟩ := o.form (by omega)
    have hc : 0 < c := by
      cases c with
      | zero => rw [blk_zero] at hb; cases hb
      | succ c => omega
    refine (delete_any p g b v0 v1 eg B 47 c M.length M w (Lib.hid rfl) (Lib.hid ⟨o, hc⟩) (Lib.hid (hp b hb))).mono ?_
    rintro e w' ⟨m, rfl, rfl, h, u⟩
    exact ⟨rfl, h.ow, (Upd.refl _ w).grown u (fun k hk => .inl (by rw [hb]; exact hk))⟩

/-- a search under way: Q so far, the i-th place's j-th step comes next; P waits, from the o-th on -/
structure LsI (w0 w : World) (g : Gr) (fr : Pt) (st : Prop) (kb : Nat) (Q : List Ent) (i j o : Nat) (A : Option Addr) (c : Nat) (P : List Sm) : Prop where
  ex : Ext w0 w
  b : BInv g fr st Q i j
  il : o ≤ Q.length
  q : OwnQ w w0.heap.size 99 6 A P.length c (P.flatMap spC)
  pv : P.map Sm.v = (Q.drop o).map (fun e => (e.at', e.w))
  py : ∀ x ∈ P, Wy w0 w x.b
  kn : ∃ L ck K, KmR w0 w kb L ck K ∧ Kn g fr st Q (fun q => (K q).map Pm.w)
section
variable {w0 w w' : World} {g : Gr} {fr : Pt} {st : Prop} {kb : Nat} {Q : List Ent} {i j o : Nat} {A : Option Addr} {c : Nat} {P : List Sm}
theorem LsI.ext (I : LsI w0 w g fr st kb Q i j o A c P) (e : Ext w w') : LsI w0 w' g fr st kb Q i j o A c P :=
  ⟨I.ex.trans e, I.b, I.il, I.q.ext e, I.pv, fun x hx => (I.py x hx).ext e, by obtain ⟨L, ck, K, h1, h2⟩ := I.kn; exact ⟨L, ck, K, h1.ext e, h2⟩⟩
theorem LsI.off (I : LsI w0 w g fr st kb Q i j o A c P) {f : Ent} {m : Mv Pt Wid} (hf : Q[i]? = some f) (hm : (g.mvs f.at')[j]? = some m) (h : (thn f.w (g.mw m)).2 ≠ 0) : LsI w0 w g fr st kb Q i (j + 1) o A c P :=
  ⟨I.ex, I.b.off hf hm h, I.il, I.q, I.pv, I.py, I.kn⟩
theorem LsI.skip (I : LsI w0 w g fr st kb Q i j o A c P) {f : Ent} {m : Mv Pt Wid} {v : Way} (hf : Q[i]? = some f) (hm : (g.mvs f.at')[j]? = some m) (hv : thn f.w (g.mw m) = (v, 0)) {K : Pt → List Pm} (T : Kn g fr st Q (fun q => (K q).map Pm.w)) {x : Pm} (hx : x ∈ K (g.tgt m)) (hl : pl x.w v (g.dp fr) = true) : LsI w0 w g fr st kb Q i (j + 1) o A c P := by
  obtain ⟨a, e, h1, h2, h3, h4⟩ := T.covered (q := g.tgt m) (v := v) ⟨x.w, List.mem_map.2 ⟨x, hx, rfl⟩, hl⟩
  exact ⟨I.ex, I.b.skip hf hm hv h1 h2 h3 h4, I.il, I.q, I.pv, I.py, I.kn⟩
/-- the first one is taken -/
theorem LsI.pop {x : Sm} (I : LsI w0 w g fr st kb Q i 0 i A c (x :: P)) : LsI w0 w g fr st kb Q i 0 (i + 1) (if c = 1 then A else A.map (·.add 6)) (c - 1) P ∧ ∃ f, Q[i]? = some f ∧ f.at' = x.q ∧ f.w = x.b.w ∧ Wy w0 w x.b := by
  have hpv := I.pv
  have hl : i < Q.length := by
    rcases Nat.lt_or_ge i Q.length with h | h
    · exact h
    · rw [List.drop_of_length_le h] at hpv; cases hpv
  rw [List.drop_eq_getElem_cons hl, List.map_cons, List.map_cons] at hpv
  injection hpv with h1 h2
  injection h1 with h3 h4
  exact ⟨⟨I.ex, I.b, hl, OwnQ.drop I.q rfl, h2, fun y hy => I.py y (List.mem_cons_of_mem _ hy), I.kn⟩, Q[i], List.getElem?_eq_getElem hl, h3.symm, h4.symm, I.py x List.mem_cons_self⟩
theorem LsI.next (I : LsI w0 w g fr st kb Q i j (i + 1) A c P) {f : Ent} (hf : Q[i]? = some f) (hj : (g.mvs f.at').length ≤ j) : LsI w0 w g fr st kb Q (i + 1) 0 (i + 1) A c P :=
  ⟨I.ex, I.b.next hf hj, I.il, I.q, I.pv, I.py, I.kn⟩
/-- nothing waits: done -/
theorem LsI.done (I : LsI w0 w g fr st kb Q i 0 i A c []) : BInv g fr st Q Q.length 0 := by
  have hpv := I.pv
  have : Q.length ≤ i := by
    rcases Nat.lt_or_ge i Q.length with h | h
    · rw [List.drop_eq_getElem_cons h] at hpv; cases hpv
    · exact h
  have e : i = Q.length := Nat.le_antisymm I.il this
  rw [← e]; exact I.b
/-- no block of the least ways is one of steps -/
theorem KmR.not_sp {L : List Pe} {ck : Nat} {K : Pt → List Pm} (h : KmR w0 w kb L ck K) {k : Nat} (hk : kmB kb L k) : ¬ Ty w k 99 := by
  rcases hk with rfl | ⟨q, hk⟩
  · exact h.tm.not_ty _
  · exact fun e => absurd (e.ne (h.ty hk)) (by decide)
/-- something new -/
theorem LsI.push (I : LsI w0 w g fr st kb Q i j (i + 1) A c P) (G : GOK g) (hd : (g.dep fr).isSome) {f : Ent} {m : Mv Pt Wid} {p : Pm} (hf : Q[i]? = some f) (hm : (g.mvs f.at')[j]? = some m) (hv : thn f.w (g.mw m) = (p.w, 0)) (gv : GoodW (g.dp fr) (g.dp (g.tgt m)) p.w) {t : Pt} (ht : g.tgt m = t) (hy : Wy w0 w p)
    {L : List Pe} {ck : Nat} {K : Pt → List Pm} (k : KmR w0 w kb L ck K) (T : Kn g fr st Q (fun q => (K q).map Pm.w)) (no : ∀ x ∈ K t, pl x.w p.w (g.dp fr) = false)
    {A1 A2 A3 : Option Addr} {c1 c2 c3 ck2 : Nat} {L2 : List Pe} {w1 w2 w3 : World} (a : KAt w0 w (getE L t) (K t) A1 c1) (u : Upd (fun k => blk A1 c1 = some k) w w1) {l : List Pm} (hl : l = (K t).filter (fun x => !pl p.w x.w (g.dp fr)) ++ [p])
    (ow : Own w1 w0.heap.size 47 3 A2 l.length c2 (l.flatMap pmC)) (hb : ∀ k, blk A2 c2 = some k → blk A1 c1 = some k ∨ w.heap.size ≤ k) (tm : TM w2 kb L2 ck2) (pp : Put L t (.slice A2 l.length c2) L2) (gm : w1.grownBy w2 (some kb))
    (qw : OwnQ w3 w0.heap.size 99 6 A3 (P.length + 1) c3 (P.flatMap spC ++ spC ⟨t, p⟩)) (u3 : Upd (fun k => blk A c = some k) w2 w3) : LsI w0 w3 g fr st kb (Q ++ [⟨m :: f.mv, t, p.w, i, j⟩]) i (j + 1) (i + 1) A3 c3 (P ++ [⟨t, p⟩]) := by
  subst ht
  have bk : ∀ k, blk A1 c1 = some k → blkV (getE L (g.tgt m)) = some k := fun k hk => a.bk.trans hk
  have nu : ∀ q, blk A1 c1 = some q → ¬ Ty w q 45 := fun q hq => k.not_u32 (.inr ⟨_, bk q hq⟩)
  have um : Upd (fun k => k = kb) w1 w2 := (Upd.refl _ w1).grown gm (fun k hk => .inl (by injection hk with hk; exact hk.symm))
  have tm1 : TM w1 kb L ck := k.tm.upd u (fun e => k.ne_kb (bk _ e))
  have nm : ∀ q, q = kb → ¬ Ty w1 q 45 := fun q e => by rw [e]; exact tm1.not_ty _
  have wy1 : ∀ {x : Pm}, Wy w0 w x → Wy w0 w1 x := fun h => h.upd u nu
  have wy2 : ∀ {x : Pm}, Wy w0 w1 x → Wy w0 w2 x := fun h => h.upd um nm
  have hyl : ∀ x ∈ l, Wy w0 w1 x := fun x hx => by
    rw [hl] at hx
    rcases List.mem_append.1 hx with hx | hx
    · exact wy1 (k.wy _ x (List.mem_filter.1 hx).1)
    · rw [List.mem_singleton.1 hx]; exact wy1 hy
  have k2 := k.put a u ow hyl hb tm pp gm
  have q1 : OwnQ w1 w0.heap.size 99 6 A P.length c (P.flatMap spC) := I.q.upd u (fun q hq e => k.not_sp (.inr ⟨_, bk q e⟩) (I.q.ty hq))
  have q2 : OwnQ w2 w0.heap.size 99 6 A P.length c (P.flatMap spC) := q1.upd um (fun q hq e => by rw [e] at hq; exact tm1.not_ty _ (q1.ty hq))
  have n3 : ∀ q, blk A c = some q → ¬ Ty w2 q 45 := fun q hq e => absurd (e.ne (q2.ty hq)) (by decide)
  have k3 := k2.upd u3 (fun q hq e => k2.not_sp hq (q2.ty e)) n3
  have wy3 : ∀ {x : Pm}, Wy w0 w2 x → Wy w0 w3 x := fun h => h.upd u3 n3
  have e1 := upd_ext0 I.ex u (fun q hq => (k.lt (.inr ⟨_, bk q hq⟩)).1)
  have e2 := upd_ext0 e1 um (fun q e => by rw [e]; exact k.kb0)
  have e3 := upd_ext0 e2 u3 (fun q hq => (q2.lt q hq).1)
  have iQ : i < Q.length := (List.getElem?_eq_some_iff.1 hf).1
  have T2 : Kn g fr st (Q ++ [⟨m :: f.mv, g.tgt m, p.w, i, j⟩]) (fun q => (if q = g.tgt m then l else K q).map Pm.w) := by
    refine T.push I.b G hd (e := ⟨m :: f.mv, g.tgt m, p.w, i, j⟩) gv (fun q hq => ?_) ?_ (fun x hx => ?_) (fun e => by rw [e] at iQ; exact absurd iQ (Nat.not_lt_zero _))
    · show (if q = g.tgt m then l else K q).map Pm.w = _
      rw [if_neg hq]
    · show ((if g.tgt m = g.tgt m then l else K (g.tgt m)).map Pm.w).Perm _
      rw [if_pos rfl, hl, List.map_append, List.filter_map]
      exact List.Perm.refl _
    · obtain ⟨y, hy, rfl⟩ := List.mem_map.1 hx
      exact no y hy
  refine ⟨e3, I.b.push G hd hf hm hv (T.uncovered I.b G hd gv (fun x hx => ?_)), ?_, ?_, ?_, fun x hx => ?_, L2, ck2, _, k3, T2⟩
  · obtain ⟨y, hy, rfl⟩ := List.mem_map.1 hx
    exact no y hy
  · rw [List.length_append]; have := I.il; omega
  · rw [List.length_append, List.flatMap_append, List.flatMap_singleton]; exact qw
  · rw [List.map_append, I.pv, List.drop_append_of_le_length I.il, List.map_append]
    rfl
  · rcases List.mem_append.1 hx with hx | hx
    · exact wy3 (wy2 (wy1 (I.py x hx)))
    · rw [List.mem_singleton.1 hx]; exact wy3 (wy2 (wy1 hy))
/-- what else stays when something new is put -/
theorem push_frame {L : List Pe} {ck : Nat} {K : Pt → List Pm} (k : KmR w0 w kb L ck K) {q : Pt} {A1 : Option Addr} {c1 n : Nat} {xs : List Value} {w1 w2 w3 : World} (a : KAt w0 w (getE L q) (K q) A1 c1) (u : Upd (fun k => blk A1 c1 = some k) w w1) (gm : w1.grownBy w2 (some kb)) (qw : OwnQ w w0.heap.size 99 6 A n c xs) (u3 : Upd (fun k => blk A c = some k) w2 w3) :
    (∀ {x : Pm}, Wy w0 w x → Wy w0 w3 x) ∧ (∀ {b : Nat} {cs : Array Value}, Bk w b 99 cs → (∀ k, blk A c = some k → k ≠ b) → Bk w3 b 99 cs) := by
  have um : Upd (fun k => k = kb) w1 w2 := (Upd.refl _ w1).grown gm (fun k hk => .inl (by injection hk with hk; exact hk.symm))
  have U : Upd (fun k => blk A1 c1 = some k ∨ k = kb ∨ blk A c = some k) w w3 := (u.mono (fun _ _ h => .inl h)).trans ((um.mono (fun _ _ h => .inr (.inl h))).trans (u3.mono (fun _ _ h => .inr (.inr h))))
  refine ⟨fun {x} hx => hx.upd U (fun j hj => ?_), fun {b cs} hb hn => (U.block b (Array.getElem?_eq_some_iff.1 hb).1 (fun hj => ?_)).trans hb⟩
  · rcases hj with hj | rfl | hj
    · exact k.not_u32 (.inr ⟨q, a.bk.trans hj⟩)
    · exact k.tm.not_ty _
    · exact fun e => absurd (e.ne (qw.ty hj)) (by decide)
  · rcases hj with hj | rfl | hj
    · exact k.not_sp (.inr ⟨q, a.bk.trans hj⟩) hb.ty
    · exact k.tm.not_ty _ hb.ty
    · exact hn b hj rfl
end
end Go.Proofs.Yteklohamkmiphaa
namespace Go.Proofs.Yteklohamkmiphaa
open Go.RowKit

structure MpL {α : Type} (enc : α → List Value) (sz : Nat) (T : TypeId) (w0 w : World) (kb : Nat) (L : List Pe) (ck : Nat) (K : Pt → List α) : Prop where
  tm : TM w kb L ck
  kb0 : w0.heap.size ≤ kb
  ls : ∀ q, ∃ A c, (getE L q).getD nilS = .slice A (K q).length c ∧ Own w w0.heap.size T sz A (K q).length c ((K q).flatMap enc) ∧ blkV (getE L q) = blk A c
  ap : ∀ q r k, q ≠ r → blkV (getE L q) = some k → blkV (getE L r) ≠ some k
section
variable {α : Type} {enc : α → List Value} {sz : Nat} {T : TypeId} {w0 w w' : World} {kb ck : Nat} {L : List Pe} {K : Pt → List α}
theorem MpL.made (w : World) : MpL enc sz T w (w.alloc (.map #[] 0)) w.heap.size [] 0 (fun _ => []) :=
  ⟨TM.made w, Nat.le_refl _, fun q => ⟨Option.none, 0, rfl, Own.nil _ _ _ _, rfl⟩, fun q r k _ h => by cases h⟩
theorem MpL.ty (h : MpL enc sz T w0 w kb L ck K) {q : Pt} {k : Nat} (hk : blkV (getE L q) = some k) : Ty w k T := by
  obtain ⟨A, c, _, o, b⟩ := h.ls q
  rw [b] at hk
  exact o.ty hk
theorem MpL.lt (h : MpL enc sz T w0 w kb L ck K) {k : Nat} (hk : kmB kb L k) : w0.heap.size ≤ k ∧ k < w.heap.size := by
  rcases hk with rfl | ⟨q, hk⟩
  · exact ⟨h.kb0, h.tm.lt⟩
  · obtain ⟨A, c, _, o, b⟩ := h.ls q
    rw [b] at hk
    exact o.lt k hk
theorem MpL.ne_kb (h : MpL enc sz T w0 w kb L ck K) {q : Pt} : blkV (getE L q) ≠ some kb := fun e => h.tm.not_ty _ (h.ty e)
theorem MpL.not_ty (h : MpL enc sz T w0 w kb L ck K) {k : Nat} (hk : kmB kb L k) {U : TypeId} (hU : U ≠ T) : ¬ Ty w k U := by
  rcases hk with rfl | ⟨q, hk⟩
  · exact h.tm.not_ty _
  · exact fun e => hU (e.ne (h.ty hk))
theorem MpL.ext (h : MpL enc sz T w0 w kb L ck K) (e : Ext w w') : MpL enc sz T w0 w' kb L ck K :=
  ⟨h.tm.ext e, h.kb0, fun q => by obtain ⟨A, c, a, o, b⟩ := h.ls q; exact ⟨A, c, a, o.ext e, b⟩, h.ap⟩
theorem MpL.upd {S : Nat → Prop} (h : MpL enc sz T w0 w kb L ck K) (u : Upd S w w') (hS : ∀ k, kmB kb L k → ¬ S k) : MpL enc sz T w0 w' kb L ck K :=
  ⟨h.tm.upd u (hS _ (.inl rfl)), h.kb0, fun q => by obtain ⟨A, c, a, o, b⟩ := h.ls q; exact ⟨A, c, a, o.upd u (fun k hk => hS k (.inr ⟨q, by rw [b]; exact hk⟩)), b⟩, h.ap⟩
/-- an entry is taken, to be changed -/
theorem MpL.entry (h : MpL enc sz T w0 w kb L ck K) {q : Pt} {L' : List Pe} {ck' : Nat} (m : TM w' kb L' ck') (pp : Put L q ((getE L q).getD nilS) L') (gm : w.grownBy w' (some kb)) : MpL enc sz T w0 w' kb L' ck' K := by
  have um : Upd (fun k => k = kb) w w' := (Upd.refl _ w).grown gm (fun k hk => .inl (by injection hk with hk; exact hk.symm))
  have same : ∀ r, (getE L' r).getD nilS = (getE L r).getD nilS ∧ blkV (getE L' r) = blkV (getE L r) := fun r => by
    rw [pp.get r]
    by_cases e : r = q
    · rw [if_pos e, e]
      cases hq : getE L q with
      | none => exact ⟨rfl, rfl⟩
      | some v => exact ⟨rfl, rfl⟩
    · rw [if_neg e]; exact ⟨rfl, rfl⟩
  refine ⟨m, h.kb0, fun r => ?_, fun q r k e h1 h2 => ?_⟩
  · obtain ⟨A, c, a, o, b⟩ := h.ls r
    exact ⟨A, c, (same r).1.trans a, o.upd um (fun k hk e => by rw [e] at hk; exact h.tm.not_ty _ (o.ty hk)), (same r).2.trans b⟩
  · rw [(same q).2] at h1
    rw [(same r).2] at h2
    exact h.ap q r k e h1 h2
/-- one place's list is made anew, then put back -/
theorem MpL.put {w1 : World} (h : MpL enc sz T w0 w kb L ck K) {q : Pt} {A A' : Option Addr} {c c' ck' : Nat} {L' : List Pe} (hv : (getE L q).getD nilS = .slice A (K q).length c) (hbk : blkV (getE L q) = blk A c) (u : Upd (fun k => blk A c = some k) w w1) {l : List α} (o : Own w1 w0.heap.size T sz A' l.length c' (l.flatMap enc))
    (hb : ∀ k, blk A' c' = some k → blk A c = some k ∨ w.heap.size ≤ k) (m : TM w' kb L' ck') (pp : Put L q (.slice A' l.length c') L') (gm : w1.grownBy w' (some kb)) : MpL enc sz T w0 w' kb L' ck' (fun r => if r = q then l else K r) := by
  have _ := hv
  have nb : ¬ blk A c = some kb := fun e => h.ne_kb (q := q) (hbk.trans e)
  have tm1 : TM w1 kb L ck := h.tm.upd u nb
  have um : Upd (fun k => k = kb) w1 w' := (Upd.refl _ w1).grown gm (fun k hk => .inl (by injection hk with hk; exact hk.symm))
  have nk3 : ∀ k, k = kb → ¬ Ty w1 k T := fun k e => by subst e; exact tm1.not_ty _
  refine ⟨m, h.kb0, fun r => ?_, fun r s k rs hr hs => ?_⟩
  · rw [pp.get r]
    by_cases e : r = q
    · subst e
      rw [if_pos rfl, if_pos rfl]
      exact ⟨A', c', rfl, o.upd um (fun k hk e => nk3 k e (o.ty hk)), rfl⟩
    · rw [if_neg e, if_neg e]
      obtain ⟨A2, c2, a2, o2, b2⟩ := h.ls r
      have o2 := o2.upd u (fun k hk q2 => h.ap r q k e (b2.trans hk) (hbk.trans q2))
      exact ⟨A2, c2, a2, o2.upd um (fun k hk e => nk3 k e (o2.ty hk)), b2⟩
  · rw [pp.get] at hr hs
    have far : ∀ r, r ≠ q → blkV (getE L r) = some k → blk A' c' ≠ some k := fun r e h1 h2 => by
      rcases hb k h2 with q1 | q1
      · exact h.ap r q k e h1 (hbk.trans q1)
      · have := (h.lt (.inr ⟨r, h1⟩)).2; omega
    by_cases e : r = q
    · rw [if_pos e] at hr
      rw [if_neg (fun e2 => rs (e.trans e2.symm))] at hs
      exact far s (fun e2 => rs (e.trans e2.symm)) hs hr
    · rw [if_neg e] at hr
      by_cases e2 : s = q
      · rw [if_pos e2] at hs
        exact far r e hr hs
      · rw [if_neg e2] at hs
        exact h.ap r s k rs hr hs
/-- 'm[q] = append(m[q], x)': the entry, the append, the store -/
theorem MpL.push {w1 w2 w3 : World} (h : MpL enc sz T w0 w kb L ck K) {q : Pt} {A A' : Option Addr} {c c' ck1 : Nat} {L1 L3 : List Pe} (hv : (getE L q).getD nilS = .slice A (K q).length c) (hbk : blkV (getE L q) = blk A c) (m1 : TM w1 kb L1 ck1) (p1 : Put L q ((getE L q).getD nilS) L1) (g1 : w.grownBy w1 (some kb)) (u : Upd (fun k => blk A c = some k) w1 w2) {x : α}
    (o : Own w2 w0.heap.size T sz A' ((K q).length + 1) c' ((K q).flatMap enc ++ enc x)) (hb : ∀ k, blk A' c' = some k → blk A c = some k ∨ w1.heap.size ≤ k) (m3 : TM w3 kb L3 ck1) (p3 : Put L1 q (.slice A' ((K q).length + 1) c') L3) (g3 : w2.grownBy w3 (some kb)) : MpL enc sz T w0 w3 kb L3 ck1 (fun r => if r = q then K q ++ [x] else K r) := by
  have h1 := h.entry m1 p1 g1
  have e1 : getE L1 q = some ((getE L q).getD nilS) := by rw [p1.get, if_pos rfl]
  have hv1 : (getE L1 q).getD nilS = .slice A (K q).length c := by rw [e1]; exact hv
  have hb1 : blkV (getE L1 q) = blk A c := by rw [e1, hv]; rfl
  have hl : (K q ++ [x]).length = (K q).length + 1 := by rw [List.length_append]; rfl
  exact h1.put hv1 hb1 u (l := K q ++ [x]) (by rw [hl, List.flatMap_append, List.flatMap_singleton]; exact o) hb m3 (by rw [hl]; exact p3) g3
/-- where the writes were -/
theorem MpL.frame {w1 w2 w3 : World} (h : MpL enc sz T w0 w kb L ck K) {q : Pt} {A : Option Addr} {c : Nat} (hbk : blkV (getE L q) = blk A c) (g1 : w.grownBy w1 (some kb)) (u : Upd (fun k => blk A c = some k) w1 w2) (g3 : w2.grownBy w3 (some kb)) : Upd (kmB kb L) w w3 := by
  have U1 : Upd (kmB kb L) w w1 := (Upd.refl _ w).grown g1 (fun k hk => .inl (.inl (by injection hk with hk; exact hk.symm)))
  have U2 : Upd (kmB kb L) w1 w2 := u.mono (fun k _ hk => .inr ⟨q, hbk.trans hk⟩)
  have U3 : Upd (kmB kb L) w2 w3 := (Upd.refl _ w2).grown g3 (fun k hk => .inl (.inl (by injection hk with hk; exact hk.symm)))
  exact U1.trans (U2.trans U3)
end
/-- what stands at a place, of pairs -/
def sel {α : Type} (t : List (Pt × α)) (q : Pt) : List α := (t.filter (fun x => decide (x.1 = q))).map Prod.snd
theorem sel_push {α : Type} (t : List (Pt × α)) (q : Pt) (x : α) : sel (t ++ [(q, x)]) = fun r => if r = q then sel t q ++ [x] else sel t r := by
  funext r
  unfold sel
  rw [List.filter_append, List.map_append]
  by_cases e : r = q
  · subst e; simp
  · rw [if_neg e, List.filter_cons_of_neg (by simpa using fun h : q = r => e h.symm)]; simp
theorem sel_len {α : Type} (t : List (Pt × α)) (q : Pt) : (sel t q).length ≤ t.length := by
  unfold sel; rw [List.length_map]; exact List.length_filter_le _ _
end Go.Proofs.Yteklohamkmiphaa
namespace Go.Proofs.Yteklohamkmiphaa
open Go.RowKit

def edS (e : Pt × Pt) : Pt × Sm := (e.1, ⟨e.2, Pm.zero⟩)
def inS (i : Nat) (x : Im) : Pt × Sm := (⟨i, false, x.i⟩, ⟨⟨i, true, x.o⟩, x.p⟩)
def nodesS : Nat → List Nm → List (Pt × Sm)
  | _, [] => []
  | i, n :: ns => n.inner.map (inS i) ++ nodesS (i + 1) ns
def allS (g : Gm) : List (Pt × Sm) := g.edges.map edS ++ nodesS 0 g.nodes
theorem nodesS_append : ∀ (a b : List Nm) (i : Nat), nodesS i (a ++ b) = nodesS i a ++ nodesS (i + a.length) b
  | [], b, i => by simp [nodesS]
  | n :: a, b, i => by
    rw [List.cons_append, nodesS, nodesS, nodesS_append a b (i + 1), List.append_assoc, List.length_cons, show i + 1 + a.length = i + (a.length + 1) by omega]
theorem sel_append {α : Type} (a b : List (Pt × α)) (q : Pt) : sel (a ++ b) q = sel a q ++ sel b q := by
  unfold sel; rw [List.filter_append, List.map_append]
theorem sel_edges (l : List (Pt × Pt)) (q : Pt) : (sel (l.map edS) q).map Sm.v = (l.filter (fun e => decide (e.1 = q))).map (fun e => (e.2, idW)) := by
  unfold sel
  rw [List.filter_map, List.map_map, List.map_map]
  rfl
theorem sel_inner (i : Nat) (l : List Im) (q : Pt) : (sel (l.map (inS i)) q).map Sm.v = if q.o = false ∧ q.n = i then (l.filter (fun x => decide (x.i = q.p))).map (fun x => (⟨q.n, true, x.o⟩, x.p.w)) else [] := by
  unfold sel
  rw [List.filter_map, List.map_map, List.map_map]
  obtain ⟨qn, qo, qp⟩ := q
  by_cases h : qo = false ∧ qn = i
  · rw [if_pos h]
    obtain ⟨rfl, rfl⟩ := h
    have e : ((fun x : Pt × Sm => decide (x.1 = ⟨(i : Int), false, qp⟩)) ∘ inS i) = fun x : Im => decide (x.i = qp) := by
      funext x
      show decide ((⟨(i : Int), false, x.i⟩ : Pt) = ⟨(i : Int), false, qp⟩) = _
      simp
    rw [e]
    rfl
  · rw [if_neg h]
    have e : l.filter ((fun x : Pt × Sm => decide (x.1 = ⟨qn, qo, qp⟩)) ∘ inS i) = [] := by
      refine List.filter_eq_nil_iff.2 fun x _ hx => h ?_
      have := of_decide_eq_true (show decide ((⟨(i : Int), false, x.i⟩ : Pt) = ⟨qn, qo, qp⟩) = true from hx)
      injection this with h1 h2 h3
      exact ⟨h2.symm, h1.symm⟩
    rw [e]
    rfl
theorem sel_nodes : ∀ (ns : List Nm) (k : Nat) (q : Pt), (sel (nodesS k ns) q).map Sm.v = if q.o = false ∧ (k : Int) ≤ q.n ∧ q.n < k + ns.length then ((ns.getD (q.n - k).toNat Nm.zero).inner.filter (fun x => decide (x.i = q.p))).map (fun x => (⟨q.n, true, x.o⟩, x.p.w)) else []
  | [], k, q => by
    rw [if_neg (by simp only [List.length_nil]; omega)]
    rfl
  | n :: ns, k, q => by
    rw [nodesS, sel_append, List.map_append, sel_inner, sel_nodes ns (k + 1) q, List.length_cons]
    by_cases ho : q.o = false
    · by_cases h1 : q.n = k
      · rw [if_pos ⟨ho, h1⟩, if_neg (by omega), if_pos ⟨ho, by omega, by omega⟩, List.append_nil, show (q.n - k).toNat = 0 by omega]
        rfl
      · rw [if_neg (fun h => h1 h.2), List.nil_append]
        by_cases h2 : (k : Int) ≤ q.n ∧ q.n < k + ((ns.length : Nat) + 1)
        · rw [if_pos ⟨ho, by omega, by omega⟩, if_pos ⟨ho, by omega, by omega⟩]
          have : (q.n - k).toNat = (q.n - ((k + 1 : Nat) : Int)).toNat + 1 := by omega
          rw [this]
          rfl
        · rw [if_neg (by omega), if_neg (by omega)]
    · rw [if_neg (fun h => ho h.1), if_neg (fun h => ho h.1), if_neg (fun h => ho h.1)]
      rfl
theorem zip_filter {α β : Type} (l : List α) (p : α → Bool) (f : α × Nat → β) (g : α → β) (h : ∀ x ∈ l.zipIdx, f x = g x.1) : (l.zipIdx.filter (fun x => p x.1)).map f = (l.filter p).map g := by
  have e1 : (l.zipIdx.filter (fun x => p x.1)).map f = (l.zipIdx.filter (fun x => p x.1)).map (fun x => g x.1) := List.map_congr_left fun x hx => h x (List.mem_filter.1 hx).1
  have e2 : (l.zipIdx.map Prod.fst) = l := by simp
  have e3 : (l.zipIdx.filter (fun x => p x.1)).map Prod.fst = l.filter p := by
    have := List.filter_map (f := Prod.fst) (p := p) (l := l.zipIdx)
    rw [e2] at this
    exact this.symm
  rw [e1, ← e3, List.map_map]
  rfl
/-- what stands at a place is where one may go from there -/
theorem steps_mvs (g : Gm) (G : GOK g.v) (q : Pt) : (sel (allS g) q).map Sm.v = (g.v.mvs q).map g.v.mvv := by
  unfold allS
  rw [sel_append, List.map_append, sel_edges, sel_nodes]
  cases ho : q.o with
  | true =>
    rw [if_neg (fun h => absurd h.1 (by decide)), List.append_nil]
    unfold Gr.mvs
    rw [if_pos ho, List.map_map]
    rfl
  | false =>
    have he : g.edges.filter (fun e => decide (e.1 = q)) = [] := by
      refine List.filter_eq_nil_iff.2 fun e he h => ?_
      have := (G.ed e he).1
      rw [of_decide_eq_true h, ho] at this
      cases this
    rw [he, List.map_nil, List.nil_append]
    unfold Gr.mvs
    rw [if_neg (show ¬ q.o = true by rw [ho]; decide)]
    cases hn : g.v.nd q.n with
    | none =>
      rw [if_neg ?_]
      · rfl
      · rintro ⟨_, h1, h2⟩
        unfold Gr.nd at hn
        rw [if_pos (by omega)] at hn
        have hl : q.n.toNat < g.v.nodes.length := by
          show _ < (g.nodes.map Nm.v).length
          rw [List.length_map]; omega
        rw [List.getElem?_eq_getElem hl] at hn
        cases hn
    | some nd =>
      obtain ⟨_, n0, hg⟩ := Gr.nd_mem hn
      have hl : q.n.toNat < g.nodes.length := by
        have := (List.getElem?_eq_some_iff.1 hg).1
        have e : g.v.nodes.length = g.nodes.length := List.length_map ..
        omega
      have hnd : nd = (g.nodes.getD q.n.toNat Nm.zero).v := by
        have h2 : g.v.nodes[q.n.toNat]? = (g.nodes.map Nm.v)[q.n.toNat]? := rfl
        rw [h2, List.getElem?_map, List.getElem?_eq_getElem hl] at hg
        injection hg with hg
        rw [List.getD_eq_getElem?_getD, List.getElem?_eq_getElem hl]
        exact hg.symm
      rw [if_pos ⟨rfl, by omega, by omega⟩, show (q.n - (0 : Nat)).toNat = q.n.toNat by omega]
      simp only
      rw [List.map_map]
      have hz := zip_filter nd.inner (fun x => decide (x.i = q.p)) (g.v.mvv ∘ fun x => Mv.w (q.n.toNat, x.2)) (fun x => (⟨q.n, true, x.o⟩, x.w)) (fun x hx => by
        have h1 := List.mem_zipIdx_iff_getElem?.1 hx
        have e : g.v.inn (q.n.toNat, x.2) = x.1 := by
          unfold Gr.inn; simp only [hg, Option.bind_some, h1, Option.getD_some]
        show (g.v.tgt (.w (q.n.toNat, x.2)), g.v.mw (.w (q.n.toNat, x.2))) = _
        simp only [Gr.tgt, Gr.mw, e]
        rw [show ((q.n.toNat : Nat) : Int) = q.n by omega])
      rw [hz, hnd]
      show _ = (((g.nodes.getD q.n.toNat Nm.zero).inner.map Im.v).filter _).map _
      rw [List.filter_map, List.map_map]
      rfl
end Go.Proofs.Yteklohamkmiphaa
namespace Go.Proofs.Yteklohamkmiphaa

/-- what Apply answers, K counters being left: the time and the error's number -/
def applyK (K : Nat) (a : Int) (l1 : List Int) (e : Int) (l2 : List Int) : (Int × List Int) × Int :=
  if K = 0 then (if 18446744073709551615 - a < e then ((0, []), 41) else if 3 < l1.length then ((0, []), 40) else ((e + a, l1), 0))
  else (if 4294967295 - a < l2.getD (K - 1) 0 then ((0, []), 41) else if 3 < K + l1.length then ((0, []), 40) else ((e, l2.take (K - 1) ++ [l2.getD (K - 1) 0 + a] ++ l1), 0))
/-- what Apply answers -/
def applyT (L a : Int) (l1 : List Int) (e : Int) (l2 : List Int) : (Int × List Int) × Int :=
  if L < 0 ∨ (l2.length : Int) < L then ((0, []), 40) else applyK (l2.length - L.toNat) a l1 e l2
end Go.Proofs.Yteklohamkmiphaa
namespace Go.Proofs.Yteklohamkmiphaa
open Go.RowKit

/-- what a time has at a place -/
def pos (e : Int) (l : List Int) (k : Nat) : Int := if k = 0 then e else l.getD (k - 1) 0
/-- what it has there behind a way that keeps so many places -/
def goT (K : Nat) (a : Int) (m : List Int) (f : Nat → Int) (k : Nat) : Int := if k < K then f k else if k = K then f k + a else m.getD (k - K - 1) 0

theorem mid_length (l r : List Int) (v : Int) (m : Nat) (hm : m ≤ l.length) : (l.take m ++ [v] ++ r).length = m + 1 + r.length := by simp; omega
theorem mid_getD (l r : List Int) (v : Int) (m i : Nat) (hm : m ≤ l.length) : (l.take m ++ [v] ++ r).getD i 0 = if i < m then l.getD i 0 else if i = m then v else r.getD (i - m - 1) 0 := by
  have ht : (l.take m).length = m := by simp; omega
  simp only [List.getD_eq_getElem?_getD]
  by_cases h1 : i < m
  · rw [if_pos h1, List.append_assoc, List.getElem?_append_left (by omega), List.getElem?_take, if_pos h1]
  · rw [if_neg h1]
    by_cases h2 : i = m
    · rw [if_pos h2, List.append_assoc, List.getElem?_append_right (by omega), ht, h2]; simp
    · rw [if_neg h2, List.getElem?_append_right (by simp; omega)]
      simp only [List.length_append, ht, List.length_cons, List.length_nil]
      congr 2

theorem apply_ok {L a : Int} {m l : List Int} {e e' : Int} {l' : List Int} (h : applyT L a m e l = ((e', l'), 0)) :
    0 ≤ L ∧ L ≤ l.length ∧ l'.length = (l.length - L.toNat) + m.length ∧ ∀ k, k ≤ (l.length - L.toNat) + m.length → pos e' l' k = goT (l.length - L.toNat) a m (pos e l) k := by
  unfold applyT at h
  by_cases h0 : L < 0 ∨ (l.length : Int) < L
  · rw [if_pos h0] at h; simp at h
  rw [if_neg h0] at h
  obtain ⟨K, hK⟩ : ∃ K, K = l.length - L.toNat := ⟨_, rfl⟩
  rw [← hK] at h ⊢
  have hKl : K ≤ l.length := by omega
  refine ⟨by omega, by omega, ?_⟩
  unfold applyK at h
  by_cases hK0 : K = 0
  · rw [if_pos hK0] at h
    split at h
    · simp at h
    · split at h
      · simp at h
      · simp only [Prod.mk.injEq, and_true] at h
        obtain ⟨rfl, rfl⟩ := h
        subst hK0
        refine ⟨by omega, fun k hk => ?_⟩
        unfold pos goT
        by_cases hk0 : k = 0
        · subst hk0; simp
        · rw [if_neg hk0, if_neg (by omega), if_neg hk0, Nat.sub_zero]
  · rw [if_neg hK0] at h
    split at h
    · simp at h
    · split at h
      · simp at h
      · simp only [Prod.mk.injEq, and_true] at h
        obtain ⟨rfl, rfl⟩ := h
        refine ⟨by rw [mid_length _ _ _ _ (by omega)]; omega, fun k hk => ?_⟩
        unfold pos goT
        by_cases hk0 : k = 0
        · subst hk0; rw [if_pos rfl, if_pos (by omega)]; simp
        · rw [if_neg hk0, mid_getD _ _ _ _ _ (by omega)]
          by_cases h1 : k < K
          · rw [if_pos (by omega), if_pos h1]; simp [hk0]
          · rw [if_neg (by omega), if_neg h1]
            by_cases h2 : k = K
            · rw [if_pos (by omega), if_pos h2, h2]; simp [hK0]
            · rw [if_neg (by omega), if_neg h2]
              congr 1; omega

theorem pos_ext {e1 e2 : Int} {l1 l2 : List Int} (hl : l1.length = l2.length) (h : ∀ k, k ≤ l1.length → pos e1 l1 k = pos e2 l2 k) : e1 = e2 ∧ l1 = l2 := by
  refine ⟨by simpa [pos] using h 0 (by omega), getD_ext' hl fun k hk => ?_⟩
  have := h (k + 1) (by omega)
  simpa [pos] using this
theorem pos_leq {e1 e2 : Int} {l1 l2 : List Int} : leqT e1 l1 e2 l2 = true ↔ l1.length = l2.length ∧ ∀ k, k ≤ l1.length → pos e1 l1 k ≤ pos e2 l2 k := by
  rw [leq_iff]
  constructor
  · rintro ⟨a1, a2, a3⟩
    refine ⟨a1, fun k hk => ?_⟩
    unfold pos
    by_cases hk0 : k = 0
    · rw [if_pos hk0, if_pos hk0]; exact a2
    · rw [if_neg hk0, if_neg hk0]; exact a3 _ (by omega)
  · rintro ⟨a1, a3⟩
    refine ⟨a1, by simpa [pos] using a3 0 (by omega), fun k hk => ?_⟩
    have := a3 (k + 1) (by omega)
    simpa [pos] using this

/-- ONE WAY BEHIND ANOTHER ONE -/
theorem goes_both {Lp ap Lq aq ea : Int} {lp lq la : List Int} {x y z : Int × List Int} {r : Way} (h1 : applyT Lp ap lp ea la = (x, 0)) (h2 : thenT Lp ap lp Lq aq lq = (r, 0)) (h3 : applyT Lq aq lq x.1 x.2 = (y, 0))
    (h4 : applyT r.leave r.add r.enter ea la = (z, 0)) (hp : lp.length ≤ 40) (ha : la.length ≤ 40) (bp : -9223372036854775808 ≤ Lp ∧ Lp ≤ 9223372036854775807) : y.1 = z.1 ∧ y.2 = z.2 := by
  obtain ⟨ex, lx⟩ := x
  obtain ⟨ey, ly⟩ := y
  obtain ⟨ez, lz⟩ := z
  obtain ⟨p0, p1, p2, p3⟩ := apply_ok h1
  obtain ⟨q0, q1, q2, q3⟩ := apply_ok h3
  obtain ⟨z0, z1, z2, z3⟩ := apply_ok h4
  simp only at q0 q1 q2 q3 z0 z1 z2 z3 ⊢
  unfold thenT at h2
  by_cases c1 : Lq < 0
  · omega
  rw [if_neg c1] at h2
  by_cases c2 : Lq < lp.length
  · rw [if_pos c2] at h2
    split at h2
    · simp at h2
    · simp only [Prod.mk.injEq, and_true] at h2
      subst h2
      simp only at z0 z1 z2 z3
      have ml := mid_length lp lq (lp.getD (lp.length - Lq.toNat - 1) 0 + aq) (lp.length - Lq.toNat - 1) (by omega)
      have hlen : ly.length = lz.length := by rw [q2, z2, p2, ml]; omega
      refine pos_ext hlen fun k hk => ?_
      rw [q3 k (by omega), z3 k (by rw [← hlen, q2] at z2; omega)]
      unfold goT
      by_cases k1 : k < la.length - Lp.toNat
      · rw [if_pos (by omega), if_pos k1, p3 k (by omega)]
        unfold goT
        rw [if_pos k1]
      · by_cases k2 : k = la.length - Lp.toNat
        · rw [if_pos (by omega), if_neg k1, if_pos k2, p3 k (by omega)]
          unfold goT
          rw [if_neg k1, if_pos k2]
        · rw [if_neg k1, if_neg k2, mid_getD _ _ _ _ _ (by omega)]
          by_cases k3 : k < lx.length - Lq.toNat
          · rw [if_pos k3, if_pos (by omega), p3 k (by omega)]
            unfold goT
            rw [if_neg k1, if_neg k2]
          · rw [if_neg k3]
            by_cases k4 : k = lx.length - Lq.toNat
            · rw [if_pos k4, if_neg (by omega), if_pos (by omega), p3 k (by omega)]
              unfold goT
              rw [if_neg k1, if_neg k2]
              congr 2; omega
            · rw [if_neg k4, if_neg (by omega), if_neg (by omega)]
              congr 1; omega
  · rw [if_neg c2] at h2
    by_cases c3 : Lq = lp.length
    · rw [if_pos c3] at h2
      split at h2
      · simp at h2
      · simp only [Prod.mk.injEq, and_true] at h2
        subst h2
        simp only at z0 z1 z2 z3
        have hlen : ly.length = lz.length := by rw [q2, z2, p2]; omega
        refine pos_ext hlen fun k hk => ?_
        rw [q3 k (by omega), z3 k (by omega)]
        unfold goT
        by_cases k1 : k < la.length - Lp.toNat
        · rw [if_pos (by omega), if_pos k1, p3 k (by omega)]
          unfold goT
          rw [if_pos k1]
        · by_cases k2 : k = la.length - Lp.toNat
          · rw [if_neg (by omega), if_pos (by omega), if_neg k1, if_pos k2, p3 k (by omega)]
            unfold goT
            rw [if_neg k1, if_pos k2]
            omega
          · rw [if_neg (by omega), if_neg (by omega), if_neg k1, if_neg k2]
            congr 1; omega
    · rw [if_neg c3] at h2
      simp only [Prod.mk.injEq, and_true] at h2
      subst h2
      have hw : wrap64 (wrap64 (Lp + Lq) - lp.length) = Lp + Lq - lp.length := by unfold wrap64; omega
      simp only [hw] at z0 z1 z2 z3
      have hlen : ly.length = lz.length := by rw [q2, z2, p2]; omega
      refine pos_ext hlen fun k hk => ?_
      rw [q3 k (by omega), z3 k (by omega)]
      have e1 : lx.length - Lq.toNat = la.length - (Lp + Lq - lp.length).toNat := by omega
      unfold goT
      rw [e1]
      by_cases k1 : k < la.length - (Lp + Lq - lp.length).toNat
      · rw [if_pos k1, if_pos k1, p3 k (by omega)]
        unfold goT
        rw [if_pos (by omega)]
      · rw [if_neg k1, if_neg k1]
        by_cases k2 : k = la.length - (Lp + Lq - lp.length).toNat
        · rw [if_pos k2, if_pos k2, p3 k (by omega)]
          unfold goT
          rw [if_pos (by omega)]
        · rw [if_neg k2, if_neg k2]

/-- A WAY THAT NEVER COMES BEHIND DOES NOT -/
theorem goes_never {Lp ap Lq aq ea : Int} {lp lq la : List Int} {x v : Int × List Int} (h1 : applyT Lp ap lp ea la = (x, 0)) (h2 : applyT Lq aq lq ea la = (v, 0)) (h : pathLeqT Lp ap lp Lq aq lq la.length = true) (ha : 0 ≤ ea) (hu : U32 la) : leqT x.1 x.2 v.1 v.2 = true := by
  obtain ⟨ex, lx⟩ := x
  obtain ⟨ev, lv⟩ := v
  obtain ⟨p0, p1, p2, p3⟩ := apply_ok h1
  obtain ⟨q0, q1, q2, q3⟩ := apply_ok h2
  unfold pathLeqT at h
  obtain ⟨-, -, -, -, -, -, -, b8, b9⟩ := of_decide_eq_true h
  have hpos : ∀ k, 0 ≤ pos ea la k := fun k => by
    unfold pos
    split
    · exact ha
    · exact (U32.at hu _).1
  refine pos_leq.2 ⟨by rw [p2, q2]; omega, fun k hk => ?_⟩
  simp only at hk p2 q2
  have hn := b9 k (by omega)
  unfold Never placeT at hn
  rw [p3 k (by omega), q3 k (by omega)]
  have hp := hpos k
  unfold goT
  by_cases k1 : k < la.length - Lp.toNat
  · rw [if_pos k1]
    rw [if_pos (show (k : Int) < la.length - Lp by omega)] at hn
    by_cases k2 : k < la.length - Lq.toNat
    · rw [if_pos k2]; exact Int.le_refl _
    · rw [if_neg k2]
      rw [if_neg (show ¬ (k : Int) < la.length - Lq by omega)] at hn
      by_cases k3 : k = la.length - Lq.toNat
      · rw [if_pos k3]
        rw [if_pos (show (k : Int) = la.length - Lq by omega)] at hn
        have := hn.1
        simp only at this
        omega
      · rw [if_neg (show ¬ (k : Int) = la.length - Lq by omega)] at hn
        simp at hn
  · rw [if_neg k1]
    rw [if_neg (show ¬ (k : Int) < la.length - Lp by omega)] at hn
    by_cases k3 : k = la.length - Lp.toNat
    · rw [if_pos k3]
      rw [if_pos (show (k : Int) = la.length - Lp by omega)] at hn
      by_cases k2 : k < la.length - Lq.toNat
      · rw [if_pos k2]
        rw [if_pos (show (k : Int) < la.length - Lq by omega)] at hn
        have := hn.1
        simp only at this
        omega
      · rw [if_neg k2]
        rw [if_neg (show ¬ (k : Int) < la.length - Lq by omega)] at hn
        by_cases k4 : k = la.length - Lq.toNat
        · rw [if_pos k4]
          rw [if_pos (show (k : Int) = la.length - Lq by omega)] at hn
          have := hn.1
          simp only at this
          omega
        · rw [if_neg (show ¬ (k : Int) = la.length - Lq by omega)] at hn
          simp at hn
    · rw [if_neg k3]
      rw [if_neg (show ¬ (k : Int) = la.length - Lp by omega)] at hn
      have e1 : ((k : Int) - (la.length - Lp) - 1).toNat = k - (la.length - Lp.toNat) - 1 := by omega
      rw [e1] at hn
      by_cases k2 : k < la.length - Lq.toNat
      · rw [if_pos k2]
        rw [if_pos (show (k : Int) < la.length - Lq by omega)] at hn
        have := hn.1
        simp only at this
        omega
      · rw [if_neg k2]
        rw [if_neg (show ¬ (k : Int) < la.length - Lq by omega)] at hn
        by_cases k4 : k = la.length - Lq.toNat
        · rw [if_pos k4]
          rw [if_pos (show (k : Int) = la.length - Lq by omega)] at hn
          have := hn.1
          simp only at this
          omega
        · rw [if_neg k4]
          rw [if_neg (show ¬ (k : Int) = la.length - Lq by omega)] at hn
          have e2 : ((k : Int) - (la.length - Lq) - 1).toNat = k - (la.length - Lq.toNat) - 1 := by omega
          rw [e2] at hn
          exact hn.1
end Go.Proofs.Yteklohamkmiphaa
namespace Go.Proofs.Yteklohamkmiphaa
open Go.RowKit

/-- what a step is, said of the graph alone -/
def Stp (g : Gr) (p t : Pt) (b : Way) : Prop := (p.o = true ∧ (p, t) ∈ g.edges ∧ b = idW) ∨ (p.o = false ∧ ∃ n x, g.nd p.n = some n ∧ x ∈ n.inner ∧ x.i = p.p ∧ t = ⟨p.n, true, x.o⟩ ∧ b = x.w)

theorem stp_of {g : Gr} {p : Pt} {m : Mv Pt Wid} (h : m ∈ g.mvs p) : Stp g p (g.tgt m) (g.mw m) := by
  unfold Gr.mvs at h
  by_cases ho : p.o = true
  · rw [if_pos ho] at h
    obtain ⟨e, he, rfl⟩ := List.mem_map.1 h
    have he := List.mem_filter.1 he
    have ep := of_decide_eq_true he.2
    exact .inl ⟨ho, by simp only [Gr.tgt]; rw [← ep]; exact he.1, rfl⟩
  · have ho : p.o = false := by simpa using ho
    rw [if_neg (by simp [ho])] at h
    cases hn : g.nd p.n with
    | none => rw [hn] at h; simp at h
    | some nd =>
      rw [hn] at h
      simp only at h
      obtain ⟨x, hx, rfl⟩ := List.mem_map.1 h
      have hx := List.mem_filter.1 hx
      obtain ⟨nm, n0, ng⟩ := Gr.nd_mem hn
      have hz := List.mem_zipIdx_iff_getElem?.1 hx.1
      have ei : g.inn (p.n.toNat, x.2) = x.1 := by
        unfold Gr.inn; simp only [ng, Option.bind_some, hz, Option.getD_some]
      refine .inr ⟨ho, nd, x.1, hn, List.mem_of_getElem? hz, of_decide_eq_true hx.2, ?_, ?_⟩
      · simp only [Gr.tgt, ei]; rw [show ((p.n.toNat : Nat) : Int) = p.n by omega]
      · simp only [Gr.mw, ei]
theorem stp_to {g : Gr} {p t : Pt} {b : Way} (h : Stp g p t b) : ∃ m, m ∈ g.mvs p ∧ g.tgt m = t ∧ g.mw m = b := by
  rcases h with ⟨ho, he, rfl⟩ | ⟨ho, nd, x, hn, hx, hi, rfl, rfl⟩
  · refine ⟨.e p t, ?_, rfl, rfl⟩
    unfold Gr.mvs
    rw [if_pos ho]
    exact List.mem_map.2 ⟨(p, t), List.mem_filter.2 ⟨he, by simp⟩, rfl⟩
  · obtain ⟨k, hk⟩ := List.getElem?_of_mem hx
    obtain ⟨nm, n0, ng⟩ := Gr.nd_mem hn
    have ei : g.inn (p.n.toNat, k) = x := by
      unfold Gr.inn; simp only [ng, Option.bind_some, hk, Option.getD_some]
    refine ⟨.w (p.n.toNat, k), ?_, ?_, ?_⟩
    · unfold Gr.mvs
      rw [if_neg (by simp [ho]), hn]
      exact List.mem_map.2 ⟨(x, k), List.mem_filter.2 ⟨List.mem_zipIdx_iff_getElem?.2 hk, by simp [hi]⟩, rfl⟩
    · simp only [Gr.tgt, ei]; rw [show ((p.n.toNat : Nat) : Int) = p.n by omega]
    · simp only [Gr.mw, ei]

theorem Route.go {g : Gr} {fr p t : Pt} {w b v : Way} (h : Route g fr p w) (s : Stp g p t b) (hv : thn w b = (v, 0)) : Route g fr t v := by
  obtain ⟨m, h1, h2, h3⟩ := stp_to s
  subst h2; subst h3
  exact .step h h1 hv
theorem found_iff {g : Gr} {fr : Pt} {st : Prop} {q : Pt} {v : Way} : Found g fr st q v ↔ (st ∧ q = fr ∧ v = idW) ∨ ∃ p w b, Route g fr p w ∧ Stp g p q b ∧ thn w b = (v, 0) := by
  unfold Found
  constructor
  · rintro (h | ⟨p, w, m, h1, h2, h3, rfl⟩)
    · exact .inl h
    · exact .inr ⟨p, w, _, h1, stp_of h2, h3⟩
  · rintro (h | ⟨p, w, b, h1, h2, h3⟩)
    · exact .inl h
    · obtain ⟨m, a1, a2, a3⟩ := stp_to h2
      exact .inr ⟨p, w, m, h1, a1, by rw [a3]; exact h3, a2.symm⟩

/-- alike, but for the order of edges and ways, and how often an edge stands -/
structure Like (g h : Gr) : Prop where
  len : g.nodes.length = h.nodes.length
  nd : ∀ (n : Nat) (a b : Nd), g.nodes[n]? = some a → h.nodes[n]? = some b → a.ins = b.ins ∧ a.outs = b.outs ∧ a.depth = b.depth ∧ a.inner.length = b.inner.length ∧ ∀ x, x ∈ a.inner ↔ x ∈ b.inner
  ed : ∀ e, e ∈ g.edges ↔ e ∈ h.edges

theorem Like.symm {g h : Gr} (L : Like g h) : Like h g := ⟨L.len.symm, fun n a b ha hb => by
  obtain ⟨a1, a2, a3, a4, a5⟩ := L.nd n b a hb ha
  exact ⟨a1.symm, a2.symm, a3.symm, a4.symm, fun x => (a5 x).symm⟩, fun e => (L.ed e).symm⟩

theorem Like.node {g h : Gr} (L : Like g h) {n : Int} {a : Nd} (ha : g.nd n = some a) : ∃ b, h.nd n = some b ∧ a.ins = b.ins ∧ a.outs = b.outs ∧ a.depth = b.depth ∧ a.inner.length = b.inner.length ∧ (∀ x, x ∈ a.inner ↔ x ∈ b.inner) ∧ a.turns = b.turns ∧ a.outDep = b.outDep := by
  obtain ⟨_, n0, ng⟩ := Gr.nd_mem ha
  have hl := (List.getElem?_eq_some_iff.1 ng).1
  rw [L.len] at hl
  have hb : h.nodes[n.toNat]? = some h.nodes[n.toNat] := List.getElem?_eq_getElem hl
  obtain ⟨a1, a2, a3, a4, a5⟩ := L.nd _ _ _ ng hb
  have ht : a.turns = h.nodes[n.toNat].turns := by unfold Nd.turns; rw [a1, a2, a4]
  refine ⟨_, by unfold Gr.nd; rw [if_pos n0]; exact hb, a1, a2, a3, a4, a5, ht, ?_⟩
  unfold Nd.outDep
  rw [← ht, a3]
  by_cases t : a.turns = true
  · rw [if_pos t, if_pos t]
    unfold Nd.turns at t
    have t := (of_decide_eq_true t).2.2
    have one : ∀ l : List Inn, l.length = 1 → ∃ x, l = [x] := fun l h => List.length_eq_one_iff.1 h
    obtain ⟨x, hx⟩ := one _ t
    obtain ⟨y, hy⟩ := one _ (a4.symm.trans t)
    have := (a5 x).1 (by rw [hx]; simp)
    rw [hy] at this
    simp at this
    rw [hx, hy, this]
  · rw [if_neg t, if_neg t]

theorem Like.dep {g h : Gr} (L : Like g h) (p : Pt) : g.dep p = h.dep p := by
  unfold Gr.dep
  cases ha : g.nd p.n with
  | none =>
    cases hb : h.nd p.n with
    | none => rfl
    | some b => obtain ⟨a, h1, _⟩ := L.symm.node hb; rw [h1] at ha; simp at ha
  | some a =>
    obtain ⟨b, h1, h2, h3, h4, _, _, _, h5⟩ := L.node ha
    rw [h1]
    simp only
    rw [h2, h3, h4, h5]
theorem Like.dp {g h : Gr} (L : Like g h) (p : Pt) : g.dp p = h.dp p := by unfold Gr.dp; rw [L.dep]
theorem Like.stp {g h : Gr} (L : Like g h) {p t : Pt} {b : Way} (s : Stp g p t b) : Stp h p t b := by
  rcases s with ⟨ho, he, rfl⟩ | ⟨ho, nd, x, hn, hx, hi, rfl, rfl⟩
  · exact .inl ⟨ho, (L.ed _).1 he, rfl⟩
  · obtain ⟨b, h1, _, _, _, _, h6, _⟩ := L.node hn
    exact .inr ⟨ho, b, x, h1, (h6 x).1 hx, hi, rfl, rfl⟩
theorem Like.route {g h : Gr} (L : Like g h) {fr p : Pt} {w : Way} (r : Route g fr p w) : Route h fr p w := by
  induction r with
  | nil => exact .nil
  | step _ hm hv ih => exact ih.go (L.stp (stp_of hm)) hv
theorem Like.found {g h : Gr} (L : Like g h) {fr q : Pt} {st : Prop} {v : Way} (f : Found g fr st q v) : Found h fr st q v := by
  rw [found_iff] at f ⊢
  rcases f with f | ⟨p, w, b, h1, h2, h3⟩
  · exact .inl f
  · exact .inr ⟨p, w, b, L.route h1, L.stp h2, h3⟩
theorem Like.tab {g h : Gr} (L : Like g h) {fr : Pt} {st : Prop} {K : Pt → List Way} (T : Tab g fr st K) : Tab h fr st K := by
  refine ⟨fun q w hw => L.found (T.rt q w hw), fun q w hw => ?_, fun q => ?_⟩
  · rw [← L.dp]; exact T.cl q w (L.symm.found hw)
  · rw [← L.dp]; exact T.an q
theorem Like.node_all {g h : Gr} (L : Like g h) (a : g.nodes.all nodeT = true) : h.nodes.all nodeT = true := by
  rw [List.all_eq_true] at a ⊢
  intro n hn
  obtain ⟨k, hk⟩ := List.getElem?_of_mem hn
  have hl := (List.getElem?_eq_some_iff.1 hk).1
  rw [← L.len] at hl
  have hg : g.nodes[k]? = some g.nodes[k] := List.getElem?_eq_getElem hl
  obtain ⟨a1, a2, a3, a4, a5⟩ := L.nd k _ _ hg hk
  have c := a _ (List.getElem_mem hl)
  unfold nodeT at c ⊢
  simp only [Bool.and_eq_true, List.all_eq_true] at c ⊢
  refine ⟨by rw [← a1, ← a2, ← a3, ← a4]; exact c.1, fun x hx => ?_⟩
  have := c.2 x ((a5 x).2 hx)
  unfold innT Nd.turns at this ⊢
  rw [← a1, ← a2, ← a3, ← a4]
  exact this
theorem Like.form {g h : Gr} (L : Like g h) (a : formT g = true) : formT h = true := by
  unfold formT at a ⊢
  simp only [Bool.and_eq_true] at a ⊢
  refine ⟨L.node_all a.1, ?_⟩
  have b := a.2
  rw [List.all_eq_true] at b ⊢
  intro e he
  have := b e ((L.ed e).2 he)
  unfold edgeT at this ⊢
  rw [← L.dep, ← L.dep]; exact this
theorem Like.cyc {g h : Gr} (L : Like g h) (c : Cyc g) : Cyc h := by
  obtain ⟨q, w, h1, h2, h3, h4⟩ := c
  exact ⟨q, w, h1, by rw [← L.dep]; exact h2, L.found h3, by rw [← L.dp]; exact h4⟩
theorem Like.check {g h : Gr} (L : Like g h) {e : Int} (c : CheckIs g e) : CheckIs h e := by
  have nf : formT g = false → formT h = false := fun a => Bool.eq_false_iff.2 fun b => by rw [L.symm.form b] at a; simp at a
  rcases c with ⟨h1, h2⟩ | ⟨h1, h2, h3⟩ | ⟨h1, h2, h3⟩
  · exact .inl ⟨nf h1, h2⟩
  · exact .inr (.inl ⟨L.form h1, L.cyc h2, h3⟩)
  · exact .inr (.inr ⟨L.form h1, fun c => h2 (L.symm.cyc c), h3⟩)
theorem Like.ways {g h : Gr} (L : Like g h) {fr tt : Pt} {l : List Way} {e : Int} (c : WaysIs g fr tt l e) : WaysIs h fr tt l e := by
  have pl : PlacesT g fr tt ↔ PlacesT h fr tt := by unfold PlacesT; rw [L.dep, L.dep]
  rcases c with ⟨h1, h2, h3⟩ | ⟨h1, h2, h3, h4⟩ | ⟨h1, h2, h3, K, h4, h5, h6⟩
  · exact .inl ⟨L.check h1, h2, h3⟩
  · exact .inr (.inl ⟨L.check h1, fun c => h2 (pl.2 c), h3, h4⟩)
  · exact .inr (.inr ⟨L.check h1, pl.1 h2, h3, K, L.tab h4, h5, h6⟩)

/-! ## a time along a route -/
theorem apply_some {d p e : Int} {w : Way} (h : GoodW d p w) {l : List Int} (hl : (l.length : Int) = d) (h0 : d - w.leave = 0 → e + w.add ≤ 18446744073709551615) (h1 : 0 < d - w.leave → pos e l (d - w.leave).toNat + w.add ≤ 4294967295) :
    ∃ x, applyT w.leave w.add w.enter e l = (x, 0) := by
  have l0 := h.l0; have l1 := h.l1; have pe := h.pe; have p3 := h.p3
  unfold applyT
  rw [if_neg (by omega)]
  unfold applyK
  by_cases hk : l.length - w.leave.toNat = 0
  · rw [if_pos hk, if_neg (by have := h0 (by omega); omega), if_neg (by omega)]
    exact ⟨_, rfl⟩
  · rw [if_neg hk]
    have := h1 (by omega)
    unfold pos at this
    rw [if_neg (by omega)] at this
    rw [show (d - w.leave).toNat - 1 = l.length - w.leave.toNat - 1 by omega] at this
    rw [if_neg (by omega), if_neg (by omega)]
    exact ⟨_, rfl⟩

theorem apply_at {d p e : Int} {w : Way} (h : GoodW d p w) {l : List Int} (hl : (l.length : Int) = d) {x : Int × List Int} (a : applyT w.leave w.add w.enter e l = (x, 0)) :
    (x.2.length : Int) = p ∧ ∀ k : Nat, (k : Int) ≤ p → pos x.1 x.2 k = if (k : Int) < d - w.leave then pos e l k else if (k : Int) = d - w.leave then pos e l k + w.add else (placeT w.leave w.add w.enter d k).2 := by
  have l0 := h.l0; have l1 := h.l1; have pe := h.pe
  obtain ⟨_, _, a3, a4⟩ := apply_ok (e' := x.1) (l' := x.2) a
  refine ⟨by omega, fun k hk => ?_⟩
  rw [a4 k (by omega)]
  unfold goT
  by_cases c1 : k < l.length - w.leave.toNat
  · rw [if_pos c1, if_pos (show (k : Int) < d - w.leave by omega)]
  · rw [if_neg c1, if_neg (show ¬ (k : Int) < d - w.leave by omega)]
    by_cases c2 : k = l.length - w.leave.toNat
    · rw [if_pos c2, if_pos (show (k : Int) = d - w.leave by omega)]
    · rw [if_neg c2, if_neg (show ¬ (k : Int) = d - w.leave by omega), placeT_gt (by omega)]
      simp only
      congr 1; omega
theorem apply_room {d p e : Int} {w : Way} (h : GoodW d p w) {l : List Int} (hl : (l.length : Int) = d) {x : Int × List Int} (a : applyT w.leave w.add w.enter e l = (x, 0)) : (d - w.leave = 0 → e + w.add ≤ 18446744073709551615) ∧ (0 < d - w.leave → pos e l (d - w.leave).toNat + w.add ≤ 4294967295) := by
  have l0 := h.l0; have l1 := h.l1
  unfold applyT at a
  rw [if_neg (by omega)] at a
  unfold applyK at a
  by_cases hk : l.length - w.leave.toNat = 0
  · rw [if_pos hk] at a
    split at a
    · simp at a
    · exact ⟨fun _ => by omega, fun c => by omega⟩
  · rw [if_neg hk] at a
    split at a
    · simp at a
    · refine ⟨fun c => by omega, fun c => ?_⟩
      unfold pos
      rw [if_neg (by omega), show (d - w.leave).toNat - 1 = l.length - w.leave.toNat - 1 by omega]
      omega

/-- ONE STEP ON: what it comes to is what the route's way does -/
theorem go_step {d p q e : Int} {w b : Way} (hw : GoodW d p w) (B : GoodB p q b) (bz : b.leave = p → b.add = 0) {l : List Int} (hl : (l.length : Int) = d) (u : U32 l) (he : 0 ≤ e) {x y : Int × List Int} (h1 : applyT w.leave w.add w.enter e l = (x, 0)) (h2 : applyT b.leave b.add b.enter x.1 x.2 = (y, 0)) :
    ∃ r, thn w b = (r, 0) ∧ GoodW d q r ∧ applyT r.leave r.add r.enter e l = (y, 0) := by
  have l0 := hw.l0; have l1 := hw.l1; have pe := hw.pe; have d3 := hw.d3; have p3 := hw.p3; have wa := hw.a1
  have b0 := B.b0; have b1 := B.b1; have c0 := B.c0; have c1 := B.c1; have qe := B.qe; have q3 := B.q3
  obtain ⟨x1, x2⟩ := apply_at hw hl h1
  obtain ⟨r1, r2⟩ := apply_room hw hl h1
  have gb : GoodW p q b := ⟨b0, b1, p3, c0, c1, B.u, by omega, q3⟩
  obtain ⟨s1, s2⟩ := apply_room gb x1 h2
  obtain ⟨c, hc⟩ : ∃ c : Nat, (c : Int) = p - b.leave := ⟨(p - b.leave).toNat, by omega⟩
  rw [← hc] at s1 s2
  have pc := hw.at _ c
  have xc := x2 c (by omega)
  have posn : ∀ k, 0 ≤ pos e l k := fun k => by
    unfold pos
    split
    · exact he
    · exact (U32.getD u _).1
  have pn := posn c
  have ok : (placeT w.leave w.add w.enter d c).2 + b.add ≤ 4294967295 := by
    by_cases cz : c = 0
    · rw [bz (by omega)]; omega
    · have := s2 (by omega)
      rw [show (c : Int).toNat = c by omega, xc] at this
      rcases Int.lt_trichotomy (c : Int) (d - w.leave) with k | k | k
      · rw [placeT_lt k]; simp only; omega
      · rw [placeT_eq k]; simp only
        rw [if_neg (by omega), if_pos k] at this; omega
      · rw [if_neg (by omega), if_neg (by omega)] at this; exact this
  have ok2 := (then_ok hw b0 b1 c1).2 (by rw [← hc]; exact ok)
  have hr : thn w b = ((thn w b).1, 0) := by
    have : (thn w b).2 = 0 := ok2
    rw [← this]
  obtain ⟨g1, g2, g3⟩ := then_at hw b0 b1 c0 c1 B.u (by omega) hr
  rw [← qe] at g1
  refine ⟨_, hr, g1, ?_⟩
  -- what it adds, and where
  have gl0 := g1.l0; have gl1 := g1.l1
  obtain ⟨k, hk⟩ : ∃ k : Nat, (k : Int) = d - (thn w b).1.leave := ⟨(d - (thn w b).1.leave).toNat, by omega⟩
  have ga := g3 k (by have := g1.pe; omega)
  rw [placeT_eq hk] at ga
  simp only at ga
  rw [← hk] at g2
  have room : (k = 0 → e + (thn w b).1.add ≤ 18446744073709551615) ∧ (0 < k → pos e l k + (thn w b).1.add ≤ 4294967295) := by
    rw [ga]
    rw [← hc] at g2 ⊢
    rcases Int.lt_trichotomy (c : Int) (d - w.leave) with m | m | m
    · -- it leaves more than what came before
      rw [if_pos m] at g2
      have e1 : k = c := by omega
      subst e1
      rw [if_neg (by omega), if_pos (by omega), placeT_lt (by omega)]
      simp only
      rw [if_pos m] at xc
      refine ⟨fun z => ?_, fun z => ?_⟩
      · have := s1 (by omega)
        have hb := bz (by omega)
        subst z
        unfold pos at xc
        simp at xc
        omega
      · have := s2 (by omega)
        rw [show (k : Int).toNat = k by omega, xc] at this
        omega
    · rw [if_neg (by omega)] at g2
      have e1 : k = c := by omega
      subst e1
      rw [if_neg (by omega), if_pos (by omega), placeT_eq (by omega)]
      simp only
      rw [if_neg (by omega), if_pos m] at xc
      refine ⟨fun z => ?_, fun z => ?_⟩
      · have hb := bz (by omega)
        have := r1 (by omega)
        omega
      · have := s2 (by omega)
        rw [show (k : Int).toNat = k by omega, xc] at this
        omega
    · rw [if_neg (by omega)] at g2
      rw [if_pos (by omega), placeT_eq (by omega)]
      simp only
      refine ⟨fun z => r1 (by omega), fun z => ?_⟩
      have := r2 (by omega)
      rw [← g2, show ((k : Nat) : Int).toNat = k by omega] at this
      exact this
  obtain ⟨z, hz⟩ := apply_some (e := e) g1 hl (fun z => room.1 (by omega)) (fun z => by rw [← hk, show ((k : Nat) : Int).toNat = k by omega]; exact room.2 (by omega))
  have := goes_both h1 hr h2 hz (by omega) (by omega) (by omega)
  rw [hz]
  obtain ⟨y1, y2⟩ := y
  obtain ⟨z1, z2⟩ := z
  simp only at this
  rw [this.1, this.2]

/-- WHAT A WAY LETS COME THAT IS NEVER BEHIND IS THERE, AND NOT BEHIND -/
theorem go_least {d p e : Int} {v w : Way} (hv : GoodW d p v) (hw : GoodW d p w) (h : pl v w d = true) {l : List Int} (hl : (l.length : Int) = d) (u : U32 l) (he : 0 ≤ e) (he2 : e ≤ 9223372036854775807) {x : Int × List Int} (h1 : applyT w.leave w.add w.enter e l = (x, 0)) :
    ∃ y, applyT v.leave v.add v.enter e l = (y, 0) ∧ leqT y.1 y.2 x.1 x.2 = true := by
  have v0 := hv.l0; have v1 := hv.l1; have va := hv.a0; have va1 := hv.a1
  have w0 := hw.l0; have w1 := hw.l1; have wa := hw.a0
  have vp := hv.pe; have wp := hw.pe
  obtain ⟨r1, r2⟩ := apply_room hw hl h1
  have ll := (leq_lab hv hw).1 h
  obtain ⟨k, hk⟩ : ∃ k : Nat, (k : Int) = d - v.leave := ⟨(d - v.leave).toNat, by omega⟩
  have l1 := ll k (by omega)
  have c1 := l1.1
  have c2 := l1.2
  simp only [wayLab] at c1 c2
  have c2 := c2 (by omega)
  rw [placeT_eq hk] at c1
  simp only at c1
  have hx : ∃ y, applyT v.leave v.add v.enter e l = (y, 0) := by
    refine apply_some hv hl (fun z => ?_) (fun z => ?_)
    · omega
    · rw [← hk, show ((k : Nat) : Int).toNat = k by omega]
      have uk : pos e l k ≤ 4294967295 := by
        unfold pos
        rw [if_neg (by omega)]
        exact (U32.getD u _).2
      rcases Int.lt_trichotomy (k : Int) (d - w.leave) with m | m | m
      · rw [placeT_lt m] at c1; simp only at c1; omega
      · rw [placeT_eq m] at c1
        simp only at c1
        have := r2 (by omega)
        rw [← m, show ((k : Nat) : Int).toNat = k by omega] at this
        omega
      · omega
  obtain ⟨y, hy⟩ := hx
  refine ⟨y, hy, goes_never hy h1 ?_ he u⟩
  rw [hl]; exact h
end Go.Proofs.Yteklohamkmiphaa
namespace Go.Proofs.Yteklohamkmiphaa
open Go.RowKit

instance : DecidableEq Way := fun a b => decidable_of_iff (a.leave = b.leave ∧ a.add = b.add ∧ a.enter = b.enter) ⟨fun h => by cases a; cases b; simp only at h; rw [h.1, h.2.1, h.2.2], fun h => by rw [h]; exact ⟨rfl, rfl, rfl⟩⟩

def tabK (T : List (Pt × Way)) (q : Pt) : List Way := (T.filter (fun x => decide (x.1 = q))).map (fun x => x.2)
/-- where a way leads on, there is something at least as early -/
def onB (g : Gr) (d : Int) (T : List (Pt × Way)) (p : Pt) (w : Way) : Bool := (g.mvs p).all fun m => decide ((thn w (g.mw m)).2 ≠ 0) || T.any fun x => decide (x.1 = g.tgt m) && pl x.2 (thn w (g.mw m)).1 d
def closedB (g : Gr) (fr : Pt) (st : Bool) (T : List (Pt × Way)) : Bool := (! st || T.any fun x => decide (x.1 = fr) && pl x.2 idW (g.dp fr)) && onB g (g.dp fr) T fr idW && T.all fun x => onB g (g.dp fr) T x.1 x.2
/-- each came from one before -/
def madeB (g : Gr) (fr : Pt) : List (Pt × Way) → List (Pt × Way) → Bool
  | _, [] => true
  | S, x :: T => (S.any fun s => (g.mvs s.1).any fun m => decide (g.tgt m = x.1) && decide (thn s.2 (g.mw m) = (x.2, 0))) && madeB g fr (x :: S) T
def apartB (d : Int) (T : List (Pt × Way)) : Bool := T.all fun x => T.all fun y => decide (x = y) || ! decide (x.1 = y.1) || ! pl x.2 y.2 d

theorem tabK_mem {T : List (Pt × Way)} {q : Pt} {w : Way} : w ∈ tabK T q ↔ (q, w) ∈ T := by
  unfold tabK
  rw [List.mem_map]
  constructor
  · rintro ⟨x, hx, rfl⟩
    have hx := List.mem_filter.1 hx
    have := of_decide_eq_true hx.2
    rw [← this]; exact hx.1
  · intro h
    exact ⟨(q, w), List.mem_filter.2 ⟨h, by simp⟩, rfl⟩

theorem closed_route {g : Gr} (G : GOK g) {fr : Pt} (hf : (g.dep fr).isSome) {st : Bool} {T : List (Pt × Way)} (c : closedB g fr st T = true) (hT : ∀ x, x ∈ T → (g.dep x.1).isSome ∧ GoodW (g.dp fr) (g.dp x.1) x.2) {p : Pt} {w : Way} (r : Route g fr p w) :
    (∀ m, m ∈ g.mvs p → ∀ v, thn w (g.mw m) = (v, 0) → ∃ x, x ∈ tabK T (g.tgt m) ∧ pl x v (g.dp fr) = true) := by
  unfold closedB at c
  simp only [Bool.and_eq_true] at c
  have on : ∀ {u : Way}, onB g (g.dp fr) T p u = true → GoodW (g.dp fr) (g.dp p) u → (g.dep p).isSome → pl u w (g.dp fr) = true → GoodW (g.dp fr) (g.dp p) w → ∀ m, m ∈ g.mvs p → ∀ v, thn w (g.mw m) = (v, 0) → ∃ x, x ∈ tabK T (g.tgt m) ∧ pl x v (g.dp fr) = true := by
    intro u h gu hp l gw m hm v hv
    obtain ⟨gb, gt⟩ := G.goodB hm hp
    obtain ⟨s, s1, s2, s3⟩ := gb.mono gu gw l hv
    unfold onB at h
    have := (List.all_eq_true.1 h) m hm
    rw [s1] at this
    simp only [ne_eq, not_true_eq_false, decide_false, Bool.false_or, List.any_eq_true, Bool.and_eq_true, decide_eq_true_eq] at this
    obtain ⟨x, x1, x2, x3⟩ := this
    refine ⟨x.2, tabK_mem.2 (by rw [← x2]; exact x1), ?_⟩
    have gx := (hT x x1).2
    rw [x2] at gx
    exact pl_trans gx s2 (gb.goes gw hv) x3 s3
  revert on
  induction r with
  | nil =>
    intro on
    have gi := (G.route hf (.nil : Route g fr fr idW)).2
    exact on c.1.2 gi hf (pl_refl gi) gi
  | @step p' w' w m' r' hm' hv' ih =>
    intro on
    have gr := G.route hf (.step r' hm' hv')
    have gr' := G.route hf r'
    obtain ⟨x, x1, x2⟩ := ih (fun {u} h gu hp l gw m hm v hv => by
      obtain ⟨gb, gt⟩ := G.goodB hm hp
      obtain ⟨s, s1, s2, s3⟩ := gb.mono gu gw l hv
      unfold onB at h
      have := (List.all_eq_true.1 h) m hm
      rw [s1] at this
      simp only [ne_eq, not_true_eq_false, decide_false, Bool.false_or, List.any_eq_true, Bool.and_eq_true, decide_eq_true_eq] at this
      obtain ⟨x, x1, x2, x3⟩ := this
      refine ⟨x.2, tabK_mem.2 (by rw [← x2]; exact x1), ?_⟩
      have gx := (hT x x1).2
      rw [x2] at gx
      exact pl_trans gx s2 (gb.goes gw hv) x3 s3) m' hm' w hv'
    have xT := tabK_mem.1 x1
    exact on ((List.all_eq_true.1 c.2) _ xT) (hT _ xT).2 gr.1 x2 gr.2

theorem closed_found {g : Gr} (G : GOK g) {fr : Pt} (hf : (g.dep fr).isSome) {st : Bool} {T : List (Pt × Way)} (c : closedB g fr st T = true) (hT : ∀ x, x ∈ T → (g.dep x.1).isSome ∧ GoodW (g.dp fr) (g.dp x.1) x.2) {q : Pt} {w : Way} (h : Found g fr (st = true) q w) :
    ∃ x, x ∈ tabK T q ∧ pl x w (g.dp fr) = true := by
  rcases h with ⟨hs, rfl, rfl⟩ | ⟨p, u, m, h1, h2, h3, rfl⟩
  · unfold closedB at c
    simp only [Bool.and_eq_true, hs, Bool.not_true, Bool.false_or, List.any_eq_true, decide_eq_true_eq] at c
    obtain ⟨x, x1, x2, x3⟩ := c.1.1
    exact ⟨x.2, tabK_mem.2 (by rw [← x2]; exact x1), x3⟩
  · exact closed_route G hf c hT h1 m h2 w h3

theorem made_route {g : Gr} {fr : Pt} : ∀ (S T : List (Pt × Way)), madeB g fr S T = true → (∀ x, x ∈ S → Route g fr x.1 x.2) → ∀ x, x ∈ T → ∃ p u m, Route g fr p u ∧ m ∈ g.mvs p ∧ thn u (g.mw m) = (x.2, 0) ∧ x.1 = g.tgt m
  | S, [], _, _, x, hx => by simp at hx
  | S, y :: T, h, hS, x, hx => by
    unfold madeB at h
    simp only [Bool.and_eq_true, List.any_eq_true, decide_eq_true_eq] at h
    obtain ⟨⟨s, s1, m, m1, m2, m3⟩, h2⟩ := h
    have hy : ∃ p u m, Route g fr p u ∧ m ∈ g.mvs p ∧ thn u (g.mw m) = (y.2, 0) ∧ y.1 = g.tgt m := ⟨s.1, s.2, m, hS s s1, m1, m3, m2.symm⟩
    rcases List.mem_cons.1 hx with rfl | hx
    · exact hy
    · refine made_route (y :: S) T h2 (fun z hz => ?_) x hx
      rcases List.mem_cons.1 hz with rfl | hz
      · obtain ⟨p, u, m, a1, a2, a3, a4⟩ := hy
        rw [a4]; exact .step a1 a2 a3
      · exact hS z hz

/-- a list that is closed, each of which came, none behind another: the table; the root comes first where it is asked for -/
theorem tab_of {g : Gr} (G : GOK g) {fr : Pt} (hf : (g.dep fr).isSome) {T : List (Pt × Way)} (c : closedB g fr true ((fr, idW) :: T) = true) (m : madeB g fr [(fr, idW)] T = true) (a : apartB (g.dp fr) ((fr, idW) :: T) = true) (nd : ((fr, idW) :: T).Nodup) :
    Tab g fr True (tabK ((fr, idW) :: T)) := by
  have fd : ∀ x, x ∈ (fr, idW) :: T → Found g fr True x.1 x.2 := by
    intro x hx
    rcases List.mem_cons.1 hx with rfl | hx
    · exact .inl ⟨trivial, rfl, rfl⟩
    · exact .inr (made_route _ T m (fun z hz => by simp at hz; subst hz; exact .nil) x hx)
  have hT : ∀ x, x ∈ (fr, idW) :: T → (g.dep x.1).isSome ∧ GoodW (g.dp fr) (g.dp x.1) x.2 := fun x hx => G.route hf (fd x hx).route
  refine ⟨fun q w hw => fd (q, w) (tabK_mem.1 hw), fun q w hw => ?_, fun q => ?_⟩
  · refine closed_found G hf c hT ?_
    rcases hw with ⟨_, h⟩ | h
    · exact .inl ⟨rfl, h⟩
    · exact .inr h
  · unfold apartB at a
    rw [List.all_eq_true] at a
    have key : ∀ x, x ∈ (fr, idW) :: T → ∀ y, y ∈ (fr, idW) :: T → x ≠ y → x.1 = y.1 → pl x.2 y.2 (g.dp fr) = false := by
      intro x hx y hy ne e
      have := (List.all_eq_true.1 (a x hx)) y hy
      simpa [ne, e] using this
    unfold tabK
    refine List.pairwise_map.2 ?_
    have np := (List.nodup_iff_pairwise_ne.1 nd).filter (fun x => decide (x.1 = q))
    refine np.imp_of_mem ?_
    intro x y hx hy hne
    have hx := List.mem_filter.1 hx
    have hy := List.mem_filter.1 hy
    have ex := of_decide_eq_true hx.2
    have ey := of_decide_eq_true hy.2
    exact ⟨key x hx.1 y hy.1 hne (by rw [ex, ey]), key y hy.1 x hx.1 (Ne.symm hne) (by rw [ex, ey])⟩

/-- the chapter's graph -/
def exG (a : Int) : Gr :=
  ⟨[⟨0, 1, 0, []⟩, ⟨1, 1, 0, [⟨0, 0, ⟨0, 0, [0]⟩⟩]⟩, ⟨2, 1, 1, [⟨0, 0, idW⟩, ⟨1, 0, idW⟩]⟩, ⟨1, 1, 1, [⟨0, 0, ⟨0, a, []⟩⟩]⟩, ⟨1, 1, 1, [⟨0, 0, ⟨1, 0, []⟩⟩]⟩, ⟨1, 0, 0, []⟩],
   [(⟨0, true, 0⟩, ⟨1, false, 0⟩), (⟨1, true, 0⟩, ⟨2, false, 0⟩), (⟨3, true, 0⟩, ⟨2, false, 1⟩), (⟨2, true, 0⟩, ⟨3, false, 0⟩), (⟨2, true, 0⟩, ⟨4, false, 0⟩), (⟨4, true, 0⟩, ⟨5, false, 0⟩)]⟩

theorem exG_32 {a : Int} (h0 : 0 ≤ a) (h1 : a ≤ 4294967295) : G32 (exG a) := by
  intro n hn x hx
  have z : ∀ y, y ∈ [(0 : Int)] → 0 ≤ y ∧ y ≤ 4294967295 := fun y hy => by simp at hy; omega
  unfold exG idW at hn
  simp only [List.mem_cons, List.not_mem_nil, or_false] at hn
  rcases hn with rfl | rfl | rfl | rfl | rfl | rfl <;> simp only [List.mem_cons, List.not_mem_nil, or_false] at hx
  · subst hx; exact ⟨by simp, by simp, z⟩
  · rcases hx with rfl | rfl <;> exact ⟨by simp, by simp, fun y hy => by simp at hy⟩
  · subst hx; exact ⟨h0, h1, fun y hy => by simp at hy⟩
  · subst hx; exact ⟨by simp, by simp, fun y hy => by simp at hy⟩

def exT1 : List (Pt × Way) := [(⟨1, false, 0⟩, idW), (⟨1, true, 0⟩, ⟨0, 0, [0]⟩), (⟨2, false, 0⟩, ⟨0, 0, [0]⟩), (⟨2, true, 0⟩, ⟨0, 0, [0]⟩), (⟨3, false, 0⟩, ⟨0, 0, [0]⟩), (⟨4, false, 0⟩, ⟨0, 0, [0]⟩), (⟨3, true, 0⟩, ⟨0, 0, [1]⟩), (⟨4, true, 0⟩, idW), (⟨2, false, 1⟩, ⟨0, 0, [1]⟩), (⟨5, false, 0⟩, idW)]
def exT2 : List (Pt × Way) := [(⟨3, false, 0⟩, idW), (⟨4, false, 0⟩, idW), (⟨3, true, 0⟩, ⟨0, 1, []⟩), (⟨4, true, 0⟩, ⟨1, 0, []⟩), (⟨2, false, 1⟩, ⟨0, 1, []⟩), (⟨5, false, 0⟩, ⟨1, 0, []⟩)]

theorem exG1_ok : formT (exG 1) = true := by decide +kernel
theorem exG0_ok : formT (exG 0) = true := by decide +kernel
theorem ex_tab1 : Tab (exG 1) ⟨0, true, 0⟩ True (tabK ((⟨0, true, 0⟩, idW) :: exT1)) :=
  tab_of (formT_ok exG1_ok (exG_32 (by decide +kernel) (by decide +kernel))) (by decide +kernel) (by decide +kernel) (by decide +kernel) (by decide +kernel) (by decide +kernel)
theorem ex_tab2 : Tab (exG 1) ⟨2, true, 0⟩ True (tabK ((⟨2, true, 0⟩, idW) :: exT2)) :=
  tab_of (formT_ok exG1_ok (exG_32 (by decide +kernel) (by decide +kernel))) (by decide +kernel) (by decide +kernel) (by decide +kernel) (by decide +kernel) (by decide +kernel)
end Go.Proofs.Yteklohamkmiphaa
namespace Go.Proofs.Yteklohamkmiphaa
open Go.RowKit

theorem no_cyc {g : Gr} (G : GOK g) (Ts : Pt → List (Pt × Way)) (h : ∀ q, q ∈ g.ports → (g.dep q).isSome = true → closedB g q false (Ts q) = true ∧ madeB g q [(q, idW)] (Ts q) = true ∧ ((tabK (Ts q) q).all fun x => ! pl x idW (g.dp q)) = true) : ¬ Cyc g := by
  rintro ⟨q, w, h1, h2, h3, h4⟩
  obtain ⟨c, m, a⟩ := h q (G.mem_ports h2 h1) h2
  have hT : ∀ x, x ∈ Ts q → (g.dep x.1).isSome ∧ GoodW (g.dp q) (g.dp x.1) x.2 := fun x hx => by
    obtain ⟨p, u, m', a1, a2, a3, a4⟩ := made_route _ _ m (fun z hz => by simp at hz; subst hz; exact .nil) x hx
    rw [a4]
    exact G.route h2 (.step a1 a2 a3)
  obtain ⟨x, x1, x2⟩ := closed_found G h2 c hT (q := q) (w := w) (by
    rcases h3 with ⟨f, _⟩ | h3
    · exact f.elim
    · exact .inr h3)
  have gx := (hT _ (tabK_mem.1 x1)).2
  have gw := (G.route h2 h3.route).2
  have gi := (G.route h2 (.nil : Route g q q idW)).2
  have := (List.all_eq_true.1 a) x x1
  rw [pl_trans gx gw gi x2 h4] at this
  simp at this

def exTs (q : Pt) : List (Pt × Way) :=
  if q = ⟨1, false, 0⟩ then [(⟨1, true, 0⟩, ⟨0, 0, [0]⟩), (⟨2, false, 0⟩, ⟨0, 0, [0]⟩), (⟨2, true, 0⟩, ⟨0, 0, [0]⟩), (⟨3, false, 0⟩, ⟨0, 0, [0]⟩), (⟨4, false, 0⟩, ⟨0, 0, [0]⟩), (⟨3, true, 0⟩, ⟨0, 0, [1]⟩), (⟨4, true, 0⟩, idW), (⟨2, false, 1⟩, ⟨0, 0, [1]⟩), (⟨5, false, 0⟩, idW)]
  else if q = ⟨2, false, 0⟩ ∨ q = ⟨2, false, 1⟩ then [(⟨2, true, 0⟩, idW), (⟨3, false, 0⟩, idW), (⟨4, false, 0⟩, idW), (⟨3, true, 0⟩, ⟨0, 1, []⟩), (⟨4, true, 0⟩, ⟨1, 0, []⟩), (⟨2, false, 1⟩, ⟨0, 1, []⟩), (⟨5, false, 0⟩, ⟨1, 0, []⟩)]
  else if q = ⟨3, false, 0⟩ then [(⟨3, true, 0⟩, ⟨0, 1, []⟩), (⟨2, false, 1⟩, ⟨0, 1, []⟩), (⟨2, true, 0⟩, ⟨0, 1, []⟩), (⟨3, false, 0⟩, ⟨0, 1, []⟩), (⟨4, false, 0⟩, ⟨0, 1, []⟩), (⟨4, true, 0⟩, ⟨1, 0, []⟩), (⟨5, false, 0⟩, ⟨1, 0, []⟩)]
  else if q = ⟨4, false, 0⟩ then [(⟨4, true, 0⟩, ⟨1, 0, []⟩), (⟨5, false, 0⟩, ⟨1, 0, []⟩)]
  else []

theorem exG1_cyc : ¬ Cyc (exG 1) := no_cyc (formT_ok exG1_ok (exG_32 (by decide +kernel) (by decide +kernel))) exTs (by decide +kernel)
theorem exG1_check : CheckIs (exG 1) 0 := .inr (.inr ⟨exG1_ok, exG1_cyc, rfl⟩)
theorem exG0_cyc : Cyc (exG 0) := by
  obtain ⟨p, u, m, a1, a2, a3, a4⟩ := made_route (g := exG 0) (fr := ⟨2, false, 1⟩) [(⟨2, false, 1⟩, idW)] [(⟨2, true, 0⟩, idW), (⟨3, false, 0⟩, idW), (⟨3, true, 0⟩, idW), (⟨2, false, 1⟩, idW)] (by decide +kernel) (fun z hz => by simp at hz; subst hz; exact .nil) (⟨2, false, 1⟩, idW) (by simp)
  exact ⟨⟨2, false, 1⟩, idW, rfl, by decide +kernel, .inr ⟨p, u, m, a1, a2, a3, a4⟩, by decide +kernel⟩
theorem exG0_check : CheckIs (exG 0) 61 := .inr (.inl ⟨exG0_ok, exG0_cyc, rfl⟩)
theorem exG1_ways1 {l : List Way} {e : Int} (h : WaysIs (exG 1) ⟨0, true, 0⟩ ⟨5, false, 0⟩ l e) : l = [idW] ∧ e = 0 :=
  WaysIs.unique (exG_32 (by decide +kernel) (by decide +kernel)) h (.inr (.inr ⟨exG1_check, by unfold PlacesT; decide +kernel, rfl, _, ex_tab1, by decide +kernel, by decide +kernel⟩))
theorem exG1_ways2 {l : List Way} {e : Int} (h : WaysIs (exG 1) ⟨2, true, 0⟩ ⟨2, false, 1⟩ l e) : l = [⟨0, 1, []⟩] ∧ e = 0 :=
  WaysIs.unique (exG_32 (by decide +kernel) (by decide +kernel)) h (.inr (.inr ⟨exG1_check, by unfold PlacesT; decide +kernel, rfl, _, ex_tab2, by decide +kernel, by decide +kernel⟩))
end Go.Proofs.Yteklohamkmiphaa
namespace Go.Proofs.Yteklohamkmiphaa
open Go.RowKit

/-- places that are reached by one step at least -/
inductive Reach (g : Gr) : Pt → Pt → Prop
  | one {p q : Pt} {b : Way} : Stp g p q b → Reach g p q
  | more {p q r : Pt} {b : Way} : Reach g p q → Stp g q r b → Reach g p r
theorem Reach.trans {g : Gr} {p q r : Pt} (h : Reach g p q) (k : Reach g q r) : Reach g p r := by
  induction k with
  | one s => exact .more h s
  | more _ s ih => exact .more ih s
theorem Reach.first {g : Gr} {p r : Pt} (h : Reach g p r) : ∃ q b, Stp g p q b ∧ (q = r ∨ Reach g q r) := by
  induction h with
  | one s => exact ⟨_, _, s, .inl rfl⟩
  | more _ s ih =>
    obtain ⟨q, b, h1, h2⟩ := ih
    refine ⟨q, b, h1, .inr ?_⟩
    rcases h2 with rfl | h2
    · exact .one s
    · exact .more h2 s
theorem Route.reach {g : Gr} {fr q : Pt} {w : Way} (h : Route g fr q w) : q = fr ∨ Reach g fr q := by
  induction h with
  | nil => exact .inl rfl
  | step _ hm _ ih =>
    right
    rcases ih with rfl | ih
    · exact .one (stp_of hm)
    · exact .more ih (stp_of hm)
theorem Found.reach {g : Gr} {fr q : Pt} {w : Way} (h : Found g fr False q w) : Reach g fr q := by
  rcases h with ⟨f, _⟩ | ⟨p, u, m, h1, h2, _, rfl⟩
  · exact f.elim
  · rcases h1.reach with rfl | h1
    · exact .one (stp_of h2)
    · exact .more h1 (stp_of h2)

/-- how often a place is among these that are left -/
def inLeft (left : Pt → Bool) (l : List Pt) : Nat := (l.filter left).length
theorem inLeft_drop (left : Pt → Bool) (p : Pt) (hp : left p = true) (l : List Pt) : inLeft left l = inLeft (fun x => left x && ! decide (x = p)) l + l.count p := by
  unfold inLeft
  induction l with
  | nil => rfl
  | cons a l ih =>
    by_cases h : a = p
    · subst h
      rw [List.filter_cons_of_pos hp, List.filter_cons_of_neg (by simp), List.length_cons, List.count_cons_self, ih]; omega
    · rw [List.count_cons_of_ne (Ne.symm (fun e => h e.symm))]
      cases hl : left a
      · rw [List.filter_cons_of_neg (by simp [hl]), List.filter_cons_of_neg (by simp [hl]), ih]
      · rw [List.filter_cons_of_pos hl, List.filter_cons_of_pos (by simp [hl, h]), List.length_cons, List.length_cons, ih]; omega

/-- what a sift keeps: the places of a round stay, and are counted often enough -/
structure SiftI (nxt : Pt → List Pt) (C : Pt → Prop) (left : Pt → Bool) (cnt : Pt → Int) (rem : List Pt) : Prop where
  st : ∀ c, C c → left c = true
  ct : ∀ c, C c → (inLeft left (nxt c) : Int) + rem.count c ≤ cnt c
theorem SiftI.pos {nxt : Pt → List Pt} {C : Pt → Prop} {left : Pt → Bool} {cnt : Pt → Int} {rem : List Pt} (h : SiftI nxt C left cnt rem) (hn : ∀ c, C c → ∃ x, x ∈ nxt c ∧ C x) {c : Pt} (hc : C c) : 1 ≤ cnt c := by
  obtain ⟨x, x1, x2⟩ := hn c hc
  have h1 := h.ct c hc
  have h2 : 0 < inLeft left (nxt c) := by
    unfold inLeft
    exact List.length_pos_iff.2 (List.ne_nil_of_mem (List.mem_filter.2 ⟨x1, h.st x x2⟩))
  omega
theorem SiftI.drop {nxt prv : Pt → List Pt} {C : Pt → Prop} {left : Pt → Bool} {cnt : Pt → Int} (h : SiftI nxt C left cnt []) (tp : ∀ p q, (prv p).count q = (nxt q).count p) {p : Pt} (hp : left p = true) (hc : ¬ C p) : SiftI nxt C (fun x => left x && ! decide (x = p)) cnt (prv p) := by
  refine ⟨fun c h1 => ?_, fun c h1 => ?_⟩
  · have : c ≠ p := fun e => hc (e ▸ h1)
    simp [h.st c h1, this]
  · have h2 := h.ct c h1
    have h3 := inLeft_drop left p hp (nxt c)
    rw [tp]
    simp at h2
    omega
theorem SiftI.dec {nxt : Pt → List Pt} {C : Pt → Prop} {left : Pt → Bool} {cnt : Pt → Int} {q : Pt} {rem : List Pt} (h : SiftI nxt C left cnt (q :: rem)) {cnt' : Pt → Int} (h1 : cnt' q = cnt q - 1) (h2 : ∀ p, p ≠ q → cnt' p = cnt p) : SiftI nxt C left cnt' rem := by
  refine ⟨h.st, fun c hc => ?_⟩
  have := h.ct c hc
  by_cases e : c = q
  · subst e
    rw [List.count_cons_self] at this
    rw [h1]; omega
  · rw [List.count_cons_of_ne (fun x => e x.symm)] at this
    rw [h2 c e]; exact this
end Go.Proofs.Yteklohamkmiphaa
namespace Go.Proofs.Yteklohamkmiphaa
open Go.RowKit

class WRel (R : World → World → Prop) : Prop where
  refl : ∀ w, R w w
  trans : ∀ {a b c}, R a b → R b c → R a c
/-- the worlds that have come of w, as R says -/
structure Zt (R : World → World → Prop) (w : World) where
  W : World
  x : R w W
instance Zt.any (R : World → World → Prop) [h : WRel R] (w : World) : Nonempty (Zt R w) := ⟨⟨w, h.refl w⟩⟩
section
variable {P : Program} {ops : Array Oper} {Q : Exit → Act → World → Prop} {bs : Array Nat} {R : World → World → Prop}
/-- whatever order is picked from here on, and operations of the set X at most make new memory -/
def wpXR (R : World → World → Prop) (P : Program) (ops : Array Oper) (Q : Exit → Act → World → Prop) (X : Nat → Bool) : Nat → Array Bool → Act → World → Prop
  | 0, listed, a, w => Region.ready .any ops listed = [] ∧ Q .normal a w
  | fuel + 1, listed, a, w =>
    (Region.ready .any ops listed = [] → Q .normal a w) ∧
    ∀ i ∈ Region.ready .any ops listed, wpOp P ops Q i (fun a' w' => (X i = true → R w w') ∧ wpXR R P ops Q X fuel (listed.setIfInBounds i true) a' w') a w

theorem wpAny_of_XR {X : Nat → Bool} : ∀ (fuel : Nat) (listed : Array Bool) (a : Act) (w : World), wpXR R P ops Q X fuel listed a w → wpAny P .any ops Q fuel listed a w
  | 0, _, _, _, h => h
  | fuel + 1, _, _, _, h => ⟨h.1, fun i hi => wpOp_mono (fun a' w' h' => wpAny_of_XR fuel _ a' w' h'.2) (h.2 i hi)⟩

theorem wpX_doneR {X : Nat → Bool} {listed : Array Bool} {a : Act} {w : World} (hr : Region.ready .any ops listed = []) (h : Q .normal a w) : ∀ fuel, wpXR R P ops Q X fuel listed a w
  | 0 => ⟨hr, h⟩
  | _ + 1 => ⟨fun _ => h, by rw [hr]; simp⟩

theorem yields_laterR [WRel R] {o : Oper} {v : Value} {a : Act} {w w' : World} (h : YieldsIf P ops (R w) o v a) (x : R w w') : YieldsIf P ops (R w') o v a :=
  h.imp (fun ⟨h1, h2⟩ => ⟨h1, fun u hu => h2 u (WRel.trans x hu)⟩) id

theorem wpX_firstR [WRel R] {X : Nat → Bool} (hok : ancOkB ops bs = true) {i : Nat} {oi : Oper} {v : Value} (hi : ops[i]? = some oi) (hsel : ∀ (j : Nat) (o : Oper) cs b, ops[j]? = some o → o.op ≠ .select cs b)
    (hQ : ∀ c a d v w, Q (.panic c) (a.put d v) w → Q (.panic c) a w) :
    ∀ (fuel : Nat) (listed : Array Bool) (a : Act) (w : World), Closed ops bs listed →
      (∀ j oj, ops[j]? = some oj → j ≠ i → listed.getD j true = false → ancB ops bs i j = false → oi.apart ops oj = true ∧ X j = true) →
      i ∈ Region.ready .any ops listed → YieldsIf P ops (R w) oi v a →
      wpXR R P ops Q X fuel (listed.setIfInBounds i true) (a.put oi.dst v) w → wpXR R P ops Q X (fuel + 1) listed a w := by
  intro fuel
  induction fuel with
  | zero =>
    intro listed a w hcl _ hr hy H
    refine ⟨fun h => (by rw [h] at hr; cases hr), fun j hj => ?_⟩
    by_cases hji : j = i
    · subst hji; exact hy.wpOp hi (WRel.refl (R := R) w) ⟨fun _ => WRel.refl (R := R) w, H⟩
    · have := ready_mono hj hji
      rw [H.1] at this
      cases this
  | succ fuel ih =>
    intro listed a w hcl hfree hr hy H
    refine ⟨fun h => (by rw [h] at hr; cases hr), fun j hj => ?_⟩
    by_cases hji : j = i
    · subst hji; exact hy.wpOp hi (WRel.refl (R := R) w) ⟨fun _ => WRel.refl (R := R) w, H⟩
    · have h1 := H.2 j (ready_mono hj hji)
      obtain ⟨hjun, oj, hoj, hall⟩ := mem_ready.1 hj
      have hiun := (mem_ready.1 hr).1
      have hnot : ancB ops bs i j = false := by
        cases hb : ancB ops bs i j with
        | false => rfl
        | true =>
          have h2 := ready_anc hok hcl hj hb
          rcases Nat.lt_or_ge i listed.size with h' | h'
          · simp [h'] at h2 hiun; rw [hiun] at h2; cases h2
          · simp [Array.getElem?_eq_none h'] at h2
      obtain ⟨hap, hX⟩ := hfree j oj hoj hji hjun hnot
      have h2 := wpOp_putIf hoj hap (fun cs b => hsel i oi cs b hi) (fun cs b => hsel j oj cs b hoj) (fun c a w => hQ c a _ _ w) hy h1
      have hfree' : ∀ k ok, ops[k]? = some ok → k ≠ i → (listed.setIfInBounds j true).getD k true = false → ancB ops bs i k = false → oi.apart ops ok = true ∧ X k = true := fun k ok hk hki hun hno => by
        refine hfree k ok hk hki ?_ hno
        by_cases hjk : j = k
        · subst hjk; exact hjun
        · rw [getD_set_ne true hjk] at hun; exact hun
      refine wpOp_mono (fun a' w' h3 => ⟨h3.2.1, ih (listed.setIfInBounds j true) a' w' (hcl.add hok hj) hfree' (ready_mono hr (Ne.symm hji)) (yields_laterR h3.1 (h3.2.1 hX)) ?_⟩) h2
      rw [Array.setIfInBounds_comm _ _ hji]
      exact h3.2.2

theorem wpX_first_pureR [WRel R] {X : Nat → Bool} (hok : ancOkB ops bs = true) {i : Nat} {oi : Oper} {v : Value} (hi : ops[i]? = some oi) (hsel : ∀ (j : Nat) (o : Oper) cs b, ops[j]? = some o → o.op ≠ .select cs b)
    (hQ : ∀ c a d v w, Q (.panic c) (a.put d v) w → Q (.panic c) a w) :
    ∀ (fuel : Nat) (listed : Array Bool) (a : Act) (w : World), Closed ops bs listed →
      (∀ j oj, ops[j]? = some oj → j ≠ i → listed.getD j true = false → ancB ops bs i j = false → oi.apart ops oj = true) →
      i ∈ Region.ready .any ops listed → YieldsIf P ops (fun _ => True) oi v a →
      wpXR R P ops Q X fuel (listed.setIfInBounds i true) (a.put oi.dst v) w → wpXR R P ops Q X (fuel + 1) listed a w := by
  intro fuel
  induction fuel with
  | zero =>
    intro listed a w hcl _ hr hy H
    refine ⟨fun h => (by rw [h] at hr; cases hr), fun j hj => ?_⟩
    by_cases hji : j = i
    · subst hji; exact hy.wpOp hi trivial ⟨fun _ => WRel.refl (R := R) w, H⟩
    · have := ready_mono hj hji
      rw [H.1] at this
      cases this
  | succ fuel ih =>
    intro listed a w hcl hfree hr hy H
    refine ⟨fun h => (by rw [h] at hr; cases hr), fun j hj => ?_⟩
    by_cases hji : j = i
    · subst hji; exact hy.wpOp hi trivial ⟨fun _ => WRel.refl (R := R) w, H⟩
    · have h1 := H.2 j (ready_mono hj hji)
      obtain ⟨hjun, oj, hoj, hall⟩ := mem_ready.1 hj
      have hiun := (mem_ready.1 hr).1
      have hnot : ancB ops bs i j = false := by
        cases hb : ancB ops bs i j with
        | false => rfl
        | true =>
          have h2 := ready_anc hok hcl hj hb
          rcases Nat.lt_or_ge i listed.size with h' | h'
          · simp [h'] at h2 hiun; rw [hiun] at h2; cases h2
          · simp [Array.getElem?_eq_none h'] at h2
      have hap := hfree j oj hoj hji hjun hnot
      have h2 := wpOp_putIf hoj hap (fun cs b => hsel i oi cs b hi) (fun cs b => hsel j oj cs b hoj) (fun c a w => hQ c a _ _ w) hy h1
      have hfree' : ∀ k ok, ops[k]? = some ok → k ≠ i → (listed.setIfInBounds j true).getD k true = false → ancB ops bs i k = false → oi.apart ops ok = true := fun k ok hk hki hun hno => by
        refine hfree k ok hk hki ?_ hno
        by_cases hjk : j = k
        · subst hjk; exact hjun
        · rw [getD_set_ne true hjk] at hun; exact hun
      refine wpOp_mono (fun a' w' h3 => ⟨h3.2.1, ih (listed.setIfInBounds j true) a' w' (hcl.add hok hj) hfree' (ready_mono hr (Ne.symm hji)) h3.1 ?_⟩) h2
      rw [Array.setIfInBounds_comm _ _ hji]
      exact h3.2.2

/-! #### the walk in the fixed order: 'flo': operations that only read; 'ext': one that may make new memory; 'one': one that is alone; 'both': either of two comes up -/
/-- b: the world of which the facts at hand speak; what is at hand has grown out of it -/
def ordWalkR (R : World → World → Prop) (P : Program) (ops : Array Oper) (Q : Exit → Act → World → Prop) : Plan → World → Act → World → Prop
  | .fin, _, a, w => Q .normal a w
  | .flo l r, b, a, w => wpQuiet P ops (fun w' => ∃ y : Zt R b, w' = y.W) (fun a' => ordWalkR R P ops Q r b a' w) (pickOps ops l) a
  | .pur l r, b, a, w => wpQuiet P ops (fun _ => True) (fun a' => ordWalkR R P ops Q r b a' w) (pickOps ops l) a
  | .ext i r, b, a, w => wpList P ops (Exit.then (fun a' w' => R w w' ∧ ordWalkR R P ops Q r b a' w') Q) (pickOps ops [i]) a w
  | .one i r, _, a, w => wpList P ops (Exit.then (fun a' w' => ordWalkR R P ops Q r w' a' w') Q) (pickOps ops [i]) a w
  | .both i j r q, b, a, w => wpList P ops (Exit.then (fun a' w' => R w w' ∧ ordWalkR R P ops Q r b a' w') Q) (pickOps ops [i]) a w ∧ wpList P ops (Exit.then (fun a' w' => R w w' ∧ ordWalkR R P ops Q q b a' w') Q) (pickOps ops [j]) a w

theorem quiet_yieldsR {o : Oper} {a : Act} {w : World} {K : Act → Prop} (ho : isFlo o.op = true) (h : o.quiet P a (fun w' => ∃ y : Zt R w, w' = y.W) K) :
    ∃ v, (∀ u, R w u → (execOp a.eval o).run P u = .ok (.value v) u) ∧ K (a.put o.dst v) := by
  obtain ⟨v, h1, h2⟩ := h
  refine ⟨v, fun u hu => ?_, h2⟩
  have h3 := h1 u ⟨⟨u, hu⟩, rfl⟩
  unfold Oper.quietAt at h3
  cases hr : (execOp a.eval o).run P u with
  | ok n u' =>
    rw [hr] at h3
    obtain ⟨x, rfl⟩ := flo_value ho hr
    obtain ⟨e1, e2⟩ := h3
    rw [e1, e2]
  | halt x u' => rw [hr] at h3; exact h3.elim

theorem X_of_ordR [WRel R] (hok : ancOkB ops bs = true) (hsel : Region.noSelect ops = true) (hQ : ∀ c a d v w, Q (.panic c) (a.put d v) w → Q (.panic c) a w) (es : List Nat) :
    ∀ (p : Plan) (b : World) (listed : Array Bool) (a : Act) (w : World) (fuel : Nat), R b w → total p ≤ fuel → Closed ops bs listed → ordB ops bs es p listed = true → ordWalkR R P ops Q p b a w →
      wpXR R P ops Q (inX ops es) fuel listed a w := by
  intro p
  induction p with
  | fin =>
    intro b listed a w fuel _ _ _ hB h
    exact wpX_doneR (by simpa [ordB] using hB) h fuel
  | flo l r ih =>
    induction l with
    | nil =>
      intro b listed a w fuel hx hf hc hB h
      refine ih b listed a w fuel hx (by simpa [total] using hf) hc (by simpa [ordB, flosB, listAll] using hB) ?_
      simpa [ordWalkR, pickOps, wpQuiet] using h
    | cons i l ihl =>
      intro b listed a w fuel hx hf hc hB h
      simp only [ordB, flosB, listAll, Bool.and_eq_true] at hB
      obtain ⟨⟨hi, hl⟩, hr⟩ := hB
      cases ho : ops[i]? with
      | none => simp [floB, ho] at hi
      | some oi =>
        simp only [floB, ho, Bool.and_eq_true] at hi
        obtain ⟨⟨hflo, hrd⟩, hfr⟩ := hi
        have hrd' : i ∈ Region.ready .any ops listed := by simpa using hrd
        obtain ⟨fuel, rfl⟩ : ∃ f, fuel = f + 1 := ⟨fuel - 1, by simp [total] at hf; omega⟩
        have hfree : ∀ j oj, ops[j]? = some oj → j ≠ i → listed.getD j true = false → ancB ops bs i j = false → oi.apart ops oj = true ∧ inX ops es j = true := by
          intro j oj hj hne hun hno
          have := List.all_eq_true.1 hfr j (List.mem_range.2 (Array.getElem?_eq_some_iff.1 hj).1)
          simpa [hne, hun, hno, hj] using this
        have hp : pickOps ops (i :: l) = oi :: pickOps ops l := by simp [pickOps, ho]
        simp only [ordWalkR, hp] at h
        unfold wpQuiet at h
        have go : ∀ v, YieldsIf P ops (R w) oi v a → wpQuiet P ops (fun w' => ∃ y : Zt R b, w' = y.W) (fun a' => ordWalkR R P ops Q r b a' w) (pickOps ops l) (a.put oi.dst v) → wpXR R P ops Q (inX ops es) (fuel + 1) listed a w := by
          intro v hy hk
          refine wpX_firstR hok ho (Region.noSelect_spec hsel) hQ fuel listed a w hc hfree hrd' hy ?_
          refine ihl b (listed.setIfInBounds i true) (a.put oi.dst v) w fuel hx (by simp [total] at hf ⊢; omega) (hc.add hok hrd') ?_ ?_
          · simp only [ordB, Bool.and_eq_true]; exact ⟨hl, hr⟩
          · simpa only [ordWalkR] using hk
        split at h
        · rename_i hw
          obtain ⟨v, hv, hk⟩ := quiet_yieldsR hflo h
          exact go v (.inl ⟨hw, fun u hu => hv u (WRel.trans hx hu)⟩) hk
        · rename_i hw
          exact go undef (.inr ⟨by simpa using hw, rfl⟩) h
  | pur l r ih =>
    induction l with
    | nil =>
      intro b listed a w fuel hx hf hc hB h
      refine ih b listed a w fuel hx (by simpa [total] using hf) hc (by simpa [ordB, pursB, listAll] using hB) ?_
      simpa [ordWalkR, pickOps, wpQuiet] using h
    | cons i l ihl =>
      intro b listed a w fuel hx hf hc hB h
      simp only [ordB, pursB, listAll, Bool.and_eq_true] at hB
      obtain ⟨⟨hi, hl⟩, hr⟩ := hB
      cases ho : ops[i]? with
      | none => simp [purB, ho] at hi
      | some oi =>
        simp only [purB, ho, Bool.and_eq_true] at hi
        obtain ⟨⟨hflo, hrd⟩, hfr⟩ := hi
        have hrd' : i ∈ Region.ready .any ops listed := by simpa using hrd
        obtain ⟨fuel, rfl⟩ : ∃ f, fuel = f + 1 := ⟨fuel - 1, by simp [total] at hf; omega⟩
        have hfree : ∀ j oj, ops[j]? = some oj → j ≠ i → listed.getD j true = false → ancB ops bs i j = false → oi.apart ops oj = true := by
          intro j oj hj hne hun hno
          have := List.all_eq_true.1 hfr j (List.mem_range.2 (Array.getElem?_eq_some_iff.1 hj).1)
          simpa [hne, hun, hno, hj] using this
        have hp : pickOps ops (i :: l) = oi :: pickOps ops l := by simp [pickOps, ho]
        simp only [ordWalkR, hp] at h
        unfold wpQuiet at h
        have go : ∀ v, YieldsIf P ops (fun _ => True) oi v a → wpQuiet P ops (fun _ => True) (fun a' => ordWalkR R P ops Q r b a' w) (pickOps ops l) (a.put oi.dst v) → wpXR R P ops Q (inX ops es) (fuel + 1) listed a w := by
          intro v hy hk
          refine wpX_first_pureR hok ho (Region.noSelect_spec hsel) hQ fuel listed a w hc hfree hrd' hy ?_
          refine ihl b (listed.setIfInBounds i true) (a.put oi.dst v) w fuel hx (by simp [total] at hf ⊢; omega) (hc.add hok hrd') ?_ ?_
          · simp only [ordB, Bool.and_eq_true]; exact ⟨hl, hr⟩
          · simpa only [ordWalkR] using hk
        split at h
        · rename_i hw
          obtain ⟨v, hv, hk⟩ := quiet_yields_pure hflo h
          exact go v (.inl ⟨hw, fun u _ => hv u⟩) hk
        · rename_i hw
          exact go undef (.inr ⟨by simpa using hw, rfl⟩) h
  | ext i r ih =>
    intro b listed a w fuel hx hf hc hB h
    simp only [ordB, Bool.and_eq_true] at hB
    obtain ⟨hr, hr2⟩ := hB
    have hr' : Region.ready .any ops listed = [i] := by simpa using hr
    have hmem : i ∈ Region.ready .any ops listed := by rw [hr']; simp
    obtain ⟨_, o, ho, _⟩ := mem_ready.1 hmem
    obtain ⟨fuel, rfl⟩ : ∃ f, fuel = f + 1 := ⟨fuel - 1, by simp [total] at hf; omega⟩
    refine ⟨fun h0 => (by rw [hr'] at h0; cases h0), fun j hj => ?_⟩
    rw [hr'] at hj
    obtain rfl : j = i := by simpa using hj
    exact wpOp_mono (fun a' w' hh => ⟨fun _ => hh.1, ih b _ a' w' fuel (WRel.trans hx hh.1) (by simp [total] at hf ⊢; omega) (hc.add hok hmem) hr2 hh.2⟩) (one_step ho h)
  | one i r ih =>
    intro b listed a w fuel hx hf hc hB h
    simp only [ordB, Bool.and_eq_true] at hB
    obtain ⟨⟨hr, hk⟩, hr2⟩ := hB
    have hr' : Region.ready .any ops listed = [i] := by simpa using hr
    have hmem : i ∈ Region.ready .any ops listed := by rw [hr']; simp
    obtain ⟨_, o, ho, _⟩ := mem_ready.1 hmem
    obtain ⟨fuel, rfl⟩ : ∃ f, fuel = f + 1 := ⟨fuel - 1, by simp [total] at hf; omega⟩
    refine ⟨fun h0 => (by rw [hr'] at h0; cases h0), fun j hj => ?_⟩
    rw [hr'] at hj
    obtain rfl : j = i := by simpa using hj
    have hnx : inX ops es j = false := by simpa using hk
    exact wpOp_mono (fun a' w' hh => ⟨fun hX => (by rw [hnx] at hX; cases hX), ih w' _ a' w' fuel (WRel.refl (R := R) w') (by simp [total] at hf ⊢; omega) (hc.add hok hmem) hr2 hh⟩) (one_step ho h)
  | both i j r q ihr ihq =>
    intro b listed a w fuel hx hf hc hB h
    simp only [ordB, Bool.and_eq_true] at hB
    obtain ⟨⟨hr, hr2⟩, hq2⟩ := hB
    have hr' : Region.ready .any ops listed = [i, j] := by simpa using hr
    obtain ⟨fuel, rfl⟩ : ∃ f, fuel = f + 1 := ⟨fuel - 1, by simp [total] at hf; omega⟩
    have mi : i ∈ Region.ready .any ops listed := by rw [hr']; simp
    have mj : j ∈ Region.ready .any ops listed := by rw [hr']; simp
    refine ⟨fun h0 => (by rw [hr'] at h0; cases h0), fun k hk => ?_⟩
    rw [hr'] at hk
    rcases List.mem_cons.1 hk with rfl | hk
    · obtain ⟨_, o, ho, _⟩ := mem_ready.1 mi
      exact wpOp_mono (fun a' w' hh => ⟨fun _ => hh.1, ihr b _ a' w' fuel (WRel.trans hx hh.1) (by simp [total] at hf ⊢; omega) (hc.add hok mi) hr2 hh.2⟩) (one_step ho h.1)
    · obtain rfl : k = j := by simpa using hk
      obtain ⟨_, o, ho, _⟩ := mem_ready.1 mj
      exact wpOp_mono (fun a' w' hh => ⟨fun _ => hh.1, ihq b _ a' w' fuel (WRel.trans hx hh.1) (by simp [total] at hf ⊢; omega) (hc.add hok mj) hq2 hh.2⟩) (one_step ho h.2)

/-- A REGION THAT DRAWS ITS ORDER, WALKED IN ONE ORDER. 'bs': of each operation those that come ahead of it in every order, as bits. -/
theorem wp_region_ordR [WRel R] {id : Nat} {a : Act} {w : World} {l : List Oper} (bs : List Nat) (p : Plan) (hm : P.follows .mixedOrders = true)
    (hB : (ancOkB l.toArray bs.toArray && Region.noSelect l.toArray && ordB l.toArray bs.toArray (extIdx p) p (Array.replicate l.toArray.size false) && decide (total p ≤ l.toArray.size)) = true)
    (hQ : ∀ c a d v w, Q (.panic c) (a.put d v) w → Q (.panic c) a w)
    (h : ordWalkR R P l.toArray Q p w.drew a w.drew) : (Code.region id l.toArray true).wp P Q a w := by
  simp only [Bool.and_eq_true, decide_eq_true_eq] at hB
  obtain ⟨⟨⟨h1, h2⟩, h3⟩, h4⟩ := hB
  refine wp_region_any hm (wpAny_of_XR _ _ _ _ (X_of_ordR h1 h2 hQ _ p w.drew _ a w.drew _ (WRel.refl (R := R) _) h4 ?_ h3 h))
  intro j hj
  exfalso
  rcases Nat.lt_or_ge j l.toArray.size with h' | h'
  · simp [Array.getD] at hj
  · simp [Array.getD] at hj

/-- the steps of such a walk -/
def ordNextR (R : World → World → Prop) (P : Program) (ops : Array Oper) (Q : Exit → Act → World → Prop) (r : Plan) (b w : World) (a' : Act) (w' : World) : Prop := R w w' ∧ ordWalkR R P ops Q r b a' w'
theorem ordNextR.mk {r : Plan} {b w w' : World} {a : Act} (x : R w w') (h : ordWalkR R P ops Q r b a w') : ordNextR R P ops Q r b w a w' := ⟨x, h⟩
theorem ord_floR {l : List Nat} {r : Plan} {a : Act} {b w : World} {ol : List Oper} (hp : pickOps ops l = ol)
    (h : wpQuiet P ops (fun w' => ∃ y : Zt R b, w' = y.W) (fun a' => ordWalkR R P ops Q r b a' w) ol a) : ordWalkR R P ops Q (.flo l r) b a w := by
  subst hp; exact h
theorem ord_extR {i : Nat} {r : Plan} {a : Act} {b w : World} {o : Oper} (hp : pickOps ops [i] = [o])
    (h : ∀ K : Act → World → Prop, (∀ a' w', ordNextR R P ops Q r b w a' w' → K a' w') → wpList P ops (Exit.then K Q) [o] a w) : ordWalkR R P ops Q (.ext i r) b a w := by
  show wpList P ops _ (pickOps ops [i]) a w
  rw [hp]; exact h _ fun _ _ h => h
theorem ord_oneR {i : Nat} {r : Plan} {a : Act} {b w : World} {o : Oper} (hp : pickOps ops [i] = [o])
    (h : ∀ K : Act → World → Prop, (∀ a' w', ordWalkR R P ops Q r w' a' w' → K a' w') → wpList P ops (Exit.then K Q) [o] a w) : ordWalkR R P ops Q (.one i r) b a w := by
  show wpList P ops _ (pickOps ops [i]) a w
  rw [hp]; exact h _ fun _ _ h => h
theorem ord_finR {a : Act} {b w : World} (h : Q .normal a w) : ordWalkR R P ops Q .fin b a w := h
end
end Go.Proofs.Yteklohamkmiphaa
