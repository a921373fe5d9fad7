/- What flow.rounds keeps in memory: a set of places, counts of places; on and off. The document's search for least ways, in memory: what waits, what is known so far. penstockref04.Cmp: what it answers. penstockref06.before: which of two ways comes first. penstockref04.at, PathLeq: what they answer. penstockref04.PathLeq: the loop. penstockref06.with: least ways with one more, in their order. stamp.Cmp, with the world behind it told to the block. Conditions: each theorem states its own. -/
import Derived.Test.YteklohamkmiphaaFa6
import Derived.Test.YteklohamkmiphaaFa4
import Derived.Deep.LoopGhost
import Derived.Test.YteklohamkmiphaaFa2
import Derived.Test.YteklohamkmiphaaFa3
import Derived.Deep.CutBlock
import Derived.Sort.Grow
namespace Go.Proofs.Yteklohamkmiphaa
open Go.RowKit

def ptC (p : Pt) : List Value := [.int .i64 p.n, .bool p.o, .int .i64 p.p]
theorem ptC_len (p : Pt) : (ptC p).length = 3 := rfl
def Pt.z : Pt := ⟨0, false, 0⟩
theorem elem_pt : Elem Try.prog 41 27 3 24 (.agg #[.int .i64 0, .bool false, .int .i64 0]) := ⟨by kernel_rfl, by kernel_rfl, rfl, by decide⟩
theorem zeroPt (w : World) : (zeroValue 41).run Try.prog w = .ok (.slice none 0 0) w := by kernel_rfl
theorem zeroBo (w : World) : (zeroValue 4).run Try.prog w = .ok (.bool false) w := by kernel_rfl
theorem zeroIn (w : World) : (zeroValue 3).run Try.prog w = .ok (.int .i64 0) w := by kernel_rfl
/-! ### a set of places -/
structure SetM (w : World) (kl : Nat) (L : List Pe) (ck : Nat) (F : Pt → Bool) : Prop where
  tm : TM w kl L ck
  get : ∀ q, getE L q = if F q then some (.bool true) else none
section
variable {w w' : World} {kl ck ck' : Nat} {L L' : List Pe} {F : Pt → Bool}
theorem SetM.made (w : World) : SetM (w.alloc (.map #[] 0)) w.heap.size [] 0 (fun _ => false) := ⟨TM.made w, fun _ => rfl⟩
theorem SetM.ext (h : SetM w kl L ck F) (e : Ext w w') : SetM w' kl L ck F := ⟨h.tm.ext e, h.get⟩
theorem SetM.upd {S : Nat → Prop} (h : SetM w kl L ck F) (u : Upd S w w') (hn : ¬ S kl) : SetM w' kl L ck F := ⟨h.tm.upd u hn, h.get⟩
theorem SetM.put (h : SetM w kl L ck F) {p : Pt} (m : TM w' kl L' ck') (pp : Put L p (.bool true) L') : SetM w' kl L' ck' (fun q => F q || decide (q = p)) := by
  refine ⟨m, fun q => ?_⟩
  rw [pp.get]
  by_cases e : q = p
  · rw [if_pos e]; simp [e]
  · rw [if_neg e, h.get]; simp [e]
theorem SetM.del (h : SetM w kl L ck F) {p : Pt} (m : TM w' kl (L.filter fun x => !decide (x.p = p)) ck') : SetM w' kl (L.filter fun x => !decide (x.p = p)) ck' (fun q => F q && !decide (q = p)) := by
  refine ⟨m, fun q => ?_⟩
  rw [del_get]
  by_cases e : q = p
  · rw [if_pos e]; simp [e]
  · rw [if_neg e, h.get]; simp [e]
theorem SetM.look (h : SetM w kl L ck F) {p : Pt} (hp : P64 p) : (Instr.lookup 76 (.map (some kl)) (ptV p) false).run Try.prog w = .ok (.bool (F p)) w := by
  have := h.tm.look hp Try.underlying76 (zeroBo w)
  rw [h.get] at this
  rw [this]
  cases F p <;> rfl
theorem SetM.mem (h : SetM w kl L ck F) {p : Pt} : F p = true ↔ ∃ x ∈ L, x.p = p := by
  constructor
  · intro hp
    have := h.get p
    rw [hp, if_pos rfl] at this
    obtain ⟨x, hx, e, _⟩ := getE_mem this
    exact ⟨x, hx, e⟩
  · rintro ⟨x, hx, rfl⟩
    have := h.get x.p
    rw [getE_some h.tm.np hx] at this
    cases hF : F x.p with
    | true => rfl
    | false => rw [hF] at this; cases this
theorem SetM.less (h : SetM w kl L ck F) {p : Pt} (hp : F p = true) : (L.filter fun x => !decide (x.p = p)).length < L.length := by
  obtain ⟨x, hx, e⟩ := h.mem.1 hp
  exact List.length_filter_lt_length_iff_exists.2 ⟨x, hx, by simp [e]⟩
end
/-! ### counts of places -/
def CntM (w : World) (kc : Nat) (cnt : Pt → Int) : Prop := ∃ L ck, TM w kc L ck ∧ ∀ q, (getE L q).getD (.int .i64 0) = .int .i64 (cnt q)
section
variable {w w' : World} {kc : Nat} {cnt : Pt → Int}
theorem CntM.made (w : World) : CntM (w.alloc (.map #[] 0)) w.heap.size (fun _ => 0) := ⟨[], 0, TM.made w, fun _ => rfl⟩
theorem CntM.ext (h : CntM w kc cnt) (e : Ext w w') : CntM w' kc cnt := by obtain ⟨L, ck, h1, h2⟩ := h; exact ⟨L, ck, h1.ext e, h2⟩
theorem CntM.upd {S : Nat → Prop} (h : CntM w kc cnt) (u : Upd S w w') (hn : ¬ S kc) : CntM w' kc cnt := by obtain ⟨L, ck, h1, h2⟩ := h; exact ⟨L, ck, h1.upd u hn, h2⟩
theorem CntM.look (h : CntM w kc cnt) {p : Pt} (hp : P64 p) : (Instr.lookup 102 (.map (some kc)) (ptV p) false).run Try.prog w = .ok (.int .i64 (cnt p)) w := by
  obtain ⟨L, ck, h1, h2⟩ := h
  have := h1.look hp Try.underlying102 (zeroIn w)
  rw [h2] at this
  exact this
theorem CntM.lt (h : CntM w kc cnt) : kc < w.heap.size := by obtain ⟨L, ck, h1, _⟩ := h; exact h1.lt
theorem CntM.not_ty (h : CntM w kc cnt) (t : TypeId) : ¬ Ty w kc t := by obtain ⟨L, ck, h1, _⟩ := h; exact h1.not_ty t
/-- worlds in which the counts are as they were; nothing else has turned -/
def CntR (kc : Nat) (w w' : World) : Prop := Upd (fun k => k = kc) w w' ∧ ∀ cnt, CntM w kc cnt → CntM w' kc cnt
instance (kc : Nat) : WRel (CntR kc) := ⟨fun w => ⟨Upd.refl _ w, fun _ h => h⟩, fun h k => ⟨h.1.trans k.1, fun c x => k.2 c (h.2 c x)⟩⟩
theorem CntR.entry {L L' : List Pe} {ck ck' : Nat} {p : Pt} (h : TM w kc L ck) (m : TM w' kc L' ck') (pp : Put L p ((getE L p).getD (.int .i64 0)) L') (g : w.grownBy w' (some kc)) : CntR kc w w' := by
  refine ⟨(Upd.refl _ w).grown g (fun k hk => .inl (by injection hk with hk; exact hk.symm)), fun cnt hc => ?_⟩
  obtain ⟨L2, ck2, h1, h2⟩ := hc
  have e : (Obj.map (L.map entT).toArray ck) = .map (L2.map entT).toArray ck2 := Option.some.inj (h.bk.symm.trans h1.bk)
  injection e with e1 e2
  have e1 : L.map entT = L2.map entT := by simpa using e1
  have eL : L = L2 := by
    refine List.ext_getElem? fun i => ?_
    have := congrArg (fun l => l[i]?) e1
    simp only [List.getElem?_map] at this
    cases ha : L[i]? with
    | none => rw [ha] at this; cases hb : L2[i]? with
      | none => rfl
      | some b => rw [hb] at this; cases this
    | some a =>
      rw [ha] at this
      cases hb : L2[i]? with
      | none => rw [hb] at this; cases this
      | some b =>
        rw [hb] at this
        injection this with this
        unfold entT at this
        injection this with q1 q2 q3
        have q1 := ptV_inj q1
        cases a; cases b
        simp only at q1 q2 q3
        rw [q1, q2, q3]
  subst eL
  refine ⟨L', ck', m, fun q => ?_⟩
  rw [pp.get]
  by_cases e : q = p
  · rw [if_pos e, e]; exact h2 p
  · rw [if_neg e]; exact h2 q
/-- a count is written -/
theorem CntM.store {L L1 L3 : List Pe} {ck3 : Nat} {p : Pt} {v : Int} (hc : ∀ q, (getE L q).getD (.int .i64 0) = .int .i64 (cnt q)) (p1 : Put L p ((getE L p).getD (.int .i64 0)) L1) (m3 : TM w kc L3 ck3) (p3 : Put L1 p (.int .i64 v) L3) : CntM w kc (fun q => if q = p then v else cnt q) := by
  refine ⟨L3, ck3, m3, fun q => ?_⟩
  rw [p3.get]
  by_cases e : q = p
  · simp only [if_pos e]; rfl
  · simp only [if_neg e]; rw [p1.get, if_neg e]; exact hc q
end
/-! ### on and off -/
/-- a function that tells of a place the next ones -/
def NxtOk (B : Nat) (S : World → Prop) (F : Nat) (v : Value) (nx : Pt → List Pt) : Prop := ∀ W, S W → ∀ p, P64 p → Calls Try.prog F #[ptV p, v] W fun e w' => ∃ A c, e = .returned (.slice A (nx p).length c) ∧ Sl w' 3 A (nx p).length c ((nx p).flatMap ptC) ∧ Ext W w' ∧ ∀ k, blk A c = some k → k < B ∨ W.heap.size ≤ k
set_option maxRecDepth 100000 in
set_option maxHeartbeats 1000000 in
theorem on_any (bq bm : Nat) (g : Gr) (pn : Int) (po : Bool) (pp : Int) (w : World) (hc : w.cell? ⟨bq, 0, none⟩ = some (.map (some bm))) (hm : Hid (StR w bm g)) (hp : Hid (P64 ⟨pn, po, pp⟩)) (hl : Hid ((g.mvs ⟨pn, po, pp⟩).length ≤ 1000)) :
    Calls Try.prog 47 #[.agg #[.int .i64 pn, .bool po, .int .i64 pp], .pointer (some ⟨bq, 0, none⟩)] w fun e w' => ∃ A c, e = .returned (.slice A ((g.mvs ⟨pn, po, pp⟩).map g.tgt).length c) ∧ Sl w' 3 A ((g.mvs ⟨pn, po, pp⟩).map g.tgt).length c (((g.mvs ⟨pn, po, pp⟩).map g.tgt).flatMap ptC) ∧ Ext w w' ∧ ∀ k, blk A c = some k → w.heap.size ≤ k := by
  obtain ⟨sA, sc, xs, hlk, hsl, _, hsv⟩ := hm.out.look Try.underlying74 zeroSs hp.out
  have XA : Hid (Ext w (w.alloc (.cells #[.int .i64 pn, .bool po, .int .i64 pp] 27))) := Lib.hid ((Ext.refl w).alloc _)
  have hlk1 := hlk _ XA.out
  unfold ptV at hlk1
  obtain ⟨ns, hns⟩ : ∃ n, n = xs.length := ⟨_, rfl⟩
  have hmp : (g.mvs ⟨pn, po, pp⟩).map g.tgt = xs.map (fun x => x.q) := by
    have := congrArg (List.map Prod.fst) hsv
    rw [List.map_map, List.map_map] at this
    exact this.symm
  have hn9 : ns ≤ 1000 := by have h1 := congrArg List.length hmp; rw [List.length_map, List.length_map] at h1; have h2 := hl.out; omega
  have c1 := XA.out.cell hc
  rw [← hns] at hlk1
  have HMP := Lib.hid hmp
  have HNS := Lib.hid hns
  have HSL := Lib.hid hsl
  rw [hmp]
  clear hlk hsl hsv hmp hns hc
  go_enter Try.func47, Try.ntmps47
  go_wp2
  clear hlk1 c1
  go_loopg [4, 6, 11] ns (fun gg s4 _ s11 wr => ∃ (i : Nat) (A : Option Addr) (c : Nat), s11 = .int .i64 i ∧ i ≤ ns ∧ gg = ns - i ∧ s4 = .slice A i c ∧ Hid (Own wr w.heap.size 27 3 A i c (((xs.take i).map (fun x => x.q)).flatMap ptC)) ∧ Hid (Ext w wr))
  case atStart => exact ⟨0, none, 0, rfl, Nat.zero_le _, rfl, rfl, Lib.hid (Own.nil _ _ _ _), XA⟩
  case round =>
    obtain ⟨i, A, c, rfl, hi, rfl, rfl, HO, HX⟩ := hrel
    by_cases hlt : i < ns
    · have hil : i < xs.length := by rw [← HNS.out]; exact hlt
      have hltz : (i : Int) < (ns : Int) := by omega
      obtain ⟨ad, hsA, h0, h1⟩ := els_at spC 6 spC_len Sm.zero (HSL.out.ext HX.out) rfl hil (by omega)
      subst hsA
      have htk : xs.take (i + 1) = xs.take i ++ [xs.getD i Sm.zero] := by rw [List.take_succ_eq_append_getElem hil, List.getD_eq_getElem?_getD, List.getElem?_eq_getElem hil]; rfl
      obtain ⟨⟨⟨sn, so, sp⟩, ⟨bA, bc, ⟨bl, ba, be⟩⟩⟩, hs⟩ : ∃ s, xs.getD i Sm.zero = s := ⟨_, rfl⟩
      rw [hs] at h0 h1 htk
      obtain ⟨nb, hnb⟩ : ∃ n, n = be.length := ⟨_, rfl⟩
      have q0 := h0 _ rfl
      have q1 := h1 0 _ rfl
      have q2 := h1 1 _ rfl
      have q3 := h1 2 _ rfl
      have q4 := h1 3 _ rfl
      have q5 := h1 4 _ rfl
      simp only at q0 q1 q2 q3 q4 q5
      rw [← hnb] at q5
      have HTK := Lib.hid htk
      have EA : Hid (Ext wr ((wr.alloc (.cells #[.int .i64 sn, .bool so, .int .i64 sp, .int .i64 bl, .int .u32 ba, .slice bA nb bc] 99)).alloc (.cells #[.int .i64 sn, .bool so, .int .i64 sp] 27))) := Lib.hid (((Ext.refl wr).alloc _).alloc _)
      have HO1 := Lib.hid (HO.out.ext EA.out)
      have HS1 : Hid (Sl ((wr.alloc (.cells #[.int .i64 sn, .bool so, .int .i64 sp, .int .i64 bl, .int .u32 ba, .slice bA nb bc] 99)).alloc (.cells #[.int .i64 sn, .bool so, .int .i64 sp] 27)) 3 (some ⟨wr.heap.size + 1, 0, none⟩) 1 1 [.int .i64 sn, .bool so, .int .i64 sp]) := Lib.hid (by
        have q := Sl.one (wr.alloc (.cells #[.int .i64 sn, .bool so, .int .i64 sp, .int .i64 bl, .int .u32 ba, .slice bA nb bc] 99)) #[.int .i64 sn, .bool so, .int .i64 sp] 27 3 rfl
        simpa using q)
      have hb1 : w.heap.size ≤ ((wr.alloc (.cells #[.int .i64 sn, .bool so, .int .i64 sp, .int .i64 bl, .int .u32 ba, .slice bA nb bc] 99)).alloc (.cells #[.int .i64 sn, .bool so, .int .i64 sp] 27)).heap.size := Nat.le_trans HX.out.size EA.out.size
      clear h0 h1 hs htk hnb
      go_wp2_with (at_builtin; go_loud (refine wpList_append_two _ elem_pt w.heap.size _ _ rfl rfl A i c (((xs.take i).map (fun x => x.q)).flatMap ptC) rfl HO1.out (some ⟨wr.heap.size + 1, 0, none⟩) 1 1 [.int .i64 sn, .bool so, .int .i64 sp] rfl HS1.out (by intro u hu; simp at hu; rcases hu with rfl | rfl | rfl <;> rfl) (by omega) (by decide) hb1 ?_); intro A3 c3 w3 o3 g3 x3; have O3 := Lib.hid o3; have X3 : Hid (Ext w w3) := Lib.hid ((HX.out.trans EA.out).grown g3 (fun k hk => (HO.out.lt k hk).1)); clear o3 g3 x3)
      go_roundg (ns - (i + 1))
      case measure => omega
      case rel => exact ⟨i + 1, A3, c3, by go_num, by omega, rfl, rfl, Lib.hid (by rw [HTK.out, List.map_append, List.flatMap_append]; exact O3.out), X3⟩
    · obtain rfl : i = ns := by omega
      go_wp2
      go_ret
      have q := HO.out
      rw [HNS.out, List.take_length] at q
      refine ⟨A, c, ?_, ?_, HX.out, fun k hk => (HO.out.lt k hk).1⟩
      · rw [List.length_map, ← HNS.out]; rfl
      · rw [List.length_map]; exact q.sl
set_option maxRecDepth 100000 in
set_option maxHeartbeats 600000 in
theorem off_any (vb kk : Nat) {w0 : World} {L : List Pe} {ck : Nat} (K : Pt → List Pt) (pn : Int) (po : Bool) (pp : Int) (w : World) (hc : w.cell? ⟨vb, 0, none⟩ = some (.map (some kk))) (hm : Hid (MpL ptC 3 27 w0 w kk L ck K)) (hp : Hid (P64 ⟨pn, po, pp⟩)) :
    Calls Try.prog 48 #[.agg #[.int .i64 pn, .bool po, .int .i64 pp], .pointer (some ⟨vb, 0, none⟩)] w fun e w' => ∃ A c, e = .returned (.slice A (K ⟨pn, po, pp⟩).length c) ∧ Sl w' 3 A (K ⟨pn, po, pp⟩).length c ((K ⟨pn, po, pp⟩).flatMap ptC) ∧ Ext w w' ∧ ∀ k, blk A c = some k → kmB kk L k := by
  have XA : Hid (Ext w (w.alloc (.cells #[.int .i64 pn, .bool po, .int .i64 pp] 27))) := Lib.hid ((Ext.refl w).alloc _)
  have c1 := XA.out.cell hc
  obtain ⟨A, c, h1, h2, h3⟩ := hm.out.ls ⟨pn, po, pp⟩
  have HBK : Hid (∀ k, blk A c = some k → kmB kk L k) := Lib.hid (fun k hk => .inr ⟨_, h3.trans hk⟩)
  have hlk := (hm.out.ext XA.out).tm.look hp.out Try.underlying100 (zeroPt _)
  rw [show (getE L ⟨pn, po, pp⟩).getD (.slice none 0 0) = _ from h1] at hlk
  unfold ptV at hlk
  obtain ⟨n, hn⟩ : ∃ n, n = (K ⟨pn, po, pp⟩).length := ⟨_, rfl⟩
  have HO := Lib.hid (h2.ext XA.out)
  rw [← hn] at hlk HO ⊢
  clear h1 h2 h3 hn hc
  go_enter Try.func48, Try.ntmps48
  go_wp2
  go_ret
  exact ⟨A, c, rfl, HO.out.sl, XA.out, HBK.out⟩
end Go.Proofs.Yteklohamkmiphaa
namespace Go.Proofs.Yteklohamkmiphaa
open Go.RowKit

/-- a place that is known, its ways so far -/
structure Kw where
  q : Pt
  A : Option Addr
  c : Nat
  ws : List Pm
def Kw.zero : Kw := ⟨⟨0, false, 0⟩, none, 0, []⟩
instance : Inhabited Kw := ⟨Kw.zero⟩
def knC (x : Kw) : List Value := [.int .i64 x.q.n, .bool x.q.o, .int .i64 x.q.p, .slice x.A x.ws.length x.c]
theorem knC_len (x : Kw) : (knC x).length = 4 := rfl
theorem elem_kn : Elem Try.prog 88 118 4 48 (.agg #[.int .i64 0, .bool false, .int .i64 0, .slice none 0 0]) := ⟨by kernel_rfl, by kernel_rfl, rfl, by decide⟩
theorem elem_wk : Elem Try.prog 116 115 6 64 (.agg #[.int .i64 0, .bool false, .int .i64 0, .int .i64 0, .int .u32 0, .slice none 0 0]) := ⟨by kernel_rfl, by kernel_rfl, rfl, by decide⟩
def kw : List Kw → Pt → List Pm
  | [], _ => []
  | x :: l, q => if x.q = q then x.ws else kw l q
theorem kw_none {t : Pt} : ∀ (l : List Kw), (∀ x ∈ l, x.q ≠ t) → kw l t = []
  | [], _ => rfl
  | x :: l, h => by
    rw [kw, if_neg (h x List.mem_cons_self)]
    exact kw_none l fun y hy => h y (List.mem_cons_of_mem _ hy)
theorem kw_app {t : Pt} {A : Option Addr} {c : Nat} (q : Pt) : ∀ (l : List Kw), kw (l ++ [⟨t, A, c, []⟩]) q = kw l q
  | [] => by
    rw [List.nil_append, kw, kw]
    split <;> rfl
  | x :: l => by
    rw [List.cons_append, kw, kw, kw_app q l]
theorem kw_at : ∀ (l : List Kw) (k : Nat), k < l.length → (l.map Kw.q).Nodup → kw l (l.getD k Kw.zero).q = (l.getD k Kw.zero).ws
  | [], k, h, _ => absurd h (Nat.not_lt_zero _)
  | x :: l, 0, _, _ => by
    rw [List.getD_cons_zero, kw, if_pos rfl]
  | x :: l, k + 1, h, nd => by
    rw [List.map_cons, List.nodup_cons] at nd
    have hk : k < l.length := by simpa using h
    have hm : (l.getD k Kw.zero) ∈ l := getD_mem' Kw.zero hk
    rw [List.getD_cons_succ, kw, if_neg (fun e => nd.1 (List.mem_map.2 ⟨_, hm, e.symm⟩))]
    exact kw_at l k hk nd.2
theorem kw_set {t : Pt} {A : Option Addr} {c : Nat} {ws : List Pm} (q : Pt) : ∀ (l : List Kw) (k : Nat), k < l.length → (l.map Kw.q).Nodup → (l.getD k Kw.zero).q = t → kw (l.set k ⟨t, A, c, ws⟩) q = if q = t then ws else kw l q
  | [], k, h, _, _ => absurd h (Nat.not_lt_zero _)
  | x :: l, 0, _, _, e => by
    rw [List.getD_cons_zero] at e
    subst e
    rw [List.set_cons_zero, kw, kw]
    by_cases hq : q = x.q
    · rw [if_pos hq, if_pos hq.symm]
    · rw [if_neg hq, if_neg (fun e => hq e.symm), if_neg (fun e => hq e.symm)]
  | x :: l, k + 1, h, nd, e => by
    rw [List.map_cons, List.nodup_cons] at nd
    have hk : k < l.length := by simpa using h
    rw [List.getD_cons_succ] at e
    have hx : x.q ≠ t := fun e2 => nd.1 (List.mem_map.2 ⟨_, getD_mem' Kw.zero hk, e.trans e2.symm⟩)
    rw [List.set_cons_succ, kw, kw, kw_set q l k hk nd.2 e]
    by_cases hq : x.q = q
    · rw [if_pos hq, if_pos hq, if_neg (fun e2 => hx (hq.trans e2))]
    · rw [if_neg hq, if_neg hq]
theorem kn_set : ∀ (l : List Kw) (k : Nat), k < l.length → ∀ (A : Option Addr) (c : Nat) (ws : List Pm), (l.flatMap knC).set (k * 4 + 3) (.slice A ws.length c) = (l.set k ⟨(l.getD k Kw.zero).q, A, c, ws⟩).flatMap knC
  | [], k, h, _, _, _ => absurd h (Nat.not_lt_zero _)
  | x :: l, 0, _, A, c, ws => by
    rw [List.set_cons_zero, List.flatMap_cons, List.flatMap_cons, List.getD_cons_zero]
    rfl
  | x :: l, k + 1, h, A, c, ws => by
    have hk : k < l.length := by simpa using h
    rw [List.set_cons_succ, List.flatMap_cons, List.flatMap_cons, List.getD_cons_succ, ← kn_set l k hk A c ws, List.set_append_right _ _ (by rw [knC_len]; omega), knC_len]
    congr 2
    omega
theorem kq_set {t : Pt} {A : Option Addr} {c : Nat} {ws : List Pm} : ∀ (l : List Kw) (k : Nat), (l.getD k Kw.zero).q = t → (l.set k ⟨t, A, c, ws⟩).map Kw.q = l.map Kw.q
  | [], k, _ => by rfl
  | x :: l, 0, e => by
    rw [List.getD_cons_zero] at e
    rw [List.set_cons_zero, List.map_cons, List.map_cons, e]
  | x :: l, k + 1, e => by
    rw [List.getD_cons_succ] at e
    rw [List.set_cons_succ, List.map_cons, List.map_cons, kq_set l k e]
/-- where steps lead -/
def goals (g : Gm) : List Pt := (allS g).map (fun x => x.2.q)
/-- the document's search under way -/
structure RaI (w0 w : World) (gm : Gm) (fr : Pt) (st : Prop) (Q : List Ent) (i j o : Nat) (A : Option Addr) (c : Nat) (P : List Sm) (KA : Option Addr) (kc : Nat) (KS : List Kw) : Prop where
  ex : Ext w0 w
  b : BInv gm.v fr st Q i j
  il : o ≤ Q.length
  q : OwnQ w w0.heap.size 115 6 A P.length c (P.flatMap spC)
  pv : P.map Sm.v = (Q.drop o).map (fun e => (e.at', e.w))
  py : ∀ x ∈ P, Wy w0 w x.b
  ks : Own w w0.heap.size 118 4 KA KS.length kc (KS.flatMap knC)
  kl : ∀ x ∈ KS, Own w w0.heap.size 47 3 x.A x.ws.length x.c (x.ws.flatMap pmC) ∧ (∀ y ∈ x.ws, Wy w0 w y) ∧ (x.ws.map Pm.w).Pairwise wlt
  kd : (KS.map Kw.q).Nodup
  ki : ∀ x ∈ KS, x.q = fr ∨ x.q ∈ goals gm
  kn : Kn gm.v fr st Q (fun q => (kw KS q).map Pm.w)
section
variable {w0 w w' : World} {gm : Gm} {fr : Pt} {st : Prop} {Q : List Ent} {i j o : Nat} {A : Option Addr} {c : Nat} {P : List Sm} {KA : Option Addr} {kc : Nat} {KS : List Kw}
theorem RaI.ext (I : RaI w0 w gm fr st Q i j o A c P KA kc KS) (e : Ext w w') : RaI w0 w' gm fr st Q i j o A c P KA kc KS :=
  ⟨I.ex.trans e, I.b, I.il, I.q.ext e, I.pv, fun x hx => (I.py x hx).ext e, I.ks.ext e, fun x hx => ⟨(I.kl x hx).1.ext e, fun y hy => ((I.kl x hx).2.1 y hy).ext e, (I.kl x hx).2.2⟩, I.kd, I.ki, I.kn⟩
theorem RaI.off (I : RaI w0 w gm fr st Q i j o A c P KA kc KS) {f : Ent} {m : Mv Pt Wid} (hf : Q[i]? = some f) (hm : (gm.v.mvs f.at')[j]? = some m) (h : (thn f.w (gm.v.mw m)).2 ≠ 0) : RaI w0 w gm fr st Q i (j + 1) o A c P KA kc KS :=
  ⟨I.ex, I.b.off hf hm h, I.il, I.q, I.pv, I.py, I.ks, I.kl, I.kd, I.ki, I.kn⟩
theorem RaI.skip (I : RaI w0 w gm fr st Q i j o A c P KA kc KS) {f : Ent} {m : Mv Pt Wid} {v : Way} (hf : Q[i]? = some f) (hm : (gm.v.mvs f.at')[j]? = some m) (hv : thn f.w (gm.v.mw m) = (v, 0)) {x : Pm} (hx : x ∈ kw KS (gm.v.tgt m)) (hl : pl x.w v (gm.v.dp fr) = true) : RaI w0 w gm fr st Q i (j + 1) o A c P KA kc KS := by
  obtain ⟨a, e, h1, h2, h3, h4⟩ := I.kn.covered (q := gm.v.tgt m) (v := v) ⟨x.w, List.mem_map.2 ⟨x, hx, rfl⟩, hl⟩
  exact ⟨I.ex, I.b.skip hf hm hv h1 h2 h3 h4, I.il, I.q, I.pv, I.py, I.ks, I.kl, I.kd, I.ki, I.kn⟩
theorem RaI.pop {x : Sm} (I : RaI w0 w gm fr st Q i 0 i A c (x :: P) KA kc KS) : RaI w0 w gm fr st Q i 0 (i + 1) (if c = 1 then A else A.map (·.add 6)) (c - 1) P KA kc KS ∧ ∃ f, Q[i]? = some f ∧ f.at' = x.q ∧ f.w = x.b.w ∧ Wy w0 w x.b := by
  have hpv := I.pv
  have hl : i < Q.length := by
    rcases Nat.lt_or_ge i Q.length with h | h
    · exact h
    · rw [List.drop_of_length_le h] at hpv; cases hpv
  rw [List.drop_eq_getElem_cons hl, List.map_cons, List.map_cons] at hpv
  injection hpv with h1 h2
  injection h1 with h3 h4
  exact ⟨⟨I.ex, I.b, hl, OwnQ.drop I.q rfl, h2, fun y hy => I.py y (List.mem_cons_of_mem _ hy), I.ks, I.kl, I.kd, I.ki, I.kn⟩, Q[i], List.getElem?_eq_getElem hl, h3.symm, h4.symm, I.py x List.mem_cons_self⟩
theorem RaI.next (I : RaI w0 w gm fr st Q i j (i + 1) A c P KA kc KS) {f : Ent} (hf : Q[i]? = some f) (hj : (gm.v.mvs f.at').length ≤ j) : RaI w0 w gm fr st Q (i + 1) 0 (i + 1) A c P KA kc KS :=
  ⟨I.ex, I.b.next hf hj, I.il, I.q, I.pv, I.py, I.ks, I.kl, I.kd, I.ki, I.kn⟩
theorem RaI.done (I : RaI w0 w gm fr st Q i 0 i A c [] KA kc KS) : BInv gm.v fr st Q Q.length 0 := by
  have hpv := I.pv
  have : Q.length ≤ i := by
    rcases Nat.lt_or_ge i Q.length with h | h
    · rw [List.drop_eq_getElem_cons h] at hpv; cases hpv
    · exact h
  have e : i = Q.length := Nat.le_antisymm I.il this
  rw [← e]; exact I.b
/-- what is written when the list of what is known is -/
theorem RaI.updK {S : Nat → Prop} (I : RaI w0 w gm fr st Q i j o A c P KA kc KS) (u : Upd S w w') (hS : ∀ k, S k → w0.heap.size ≤ k ∧ Ty w k 118) {KA' : Option Addr} {kc' : Nat} {KS' : List Kw} (o' : Own w' w0.heap.size 118 4 KA' KS'.length kc' (KS'.flatMap knC))
    (kd : (KS'.map Kw.q).Nodup) (ki : ∀ x ∈ KS', x.q = fr ∨ x.q ∈ goals gm) (kn : Kn gm.v fr st Q (fun q => (kw KS' q).map Pm.w)) (kl : ∀ x ∈ KS', Own w w0.heap.size 47 3 x.A x.ws.length x.c (x.ws.flatMap pmC) ∧ (∀ y ∈ x.ws, Wy w0 w y) ∧ (x.ws.map Pm.w).Pairwise wlt) : RaI w0 w' gm fr st Q i j o A c P KA' kc' KS' := by
  have nu : ∀ k, S k → ¬ Ty w k 45 := fun k hk e => absurd (e.ne (hS k hk).2) (by decide)
  refine ⟨upd_ext0 I.ex u (fun k hk => (hS k hk).1), I.b, I.il, I.q.upd u (fun k hk e => absurd ((I.q.ty hk).ne (hS k e).2) (by decide)), I.pv, fun x hx => (I.py x hx).upd u nu, o', fun x hx => ?_, kd, ki, kn⟩
  obtain ⟨k1, k2, k3⟩ := kl x hx
  exact ⟨k1.upd u (fun k hk e => absurd ((k1.ty hk).ne (hS k e).2) (by decide)), fun y hy => (k2 y hy).upd u nu, k3⟩
/-- a place comes to be known, with no ways so far -/
theorem RaI.place (I : RaI w0 w gm fr st Q i j o A c P KA kc KS) {t : Pt} (ht : ∀ x ∈ KS, x.q ≠ t) (hg : t = fr ∨ t ∈ goals gm) (g : w.grownBy w' (blk KA kc)) {KA' : Option Addr} {kc' : Nat} (o' : Own w' w0.heap.size 118 4 KA' (KS.length + 1) kc' (KS.flatMap knC ++ knC ⟨t, none, 0, []⟩)) :
    RaI w0 w' gm fr st Q i j o A c P KA' kc' (KS ++ [⟨t, none, 0, []⟩]) := by
  refine I.updK (S := fun k => blk KA kc = some k) ((Upd.refl _ w).grown g (fun k hk => .inl hk)) (fun k hk => ⟨(I.ks.lt k hk).1, I.ks.ty hk⟩) (by rw [List.length_append, List.flatMap_append, List.flatMap_singleton]; exact o') ?_ (fun x hx => ?_) ?_ (fun x hx => ?_)
  · rw [List.map_append, List.map_singleton]
    refine List.nodup_append.2 ⟨I.kd, by simp, fun a ha b hb => ?_⟩
    obtain ⟨x, hx, rfl⟩ := List.mem_map.1 ha
    rw [List.mem_singleton.1 hb]
    exact ht x hx
  · rcases List.mem_append.1 hx with hx | hx
    · exact I.ki x hx
    · rw [List.mem_singleton.1 hx]; exact hg
  · have e : (fun q => (kw (KS ++ [⟨t, none, 0, []⟩]) q).map Pm.w) = fun q => (kw KS q).map Pm.w := by funext q; rw [kw_app]
    rw [e]; exact I.kn
  · rcases List.mem_append.1 hx with hx | hx
    · exact I.kl x hx
    · rw [List.mem_singleton.1 hx]
      exact ⟨Own.nil _ _ _ _, fun y hy => (nomatch hy), List.Pairwise.nil⟩
/-- something new -/
theorem RaI.push (I : RaI w0 w gm fr st Q i j (i + 1) A c P KA kc KS) (G : GOK gm.v) (hd : (gm.v.dep fr).isSome) {f : Ent} {m : Mv Pt Wid} {p : Pm} (hf : Q[i]? = some f) (hm : (gm.v.mvs f.at')[j]? = some m) (hv : thn f.w (gm.v.mw m) = (p.w, 0)) (gv : GoodW (gm.v.dp fr) (gm.v.dp (gm.v.tgt m)) p.w) {t : Pt} (ht : gm.v.tgt m = t) (hy : Wy w0 w p) {k : Nat} (hk : k < KS.length) (hq : (KS.getD k Kw.zero).q = t) (no : ∀ x ∈ kw KS t, pl x.w p.w (gm.v.dp fr) = false)
    {A2 : Option Addr} {c2 : Nat} {l : List Pm} (hl : l.map Pm.w = withR (gm.v.dp fr) p.w ((kw KS t).map Pm.w) false []) (hlo : ∀ x ∈ l, x ∈ kw KS t ∨ x = p) (ow : Own w w0.heap.size 47 3 A2 l.length c2 (l.flatMap pmC))
    {w1 w3 : World} {A3 : Option Addr} {c3 : Nat} (u1 : Upd (fun b => blk KA kc = some b) w w1) (o1 : Own w1 w0.heap.size 118 4 KA KS.length kc ((KS.set k ⟨t, A2, c2, l⟩).flatMap knC))
    (qw : OwnQ w3 w0.heap.size 115 6 A3 (P.length + 1) c3 (P.flatMap spC ++ spC ⟨t, p⟩)) (u3 : Upd (fun k => blk A c = some k) w1 w3) : RaI w0 w3 gm fr st (Q ++ [⟨m :: f.mv, t, p.w, i, j⟩]) i (j + 1) (i + 1) A3 c3 (P ++ [⟨t, p⟩]) KA kc (KS.set k ⟨t, A2, c2, l⟩) := by
  subst ht
  have n1 : ∀ b, blk KA kc = some b → ¬ Ty w b 45 := fun b hb e => absurd (e.ne (I.ks.ty hb)) (by decide)
  have q1 : OwnQ w1 w0.heap.size 115 6 A P.length c (P.flatMap spC) := I.q.upd u1 (fun b hb e => absurd ((I.q.ty hb).ne (I.ks.ty e)) (by decide))
  have n3 : ∀ b, blk A c = some b → ¬ Ty w1 b 45 := fun b hb e => absurd (e.ne (q1.ty hb)) (by decide)
  have wy3 : ∀ {x : Pm}, Wy w0 w x → Wy w0 w3 x := fun h => (h.upd u1 n1).upd u3 n3
  have pt3 : ∀ {B : Option Addr} {n d : Nat} {xs : List Value}, Own w w0.heap.size 47 3 B n d xs → Own w3 w0.heap.size 47 3 B n d xs := fun {B n d xs} h => by
    have h1 := h.upd u1 (fun b hb e => absurd ((h.ty hb).ne (I.ks.ty e)) (by decide))
    exact h1.upd u3 (fun b hb e => absurd ((h1.ty hb).ne (q1.ty e)) (by decide))
  have e1 := upd_ext0 I.ex u1 (fun b hb => (I.ks.lt b hb).1)
  have e3 := upd_ext0 e1 u3 (fun b hb => (q1.lt b hb).1)
  have o3 := o1.upd u3 (fun b hb e => absurd ((o1.ty hb).ne (q1.ty e)) (by decide))
  have iQ : i < Q.length := (List.getElem?_eq_some_iff.1 hf).1
  have kat : kw KS (gm.v.tgt m) = (KS.getD k Kw.zero).ws := by rw [← hq]; exact kw_at KS k hk I.kd
  have hx0 := I.kl _ (getD_mem' Kw.zero hk)
  rw [← kat] at hx0
  have T2 : Kn gm.v fr st (Q ++ [⟨m :: f.mv, gm.v.tgt m, p.w, i, j⟩]) (fun q => (kw (KS.set k ⟨gm.v.tgt m, A2, c2, l⟩) q).map Pm.w) := by
    refine I.kn.push I.b G hd (e := ⟨m :: f.mv, gm.v.tgt m, p.w, i, j⟩) gv (fun q hqq => ?_) ?_ (fun x hx => ?_) (fun e => by rw [e] at iQ; exact absurd iQ (Nat.not_lt_zero _))
    · show (kw (KS.set k ⟨gm.v.tgt m, A2, c2, l⟩) q).map Pm.w = _
      rw [kw_set q KS k hk I.kd hq, if_neg hqq]
    · show ((kw (KS.set k ⟨gm.v.tgt m, A2, c2, l⟩) (gm.v.tgt m)).map Pm.w).Perm _
      rw [kw_set _ KS k hk I.kd hq, if_pos rfl, hl]
      exact withR_perm _ _ _
    · obtain ⟨y, hy, rfl⟩ := List.mem_map.1 hx
      exact no y hy
  refine ⟨e3, I.b.push G hd hf hm hv (I.kn.uncovered I.b G hd gv (fun x hx => ?_)), ?_, ?_, ?_, fun x hx => ?_, ?_, fun x hx => ?_, ?_, fun x hx => ?_, T2⟩
  · obtain ⟨y, hy, rfl⟩ := List.mem_map.1 hx
    exact no y hy
  · rw [List.length_append]; have := I.il; omega
  · rw [List.length_append, List.flatMap_append, List.flatMap_singleton]; exact qw
  · rw [List.map_append, I.pv, List.drop_append_of_le_length I.il, List.map_append]
    rfl
  · rcases List.mem_append.1 hx with hx | hx
    · exact wy3 (I.py x hx)
    · rw [List.mem_singleton.1 hx]; exact wy3 hy
  · rw [List.length_set]; exact o3
  · rcases List.mem_or_eq_of_mem_set hx with hx | rfl
    · obtain ⟨k1, k2, k3⟩ := I.kl x hx
      exact ⟨pt3 k1, fun y hy => wy3 (k2 y hy), k3⟩
    · refine ⟨pt3 ow, fun y hy2 => ?_, ?_⟩
      · rcases hlo y hy2 with h | rfl
        · exact wy3 (hx0.2.1 y h)
        · exact wy3 hy
      · show (l.map Pm.w).Pairwise wlt
        rw [hl]
        refine withR_sorted _ _ _ hx0.2.2 (fun y hy2 e => ?_)
        obtain ⟨z, hz, rfl⟩ := List.mem_map.1 hy2
        have := no z hz
        rw [e, pl_refl gv] at this
        cases this
  · rw [kq_set KS k hq]; exact I.kd
  · rcases List.mem_or_eq_of_mem_set hx with hx | rfl
    · exact I.ki x hx
    · have := I.ki _ (getD_mem' Kw.zero hk)
      rw [hq] at this
      exact this
/-- the same ways are put back -/
theorem RaI.same (I : RaI w0 w gm fr st Q i j o A c P KA kc KS) {g k : Nat} (hA : KA = some ⟨g, 0, none⟩) (hk : k < KS.length) (hg : blk KA kc = some g) : RaI w0 (w.setCell ⟨g, k * 4 + 3, none⟩ (.slice (KS.getD k Kw.zero).A (KS.getD k Kw.zero).ws.length (KS.getD k Kw.zero).c)) gm fr st Q i j o A c P KA kc KS := by
  refine I.updK (S := fun b => b = g) (Upd.setCell (S := fun b => b = g) (Upd.refl _ w) (p := ⟨g, k * 4 + 3, none⟩) (.inl rfl) _) (fun b hb => by rw [hb]; exact ⟨(I.ks.lt _ hg).1, I.ks.ty hg⟩) ?_ I.kd I.ki I.kn I.kl
  subst hA
  have h := I.ks.put (k * 4 + 3) (.slice (KS.getD k Kw.zero).A (KS.getD k Kw.zero).ws.length (KS.getD k Kw.zero).c)
  rw [kn_set KS k hk] at h
  have e : KS.set k ⟨(KS.getD k Kw.zero).q, (KS.getD k Kw.zero).A, (KS.getD k Kw.zero).c, (KS.getD k Kw.zero).ws⟩ = KS := by
    have : (⟨(KS.getD k Kw.zero).q, (KS.getD k Kw.zero).A, (KS.getD k Kw.zero).c, (KS.getD k Kw.zero).ws⟩ : Kw) = KS[k] := by
      rw [List.getD_eq_getElem?_getD, List.getElem?_eq_getElem hk]; rfl
    rw [this, List.set_getElem_self]
  rw [e] at h
  exact h
/-- places that are known are not many -/
theorem RaI.few (I : RaI w0 w gm fr st Q i j o A c P KA kc KS) (h : (allS gm).length ≤ 1000) : KS.length ≤ 1001 := by
  have := nodup_le (L := KS.map Kw.q) (O := fr :: goals gm) I.kd (fun x hx => by
    obtain ⟨y, hy, rfl⟩ := List.mem_map.1 hx
    rcases I.ki y hy with h | h
    · rw [h]; exact List.mem_cons_self
    · exact List.mem_cons_of_mem _ h)
  rw [List.length_map, List.length_cons] at this
  unfold goals at this
  rw [List.length_map] at this
  omega
end
/-- one place's steps are gone through -/
structure RaL (w0 wr : World) (gm : Gm) (fr : Pt) (st : Prop) (f : Ent) (wb : Nat) (xq : Pt) (x : Pm) (nt : Nat) (A1 : Option Addr) (c1 : Nat) (A2 : Option Addr) (c2 : Nat) (L : List (Pt × Pm)) (Q : List Ent) (i j : Nat) (A : Option Addr) (c : Nat) (P : List Sm) (KA : Option Addr) (kc : Nat) (KS : List Kw) : Prop where
  ra : RaI w0 wr gm fr st Q i j (i + 1) A c P KA kc KS
  qi : Q[i]? = some f
  nb : ∀ k, blk A c = some k → k ≠ wb
  wy : Wy w0 wr x
  bk : Bk wr wb 115 #[.int .i64 xq.n, .bool xq.o, .int .i64 xq.p, .int .i64 x.w.leave, .int .u32 x.w.add, .slice x.A x.w.enter.length x.c]
  tt : Own wr w0.heap.size 27 3 A1 nt c1 ((L.map Prod.fst).flatMap ptC)
  via : Own wr w0.heap.size 47 3 A2 nt c2 ((L.map Prod.snd).flatMap pmC)
section
variable {w0 w w' : World} {gm : Gm} {fr : Pt} {st : Prop} {f : Ent} {wb : Nat} {xq : Pt} {x : Pm} {nt : Nat} {A1 A2 : Option Addr} {c1 c2 : Nat} {L : List (Pt × Pm)} {Q : List Ent} {i j : Nat} {A : Option Addr} {c : Nat} {P : List Sm} {KA : Option Addr} {kc : Nat} {KS : List Kw}
theorem RaL.ext (h : RaL w0 w gm fr st f wb xq x nt A1 c1 A2 c2 L Q i j A c P KA kc KS) (e : Ext w w') : RaL w0 w' gm fr st f wb xq x nt A1 c1 A2 c2 L Q i j A c P KA kc KS :=
  ⟨h.ra.ext e, h.qi, h.nb, h.wy.ext e, h.bk.ext e, h.tt.ext e, h.via.ext e⟩
theorem RaL.off (h : RaL w0 w gm fr st f wb xq x nt A1 c1 A2 c2 L Q i j A c P KA kc KS) {m : Mv Pt Wid} (hm : (gm.v.mvs f.at')[j]? = some m) (hn : (thn f.w (gm.v.mw m)).2 ≠ 0) : RaL w0 w gm fr st f wb xq x nt A1 c1 A2 c2 L Q i (j + 1) A c P KA kc KS :=
  ⟨h.ra.off h.qi hm hn, h.qi, h.nb, h.wy, h.bk, h.tt, h.via⟩
/-- what is known, or what waits, is written to -/
theorem RaL.turn {S : Nat → Prop} (h : RaL w0 w gm fr st f wb xq x nt A1 c1 A2 c2 L Q i j A c P KA kc KS) (u : Upd S w w') (hS : ∀ k, S k → k ≠ wb ∧ (Ty w k 118 ∨ Ty w k 115)) {Q' : List Ent} {j' : Nat} {A' : Option Addr} {c' : Nat} {P' : List Sm} {KA' : Option Addr} {kc' : Nat} {KS' : List Kw}
    (ra : RaI w0 w' gm fr st Q' i j' (i + 1) A' c' P' KA' kc' KS') (qi : Q'[i]? = some f) (nb : ∀ k, blk A' c' = some k → k ≠ wb) : RaL w0 w' gm fr st f wb xq x nt A1 c1 A2 c2 L Q' i j' A' c' P' KA' kc' KS' := by
  have ne : ∀ {T : TypeId}, T ≠ 118 → T ≠ 115 → ∀ {B : Option Addr} {n d s : Nat} {xs : List Value}, Own w w0.heap.size T s B n d xs → Own w' w0.heap.size T s B n d xs := fun {T} t1 t2 {B n d s xs} o => o.upd u (fun k hk e => by
    rcases (hS k e).2 with q | q
    · exact t1 ((o.ty hk).ne q)
    · exact t2 ((o.ty hk).ne q))
  exact ⟨ra, qi, nb, ne (by decide) (by decide) h.wy, h.bk.updB u (fun e => (hS _ e).1 rfl), ne (by decide) (by decide) h.tt, ne (by decide) (by decide) h.via⟩
theorem RaL.kty (h : RaL w0 w gm fr st f wb xq x nt A1 c1 A2 c2 L Q i j A c P KA kc KS) {k : Nat} (hk : blk KA kc = some k) : k ≠ wb ∧ (Ty w k 118 ∨ Ty w k 115) :=
  ⟨fun e => absurd ((h.ra.ks.ty hk).ne (e ▸ h.bk.ty)) (by decide), .inl (h.ra.ks.ty hk)⟩
theorem RaL.place (h : RaL w0 w gm fr st f wb xq x nt A1 c1 A2 c2 L Q i j A c P KA kc KS) {t : Pt} (ht : ∀ y ∈ KS, y.q ≠ t) (hg : t = fr ∨ t ∈ goals gm) (g : w.grownBy w' (blk KA kc)) {KA' : Option Addr} {kc' : Nat} (o' : Own w' w0.heap.size 118 4 KA' (KS.length + 1) kc' (KS.flatMap knC ++ knC ⟨t, none, 0, []⟩)) :
    RaL w0 w' gm fr st f wb xq x nt A1 c1 A2 c2 L Q i j A c P KA' kc' (KS ++ [⟨t, none, 0, []⟩]) :=
  h.turn ((Upd.refl _ w).grown g (fun k hk => .inl hk)) (fun k hk => h.kty hk) (h.ra.place ht hg g o') h.qi h.nb
theorem RaL.same (h : RaL w0 w gm fr st f wb xq x nt A1 c1 A2 c2 L Q i j A c P KA kc KS) {g k : Nat} (hA : KA = some ⟨g, 0, none⟩) (hk : k < KS.length) (hg : blk KA kc = some g) : RaL w0 (w.setCell ⟨g, k * 4 + 3, none⟩ (.slice (KS.getD k Kw.zero).A (KS.getD k Kw.zero).ws.length (KS.getD k Kw.zero).c)) gm fr st f wb xq x nt A1 c1 A2 c2 L Q i j A c P KA kc KS :=
  h.turn (Upd.setCell (S := fun b => b = g) (Upd.refl _ w) (p := ⟨g, k * 4 + 3, none⟩) (.inl rfl) _) (fun b hb => by rw [hb]; exact h.kty hg) (h.ra.same hA hk hg) h.qi h.nb
theorem RaL.skip (h : RaL w0 w gm fr st f wb xq x nt A1 c1 A2 c2 L Q i j A c P KA kc KS) {m : Mv Pt Wid} {v : Way} (hm : (gm.v.mvs f.at')[j]? = some m) (hv : thn f.w (gm.v.mw m) = (v, 0)) {y : Pm} (hy : y ∈ kw KS (gm.v.tgt m)) (hl : pl y.w v (gm.v.dp fr) = true) : RaL w0 w gm fr st f wb xq x nt A1 c1 A2 c2 L Q i (j + 1) A c P KA kc KS :=
  ⟨h.ra.skip h.qi hm hv hy hl, h.qi, h.nb, h.wy, h.bk, h.tt, h.via⟩
theorem RaL.push (h : RaL w0 w gm fr st f wb xq x nt A1 c1 A2 c2 L Q i j A c P KA kc KS) (G : GOK gm.v) (hd : (gm.v.dep fr).isSome) {m : Mv Pt Wid} {p : Pm} (hm : (gm.v.mvs f.at')[j]? = some m) (hv : thn f.w (gm.v.mw m) = (p.w, 0)) (gv : GoodW (gm.v.dp fr) (gm.v.dp (gm.v.tgt m)) p.w) {t : Pt} (ht : gm.v.tgt m = t) (hy : Wy w0 w p) {k : Nat} (hk : k < KS.length) (hq : (KS.getD k Kw.zero).q = t) (no : ∀ x ∈ kw KS t, pl x.w p.w (gm.v.dp fr) = false)
    {B2 : Option Addr} {d2 : Nat} {l : List Pm} (hl : l.map Pm.w = withR (gm.v.dp fr) p.w ((kw KS t).map Pm.w) false []) (hlo : ∀ x ∈ l, x ∈ kw KS t ∨ x = p) (ow : Own w w0.heap.size 47 3 B2 l.length d2 (l.flatMap pmC)) {g : Nat} (hA : KA = some ⟨g, 0, none⟩) (hg : blk KA kc = some g)
    {w3 : World} {A3 : Option Addr} {c3 : Nat} (qw : OwnQ w3 w0.heap.size 115 6 A3 (P.length + 1) c3 (P.flatMap spC ++ spC ⟨t, p⟩)) (u3 : Upd (fun k => blk A c = some k) (w.setCell ⟨g, k * 4 + 3, none⟩ (.slice B2 l.length d2)) w3) (nb3 : ∀ k, blk A3 c3 = some k → k ≠ wb) :
    RaL w0 w3 gm fr st f wb xq x nt A1 c1 A2 c2 L (Q ++ [⟨m :: f.mv, t, p.w, i, j⟩]) i (j + 1) A3 c3 (P ++ [⟨t, p⟩]) KA kc (KS.set k ⟨t, B2, d2, l⟩) := by
  have u1 : Upd (fun b => blk KA kc = some b) w (w.setCell ⟨g, k * 4 + 3, none⟩ (.slice B2 l.length d2)) := Upd.setCell (S := fun b => blk KA kc = some b) (Upd.refl _ w) (p := ⟨g, k * 4 + 3, none⟩) (.inl hg) _
  have o1 : Own (w.setCell ⟨g, k * 4 + 3, none⟩ (.slice B2 l.length d2)) w0.heap.size 118 4 KA KS.length kc ((KS.set k ⟨t, B2, d2, l⟩).flatMap knC) := by
    have h1 := h.ra.ks
    rw [hA] at h1 ⊢
    have h2 := h1.put (k * 4 + 3) (.slice B2 l.length d2)
    rw [kn_set KS k hk, hq] at h2
    exact h2
  have q1 : OwnQ (w.setCell ⟨g, k * 4 + 3, none⟩ (.slice B2 l.length d2)) w0.heap.size 115 6 A P.length c (P.flatMap spC) := h.ra.q.upd u1 (fun b hb e => absurd ((h.ra.q.ty hb).ne (h.ra.ks.ty e)) (by decide))
  have ra := h.ra.push G hd h.qi hm hv gv ht hy hk hq no hl hlo ow u1 o1 qw u3
  have uu : Upd (fun b => blk KA kc = some b ∨ blk A c = some b) w w3 := (u1.mono (fun _ _ h => .inl h)).trans (u3.mono (fun _ _ h => .inr h))
  refine h.turn uu (fun b hb => ?_) ra (by rw [List.getElem?_append_left (List.getElem?_eq_some_iff.1 h.qi).1]; exact h.qi) nb3
  rcases hb with hb | hb
  · exact h.kty hb
  · exact ⟨h.nb b hb, .inr (h.ra.q.ty hb)⟩
end
end Go.Proofs.Yteklohamkmiphaa
namespace Go.Proofs.Yteklohamkmiphaa
open Go.RowKit

set_option maxRecDepth 100000 in
set_option maxHeartbeats 400000 in
theorem rsign_any (x y : Int) (w : World) : Calls Try.prog 98 #[.int .u64 x, .int .u64 y] w fun e w' => e = .returned (.int .i64 (cmpT x y)) ∧ w = w' := by
  rcases Int.lt_trichotomy x y with h | h | h
  · rw [cmpT_lt h]
    go_enter Try.func98, Try.ntmps98
    go_wp2
    go_ret
    exact ⟨rfl, rfl⟩
  · subst h
    rw [cmpT_self]
    go_enter Try.func98, Try.ntmps98
    go_wp2
    go_ret
    exact ⟨rfl, rfl⟩
  · rw [cmpT_gt h]
    have h2 : ¬ x < y := by omega
    go_enter Try.func98, Try.ntmps98
    go_wp2
    go_ret
    exact ⟨rfl, rfl⟩
theorem rsign_at {v : Int} (x y : Int) (w : World) (h : Hid (cmpT x y = v)) : Calls Try.prog 98 #[.int .u64 x, .int .u64 y] w fun e w' => e = .returned (.int .i64 v) ∧ w = w' := h.out ▸ rsign_any x y w
/-- what is told when k counters have been looked at -/
def fromK (l1 l2 : List Int) (k : Nat) (v : Int) : Int := if v = 0 then lexT (l1.drop k) (l2.drop k) else v
set_option maxRecDepth 100000 in
set_option maxHeartbeats 2000000 in
theorem rcmp_off (e1 e2 : Int) (A1 A2 : Option Addr) (n1 n2 c1 c2 : Nat) (w : World) (v : Int) (hv : Hid (cmpT n1 n2 = v)) (v0 : (v == 0) = false) (hn1 : n1 ≤ 1000000) (hn2 : n2 ≤ 1000000) :
    Calls Try.prog 91 #[.agg #[.int .u64 e1, .slice A1 n1 c1], .agg #[.int .u64 e2, .slice A2 n2 c2]] w fun e w' => e = .returned (.int .i64 v) ∧ Ext w w' := by
  have w1_ : IntKind.u64.wrap (n1 : Int) = n1 := IntWalk.u64_in _ (by omega)
  have w2_ : IntKind.u64.wrap (n2 : Int) = n2 := IntWalk.u64_in _ (by omega)
  go_enter Try.func91, Try.ntmps91
  go_wp2_with (go_at_call 98; refine (rsign_at _ _ _ hv).mono ?_; rintro r w1 ⟨rfl, rfl⟩)
  refine wp_loop_rounds 1 ?_
  rw [rounds_succ]
  go_wp2
  all_goals go_ret
  all_goals exact ⟨rfl, ((Ext.refl w).alloc _).alloc _⟩
set_option maxRecDepth 100000 in
set_option maxHeartbeats 4000000 in
theorem rcmp_same (e1 e2 : Int) (A1 A2 : Option Addr) (n c1 c2 : Nat) (l1 l2 : List Int) (w : World) (h1 : Sl w 1 A1 n c1 (wds l1)) (h2 : Sl w 1 A2 n c2 (wds l2)) (u1 : U32 l1) (u2 : U32 l2) (hn : n ≤ 1000000) :
    Calls Try.prog 91 #[.agg #[.int .u64 e1, .slice A1 n c1], .agg #[.int .u64 e2, .slice A2 n c2]] w fun e w' => e = .returned (.int .i64 (fromK l1 l2 0 (cmpT e1 e2))) ∧ Ext w w' := by
  have HL1 := Lib.hid h1.wlen
  have HL2 := Lib.hid h2.wlen
  have HU1 := Lib.hid u1
  have HU2 := Lib.hid u2
  have w1_ : IntKind.u64.wrap (n : Int) = n := IntWalk.u64_in _ (by omega)
  have hs : Hid (cmpT n n = 0) := Lib.hid (cmpT_self _)
  obtain ⟨R, hR⟩ : ∃ R, fromK l1 l2 0 (cmpT e1 e2) = R := ⟨_, rfl⟩
  rw [hR]
  have HR := Lib.hid hR
  obtain ⟨v, hv⟩ : ∃ v, cmpT e1 e2 = v := ⟨_, rfl⟩
  have hv1 := Lib.hid hv
  have HV : Hid (fromK l1 l2 0 v = R) := Lib.hid (by rw [← hv]; exact hR)
  clear hR hv u1 u2
  have m1 : True := trivial
  go_enter Try.func91, Try.ntmps91
  go_wp2_with (first
    | (go_at_call 98; have mk := m1; clear m1 mk; refine (rsign_at _ _ _ hs).mono ?_; rintro r w1 ⟨rfl, rfl⟩; have m2 : True := trivial)
    | (go_at_call 98; have mk := m2; clear m2 mk; refine (rsign_at _ _ _ hv1).mono ?_; rintro r w1 ⟨rfl, rfl⟩))
  obtain ⟨w0, hw0⟩ : ∃ w0, w0 = (w.alloc (Obj.cells #[Value.int IntKind.u64 e1, Value.slice A1 n c1] 32)).alloc (Obj.cells #[Value.int IntKind.u64 e2, Value.slice A2 n c2] 32) := ⟨_, rfl⟩
  have x0 : Ext w w0 := hw0 ▸ ((Ext.refl w).alloc _).alloc _
  have b1 : w0.cell? ⟨w.heap.size, 1, none⟩ = some (Value.slice A1 n c1) := by subst hw0; go_simp
  have b2 : w0.cell? ⟨w.heap.size + 1, 1, none⟩ = some (Value.slice A2 n c2) := by subst hw0; go_simp
  rw [← hw0]
  clear hw0
  go_loopw [5, 6] (fun u v wr => ∃ (k : Nat) (z : Int), k ≤ n ∧ v = .int .i64 k ∧ u = .int .i64 z ∧ Hid (fromK l1 l2 k z = R) ∧ Ext w0 wr) (fun _ v _ => n - (intOf v).toNat)
  case atStart => exact ⟨0, v, Nat.zero_le _, rfl, rfl, HV, Ext.refl _⟩
  case round =>
    obtain ⟨k, z, hk, rfl, rfl, HZ, er⟩ := hrel
    have d1 : wr.cell? ⟨w.heap.size, 1, none⟩ = some (Value.slice A1 n c1) := er.cell b1
    have d2 : wr.cell? ⟨w.heap.size + 1, 1, none⟩ = some (Value.slice A2 n c2) := er.cell b2
    by_cases hlt : k < n
    · by_cases hz : z = 0
      · subst hz
        obtain ⟨a1, ha1, hc1, _⟩ := (h1.ext (x0.trans er)).word hlt
        obtain ⟨a2, ha2, hc2, _⟩ := (h2.ext (x0.trans er)).word hlt
        obtain ⟨x, hx⟩ : ∃ x, l1.getD k 0 = x := ⟨_, rfl⟩
        obtain ⟨y, hy⟩ : ∃ y, l2.getD k 0 = y := ⟨_, rfl⟩
        obtain ⟨q, hq⟩ : ∃ q, cmpT x y = q := ⟨_, rfl⟩
        have ux := HU1.out.getD k
        have uy := HU2.out.getD k
        rw [hx] at ux hc1
        rw [hy] at uy hc2
        have wx : IntKind.u64.wrap x = x := IntWalk.u64_in _ (by omega)
        have wy : IntKind.u64.wrap y = y := IntWalk.u64_in _ (by omega)
        have HN : Hid (fromK l1 l2 (k + 1) q = R) := Lib.hid (by
          have h := HZ.out
          have e1 := HL1.out
          have e2 := HL2.out
          unfold fromK at h ⊢
          rw [if_pos rfl, lexT_step k l1 l2 (by omega) (by omega), hx, hy, hq] at h
          exact h)
        have HQ := Lib.hid hq
        clear hq hx hy HZ
        go_wp2
        have X : Ext wr wr.drew := (Ext.refl wr).drew
        have q1 : ∀ y : Xt wr.drew, y.W.cell? ⟨w.heap.size, 1, none⟩ = some (.slice A1 n c1) := fun y => y.x.cell (X.cell d1)
        have q2 : ∀ y : Xt wr.drew, y.W.cell? ⟨w.heap.size + 1, 1, none⟩ = some (.slice A2 n c2) := fun y => y.x.cell (X.cell d2)
        have q3 : ∀ y : Xt wr.drew, y.W.cell? (a1.add k) = some (.int .u32 x) := fun y => y.x.cell (X.cell hc1)
        have q4 : ∀ z : Xt wr.drew, z.W.cell? (a2.add k) = some (.int .u32 y) := fun z => z.x.cell (X.cell hc2)
        refine wp_region_ord [0,1,0,7,15,31,0,64,0,448,960,1984,4095,8191] (.flo [0,1,2,3,4,5,6,7,8,9,10,11] (.one 12 (.flo [13] (.fin)))) (by kernel_rfl) (by kernel_rfl) (by intro _ _ d _ _ h; cases d <;> exact h) ?_
        (refine ord_flo (pick_cons rfl (pick_cons rfl (pick_cons rfl (pick_cons rfl (pick_cons rfl (pick_cons rfl (pick_cons rfl (pick_cons rfl (pick_cons rfl (pick_cons rfl (pick_cons rfl (pick_cons rfl pick_nil)))))))))))) ?_; (repeat (go_big_quiet_step (fail))); refine wpQuiet_nil ?_; show ordWalk _ _ _ _ _ _ _)
        refine ord_one (pick_cons rfl pick_nil) ?_; intro K_ hK_
        go_wp2_with (go_at_call 98; refine (rsign_at _ _ _ HQ).mono ?_; rintro r w1 ⟨rfl, rfl⟩)
        (refine ord_flo (pick_cons rfl pick_nil) ?_; (repeat (go_big_quiet_step (fail))); refine wpQuiet_nil ?_; show ordWalk _ _ _ _ _ _ _)
        refine ord_fin ?_
        go_wp2
        rw [← ha1, ← ha2]
        go_roundw
        case rel => exact ⟨k + 1, q, by omega, by go_num, rfl, HN, er.trans X⟩
        case measure => simp [intOf]; omega
      · have z0 : (z == 0) = false := by simpa using hz
        have HF : Hid (z = R) := Lib.hid (by have h := HZ.out; unfold fromK at h; rwa [if_neg hz] at h)
        clear hz HZ
        go_wp2
        go_ret
        exact ⟨by rw [← HF.out]; rfl, x0.trans er⟩
    · obtain rfl : k = n := by omega
      have HF : Hid (z = R) := Lib.hid (by
        have h := HZ.out
        have e1 := HL1.out
        have e2 := HL2.out
        unfold fromK at h
        split at h
        · rename_i h0
          rw [List.drop_eq_nil_of_le (by omega), List.drop_eq_nil_of_le (by omega)] at h
          rw [h0]
          exact h
        · exact h)
      clear HZ
      go_wp2
      all_goals go_ret
      all_goals exact ⟨by rw [← HF.out]; rfl, x0.trans er⟩
theorem rcmp_any (e1 e2 : Int) (A1 A2 : Option Addr) (n1 n2 c1 c2 : Nat) (l1 l2 : List Int) (w : World) (h1 : Sl w 1 A1 n1 c1 (wds l1)) (h2 : Sl w 1 A2 n2 c2 (wds l2)) (u1 : U32 l1) (u2 : U32 l2) (hn1 : n1 ≤ 1000000) (hn2 : n2 ≤ 1000000) :
    Calls Try.prog 91 #[.agg #[.int .u64 e1, .slice A1 n1 c1], .agg #[.int .u64 e2, .slice A2 n2 c2]] w fun e w' => e = .returned (.int .i64 (cmpTT e1 l1 e2 l2)) ∧ Ext w w' := by
  have hl1 := h1.wlen
  have hl2 := h2.wlen
  unfold cmpTT
  rw [hl1, hl2]
  by_cases h : n1 = n2
  · subst h
    rw [show orT (cmpT n1 n1) (cmpT e1 e2) (lexT l1 l2) = fromK l1 l2 0 (cmpT e1 e2) by
      rw [cmpT_self]; rfl]
    exact rcmp_same e1 e2 A1 A2 n1 c1 c2 l1 l2 w h1 h2 u1 u2 hn1
  · have h9 : cmpT n1 n2 ≠ 0 := fun h9 => h (by have := cmpT_zero.1 h9; omega)
    rw [show orT (cmpT n1 n2) (cmpT e1 e2) (lexT l1 l2) = cmpT n1 n2 from if_neg h9]
    exact rcmp_off e1 e2 A1 A2 n1 n2 c1 c2 w _ (Lib.hid rfl) (by simpa using h9) hn1 hn2
end Go.Proofs.Yteklohamkmiphaa
namespace Go.Proofs.Yteklohamkmiphaa
open Go.RowKit

set_option maxRecDepth 100000 in
set_option maxHeartbeats 1000000 in
theorem rbefore_any (La aa Lb ab : Int) (A1 A2 : Option Addr) (n1 n2 c1 c2 : Nat) (l1 l2 : List Int) (w : World) (h1 : Hid (Sl w 1 A1 n1 c1 (wds l1))) (h2 : Hid (Sl w 1 A2 n2 c2 (wds l2))) (u1 : Hid (U32 l1)) (u2 : Hid (U32 l2)) (hn1 : n1 ≤ 1000000) (hn2 : n2 ≤ 1000000) (bb : Bool) (hb : Hid (decide (wlt ⟨La, aa, l1⟩ ⟨Lb, ab, l2⟩) = bb)) :
    Calls Try.prog 76 #[.agg #[.int .i64 La, .int .u32 aa, .slice A1 n1 c1], .agg #[.int .i64 Lb, .int .u32 ab, .slice A2 n2 c2]] w fun e w' => e = .returned (.bool bb) ∧ Ext w w' := by
  have X0 := Lib.hid (((Ext.refl w).alloc (.cells #[.int .i64 La, .int .u32 aa, .slice A1 n1 c1] 47)).alloc (.cells #[.int .i64 Lb, .int .u32 ab, .slice A2 n2 c2] 47))
  by_cases hL : La = Lb
  · subst hL
    by_cases ha : aa = ab
    · subst ha
      obtain ⟨v, hv⟩ : ∃ v, cmpTT 0 l1 0 l2 = v := ⟨_, rfl⟩
      have HC := Lib.hid (fun W (x : Ext w W) => (by have q := rcmp_any 0 0 A1 A2 n1 n2 c1 c2 l1 l2 W (h1.out.ext x) (h2.out.ext x) u1.out u2.out hn1 hn2; rw [hv] at q; exact q : Calls Try.prog 91 #[.agg #[.int .u64 0, .slice A1 n1 c1], .agg #[.int .u64 0, .slice A2 n2 c2]] W fun e w' => e = .returned (.int .i64 v) ∧ Ext W w'))
      have hbv : bb = decide (v < 0) := by
        rw [← hb.out]
        refine decide_eq_decide.2 ⟨fun h => ?_, fun h => ?_⟩
        · rcases wcmp_lt.1 h with q | ⟨_, q | ⟨_, q⟩⟩
          · simp only at q; omega
          · simp only at q; omega
          · rw [← hv]; exact q
        · exact wcmp_lt.2 (.inr ⟨rfl, .inr ⟨rfl, by rw [← hv] at h; exact h⟩⟩)
      have HBV := Lib.hid hbv
      clear hbv hv
      go_enter Try.func76, Try.ntmps76
      go_wp2_with (go_at_call 91; go_loud (refine (HC.out _ X0.out).mono ?_); rintro e w1 ⟨rfl, x1⟩; have X1 := Lib.hid (X0.out.trans x1); clear x1)
      go_ret
      exact ⟨by rw [HBV.out]; rfl, X1.out⟩
    · have hab : (aa != ab) = true := by simpa using ha
      have hbv : bb = decide (aa < ab) := by
        rw [← hb.out]
        refine decide_eq_decide.2 ⟨fun h => ?_, fun h => ?_⟩
        · rcases wcmp_lt.1 h with q | ⟨_, q | ⟨q, _⟩⟩
          · simp only at q; omega
          · exact q
          · exact absurd q ha
        · exact wcmp_lt.2 (.inr ⟨rfl, .inl h⟩)
      have HBV := Lib.hid hbv
      clear hbv
      go_enter Try.func76, Try.ntmps76
      go_wp2
      go_ret
      exact ⟨by rw [HBV.out]; rfl, X0.out⟩
  · have hLb : (La != Lb) = true := by simpa using hL
    have hbv : bb = decide (La < Lb) := by
      rw [← hb.out]
      refine decide_eq_decide.2 ⟨fun h => ?_, fun h => ?_⟩
      · rcases wcmp_lt.1 h with q | ⟨q, _⟩
        · exact q
        · exact absurd q hL
      · exact wcmp_lt.2 (.inl h)
    have HBV := Lib.hid hbv
    clear hbv
    go_enter Try.func76, Try.ntmps76
    go_wp2
    go_ret
    exact ⟨by rw [HBV.out]; rfl, X0.out⟩
end Go.Proofs.Yteklohamkmiphaa
namespace Go.Proofs.Yteklohamkmiphaa
open Go.RowKit

set_option maxRecDepth 100000 in
set_option maxHeartbeats 1000000 in
theorem rplace_w (L a d i : Int) (A : Option Addr) (n c : Nat) (l : List Int) (w : World) (hs : Sl w 1 A n c (wds l))
    (h0 : 0 ≤ i) (h1 : 0 ≤ L) (h2 : L ≤ d) (h3 : d ≤ 1000) (hi : i - (d - L) - 1 < n) (hn : n ≤ 1000000) (hi2 : i ≤ 1000000) (ul : U32 l) :
    Calls Try.prog 74 #[.agg #[.int .i64 L, .int .u32 a, .slice A n c], .int .i64 d, .int .i64 i] w (PlaceOut w (placeT L a l d i)) := by
  have i0 : IntKind.i64.wrap (d - L) = d - L := IntWalk.i64_in _ (by omega)
  by_cases k1 : i < d - L
  · have e : placeT L a l d i = (true, 0) := by unfold placeT; rw [if_pos k1]
    rw [e]
    go_enter Try.func74, Try.ntmps74
    go_wp2
    refine bodyPost_ret (v := .tuple #[.bool true, .int .u32 0]) (by simp only [results, Try.results74]; go_simp) rfl ?_
    exact ⟨rfl, (Ext.refl w).alloc _⟩
  by_cases k2 : i = d - L
  · have e : placeT L a l d i = (true, a) := by unfold placeT; rw [if_neg k1, if_pos k2]
    rw [e]
    subst k2
    go_enter Try.func74, Try.ntmps74
    go_wp2
    go_quiet (fail)
    go_wp2
    refine bodyPost_ret (v := .tuple #[.bool true, .int .u32 a]) (by simp only [results, Try.results74]; go_simp) rfl ?_
    exact ⟨rfl, ((Ext.refl w).alloc _).drewN _⟩
  have e : placeT L a l d i = (false, l.getD (i - (d - L) - 1).toNat 0) := by unfold placeT; rw [if_neg k1, if_neg k2]
  rw [e]
  have i1 : IntKind.i64.wrap (i - (d - L)) = i - (d - L) := IntWalk.i64_in _ (by omega)
  obtain ⟨m, hm⟩ : ∃ m : Nat, i - (d - L) - 1 = m := ⟨(i - (d - L) - 1).toNat, by omega⟩
  have i2 : IntKind.i64.wrap (i - (d - L) - 1) = m := by rw [hm]; exact IntWalk.i64_in _ (by omega)
  have e2 : (i - (d - L) - 1).toNat = m := by omega
  rw [e2]
  have hmn : m < n := by omega
  have x0 : Ext w (w.alloc (Obj.cells #[Value.int IntKind.i64 L, Value.int IntKind.u32 a, Value.slice A n c] 47)) := (Ext.refl w).alloc _
  obtain ⟨a1, ha1, hc1, _⟩ := (hs.ext x0).word hmn
  have ud := ul.getD m
  have WH := Lib.hid (show ∀ (r : Ending) (w' : World), PlaceOut w (false, l.getD m 0) r w' → PlaceOut w (false, l.getD m 0) r w' from fun _ _ h => h)
  clear ul
  subst ha1
  go_enter Try.func74, Try.ntmps74
  go_wp2
  go_quiet (fail)
  go_wp2
  refine bodyPost_ret (v := .tuple #[.bool false, .int .u32 (l.getD m 0)]) (by simp only [results, Try.results74]; go_simp) rfl ?_
  exact ⟨rfl, ((Ext.refl w).alloc _).drewN _⟩

set_option maxRecDepth 100000 in
set_option maxHeartbeats 1000000 in
theorem rpleq_off (La aa Lb ab d : Int) (A1 A2 : Option Addr) (n1 n2 c1 c2 : Nat) (w : World) (hn1 : n1 ≤ 1000000) (hn2 : n2 ≤ 1000000)
    (h : ¬ (0 ≤ d ∧ d ≤ 3 ∧ 0 ≤ La ∧ La ≤ d ∧ 0 ≤ Lb ∧ Lb ≤ d ∧ d - La + n1 ≤ 3 ∧ d - La + n1 = d - Lb + n2)) :
    Calls Try.prog 62 #[.agg #[.int .i64 La, .int .u32 aa, .slice A1 n1 c1], .agg #[.int .i64 Lb, .int .u32 ab, .slice A2 n2 c2], .int .i64 d] w (fun e w' => e = .returned (.bool false) ∧ Ext w w') := by
  by_cases k1 : d < 0
  · go_enter Try.func62, Try.ntmps62
    go_wp2
    refine bodyPost_ret (v := .bool false) (by simp only [results, Try.results62]; go_simp) rfl ?_
    refine ⟨rfl, ?_⟩
    have e1 := Ext.refl w
    (repeat' (first | with_reducible exact e1 | with_reducible refine Ext.drew ?_ | with_reducible refine Ext.drewN ?_ _ | with_reducible refine Ext.alloc ?_ _ | with_reducible refine Ext.set ?_ ?_ _ | omega | (simp; done) | (simp; omega)))
  by_cases k2 : 3 < d
  · go_enter Try.func62, Try.ntmps62
    go_wp2
    refine bodyPost_ret (v := .bool false) (by simp only [results, Try.results62]; go_simp) rfl ?_
    refine ⟨rfl, ?_⟩
    have e1 := Ext.refl w
    (repeat' (first | with_reducible exact e1 | with_reducible refine Ext.drew ?_ | with_reducible refine Ext.drewN ?_ _ | with_reducible refine Ext.alloc ?_ _ | with_reducible refine Ext.set ?_ ?_ _ | omega | (simp; done) | (simp; omega)))
  by_cases k3 : La < 0
  · go_enter Try.func62, Try.ntmps62
    go_wp2
    refine bodyPost_ret (v := .bool false) (by simp only [results, Try.results62]; go_simp) rfl ?_
    refine ⟨rfl, ?_⟩
    have e1 := Ext.refl w
    (repeat' (first | with_reducible exact e1 | with_reducible refine Ext.drew ?_ | with_reducible refine Ext.drewN ?_ _ | with_reducible refine Ext.alloc ?_ _ | with_reducible refine Ext.set ?_ ?_ _ | omega | (simp; done) | (simp; omega)))
  by_cases k4 : d < La
  · go_enter Try.func62, Try.ntmps62
    go_wp2
    refine bodyPost_ret (v := .bool false) (by simp only [results, Try.results62]; go_simp) rfl ?_
    refine ⟨rfl, ?_⟩
    have e1 := Ext.refl w
    (repeat' (first | with_reducible exact e1 | with_reducible refine Ext.drew ?_ | with_reducible refine Ext.drewN ?_ _ | with_reducible refine Ext.alloc ?_ _ | with_reducible refine Ext.set ?_ ?_ _ | omega | (simp; done) | (simp; omega)))
  by_cases k5 : Lb < 0
  · go_enter Try.func62, Try.ntmps62
    go_wp2
    refine bodyPost_ret (v := .bool false) (by simp only [results, Try.results62]; go_simp) rfl ?_
    refine ⟨rfl, ?_⟩
    have e1 := Ext.refl w
    (repeat' (first | with_reducible exact e1 | with_reducible refine Ext.drew ?_ | with_reducible refine Ext.drewN ?_ _ | with_reducible refine Ext.alloc ?_ _ | with_reducible refine Ext.set ?_ ?_ _ | omega | (simp; done) | (simp; omega)))
  by_cases k6 : d < Lb
  · have q6 : (!decide (Lb ≤ d)) = true := by simp; omega
    go_enter Try.func62, Try.ntmps62
    go_wp2
    refine bodyPost_ret (v := .bool false) (by simp only [results, Try.results62]; go_simp) rfl ?_
    refine ⟨rfl, ?_⟩
    have e1 := Ext.refl w
    (repeat' (first | with_reducible exact e1 | with_reducible refine Ext.drew ?_ | with_reducible refine Ext.drewN ?_ _ | with_reducible refine Ext.alloc ?_ _ | with_reducible refine Ext.set ?_ ?_ _ | omega | (simp; done) | (simp; omega)))
  have q6 : (!decide (Lb ≤ d)) = false := by simp; omega
  have i1 : IntKind.i64.wrap (d - La) = d - La := IntWalk.i64_in _ (by omega)
  have i2 : IntKind.i64.wrap (d - La + n1) = d - La + n1 := IntWalk.i64_in _ (by omega)
  have i3 : IntKind.i64.wrap (d - Lb) = d - Lb := IntWalk.i64_in _ (by omega)
  have i4 : IntKind.i64.wrap (d - Lb + n2) = d - Lb + n2 := IntWalk.i64_in _ (by omega)
  by_cases k7 : 3 < d - La + n1
  · go_enter Try.func62, Try.ntmps62
    go_wp2
    refine bodyPost_ret (v := .bool false) (by simp only [results, Try.results62]; go_simp) rfl ?_
    refine ⟨rfl, ?_⟩
    have e1 := Ext.refl w
    (repeat' (first | with_reducible exact e1 | with_reducible refine Ext.drew ?_ | with_reducible refine Ext.drewN ?_ _ | with_reducible refine Ext.alloc ?_ _ | with_reducible refine Ext.set ?_ ?_ _ | omega | (simp; done) | (simp; omega)))
  have k8 : (d - La + n1 != d - Lb + n2) = true := by simp; omega
  clear h
  go_enter Try.func62, Try.ntmps62
  go_wp2
  refine bodyPost_ret (v := .bool false) (by simp only [results, Try.results62]; go_simp) rfl ?_
  refine ⟨rfl, ?_⟩
  have e1 := Ext.refl w
  (repeat' (first | with_reducible exact e1 | with_reducible refine Ext.drew ?_ | with_reducible refine Ext.drewN ?_ _ | with_reducible refine Ext.alloc ?_ _ | with_reducible refine Ext.set ?_ ?_ _ | omega | (simp; done) | (simp; omega)))
end Go.Proofs.Yteklohamkmiphaa
namespace Go.Proofs.Yteklohamkmiphaa
open Go.RowKit

set_option maxRecDepth 100000 in
set_option maxHeartbeats 1000000 in
theorem rpleq_main (La aa Lb ab d : Int) (A1 A2 : Option Addr) (n1 n2 c1 c2 : Nat) (l1 l2 : List Int) (w : World) (h1 : Sl w 1 A1 n1 c1 (wds l1)) (h2 : Sl w 1 A2 n2 c2 (wds l2)) (u1 : U32 l1) (u2 : U32 l2) (hn1 : n1 ≤ 1000000) (hn2 : n2 ≤ 1000000)
    (k1 : 0 ≤ d) (k2 : d ≤ 3) (k3 : 0 ≤ La) (k4 : La ≤ d) (k5 : 0 ≤ Lb) (k6 : Lb ≤ d) (k7 : d - La + n1 ≤ 3) (k8 : d - La + n1 = d - Lb + n2) :
    Calls Try.prog 62 #[.agg #[.int .i64 La, .int .u32 aa, .slice A1 n1 c1], .agg #[.int .i64 Lb, .int .u32 ab, .slice A2 n2 c2], .int .i64 d] w
      (fun e w' => e = .returned (.bool (decide (∀ k : Nat, k < (d - La + n1).toNat + 1 → Never (placeT La aa l1 d k) (placeT Lb ab l2 d k)))) ∧ Ext w w') := by
  have q6 : (!decide (Lb ≤ d)) = false := by simp; omega
  have i1 : IntKind.i64.wrap (d - La) = d - La := IntWalk.i64_in _ (by omega)
  have i2 : IntKind.i64.wrap (d - La + n1) = d - La + n1 := IntWalk.i64_in _ (by omega)
  have i3 : IntKind.i64.wrap (d - Lb) = d - Lb := IntWalk.i64_in _ (by omega)
  have i4 : IntKind.i64.wrap (d - Lb + n2) = d - Lb + n2 := IntWalk.i64_in _ (by omega)
  have i5 : IntKind.i64.wrap (d - La + n1 + 1) = d - La + n1 + 1 := IntWalk.i64_in _ (by omega)
  have q8 : (d - La + n1 != d - Lb + n2) = false := by simp; omega
  obtain ⟨T, hT⟩ : ∃ T, T = (d - La + n1).toNat := ⟨_, rfl⟩
  rw [← hT]
  have K8 := Lib.hid k8
  clear k8
  go_enter Try.func62, Try.ntmps62
  go_wp2
  obtain ⟨w0, hw0⟩ : ∃ w0, w0 = ((w.alloc (Obj.cells #[Value.int IntKind.i64 La, Value.int IntKind.u32 aa, Value.slice A1 n1 c1] 47)).alloc (Obj.cells #[Value.int IntKind.i64 Lb, Value.int IntKind.u32 ab, Value.slice A2 n2 c2] 47)) := ⟨_, rfl⟩
  have e0 : Ext w w0 := hw0 ▸ ((Ext.refl w).alloc _).alloc _
  have a0 : Bk w0 w.heap.size 47 #[Value.int IntKind.i64 La, Value.int IntKind.u32 aa, Value.slice A1 n1 c1] := by subst hw0; exact (Bk.new _ _ _).alloc _
  have b0 : Bk w0 (w.heap.size + 1) 47 #[Value.int IntKind.i64 Lb, Value.int IntKind.u32 ab, Value.slice A2 n2 c2] := by subst hw0; exact Bk.at (by simp)
  rw [← hw0]
  clear hw0
  go_loopw [8] (fun v wr => ∃ k : Nat, k ≤ T + 1 ∧ v = .int .i64 k ∧ (∀ j : Nat, j < k → Never (placeT La aa l1 d j) (placeT Lb ab l2 d j)) ∧ Ext w0 wr) (fun v _ => T + 1 - (intOf v).toNat)
  case atStart => exact ⟨0, Nat.zero_le _, rfl, fun j hj => absurd hj (by omega), Ext.refl _⟩
  case round =>
    obtain ⟨k, hk, rfl, hall, er⟩ := hrel
    have H := Lib.hid hall
    clear hall
    have f1 : wr.cell? ⟨w.heap.size, 0, none⟩ = some (.int .i64 La) := er.cell (a0.cell 0)
    have f2 : wr.cell? ⟨w.heap.size, 1, none⟩ = some (.int .u32 aa) := er.cell (a0.cell 1)
    have f3 : wr.cell? ⟨w.heap.size, 2, none⟩ = some (.slice A1 n1 c1) := er.cell (a0.cell 2)
    have f4 : wr.cell? ⟨w.heap.size + 1, 0, none⟩ = some (.int .i64 Lb) := er.cell (b0.cell 0)
    have f5 : wr.cell? ⟨w.heap.size + 1, 1, none⟩ = some (.int .u32 ab) := er.cell (b0.cell 1)
    have f6 : wr.cell? ⟨w.heap.size + 1, 2, none⟩ = some (.slice A2 n2 c2) := er.cell (b0.cell 2)
    by_cases hlt : k < T + 1
    · obtain ⟨⟨ka, na⟩, ha⟩ : ∃ r, placeT La aa l1 d k = r := ⟨_, rfl⟩
      obtain ⟨⟨kb, nb⟩, hb⟩ : ∃ r, placeT Lb ab l2 d k = r := ⟨_, rfl⟩
      have PA := rplace_w La aa d k A1 n1 c1 l1 wr ((h1.ext e0).ext er) (by omega) k3 k4 (by omega) (by omega) hn1 (by omega) u1
      have PB : ∀ w1, Ext wr w1 → _ := fun w1 (x1 : Ext wr w1) => rplace_w Lb ab d k A2 n2 c2 l2 w1 (((h2.ext e0).ext er).ext x1) (by omega) k5 k6 (by omega) (by have := K8.out; omega) hn2 (by omega) u2
      rw [ha] at PA
      rw [hb] at PB
      have hlt3 : (k : Int) ≤ d - La + n1 := by omega
      have HT := Lib.hid hT
      clear hT
      go_wp2_with (first | (have mk2 := mk1; go_at_call 74; refine (PB _ x1).mono ?_; clear PB; rintro r w2 ⟨rfl, x2⟩; have e2 := x1.trans x2) | (go_at_call 74; refine PA.mono ?_; clear PA; rintro r w1 ⟨rfl, x1⟩; have g4 := x1.cell f4; have g5 := x1.cell f5; have g6 := x1.cell f6; have mk1 := trivial))
      all_goals first
        | (refine ⟨⟨k + 1, by omega, by simp, fun j hj => ?_, er.trans e2⟩, ?_⟩
           · by_cases hjk : j < k
             · exact H.out j hjk
             · have hjk2 : j = k := by omega
               rw [hjk2, ha, hb]
               unfold Never
               exact ⟨by assumption, by simp_all⟩
           · simp [intOf]; omega)
        | (refine bodyPost_ret (v := .bool false) (by simp only [results, Try.results62]; go_simp) rfl ?_
           refine ⟨ret_bool (Eq.symm (decide_eq_false fun hh => ?_)), (e0.trans er).trans e2⟩
           have hk2 := hh k hlt
           rw [ha, hb] at hk2
           obtain ⟨t1, t2⟩ := hk2
           dsimp only at t1 t2
           first | omega | (clear K8 q8; simp_all; done) | (clear K8 q8; simp_all; omega))
    · have hk1 : k = T + 1 := by omega
      have hlt3 : ¬ ((k : Int) ≤ d - La + n1) := by omega
      subst hk1
      have HT := Lib.hid hT
      clear hT
      go_wp2
      refine bodyPost_ret (v := .bool true) (by simp only [results, Try.results62]; go_simp) rfl ?_
      exact ⟨ret_bool (Eq.symm (decide_eq_true fun j hj => H.out j hj)), e0.trans er⟩

theorem rpleq_any (La aa Lb ab d : Int) (A1 A2 : Option Addr) (n1 n2 c1 c2 : Nat) (l1 l2 : List Int) (w : World) (h1 : Sl w 1 A1 n1 c1 (wds l1)) (h2 : Sl w 1 A2 n2 c2 (wds l2)) (u1 : U32 l1) (u2 : U32 l2) (hn1 : n1 ≤ 1000000) (hn2 : n2 ≤ 1000000) :
    Calls Try.prog 62 #[.agg #[.int .i64 La, .int .u32 aa, .slice A1 n1 c1], .agg #[.int .i64 Lb, .int .u32 ab, .slice A2 n2 c2], .int .i64 d] w
      (fun e w' => e = .returned (.bool (pathLeqT La aa l1 Lb ab l2 d)) ∧ Ext w w') := by
  have hl1 := h1.wlen
  have hl2 := h2.wlen
  by_cases h : (0 ≤ d ∧ d ≤ 3 ∧ 0 ≤ La ∧ La ≤ d ∧ 0 ≤ Lb ∧ Lb ≤ d ∧ d - La + n1 ≤ 3 ∧ d - La + n1 = d - Lb + n2)
  · obtain ⟨k1, k2, k3, k4, k5, k6, k7, k8⟩ := h
    refine (rpleq_main La aa Lb ab d A1 A2 n1 n2 c1 c2 l1 l2 w h1 h2 u1 u2 hn1 hn2 k1 k2 k3 k4 k5 k6 k7 k8).mono fun e w' ⟨he, hx⟩ => ⟨he.trans (ret_bool ?_), hx⟩
    unfold pathLeqT
    rw [decide_eq_decide, hl1, hl2]
    exact ⟨fun h => ⟨k1, k2, k3, k4, k5, k6, k7, k8, h⟩, fun h => h.2.2.2.2.2.2.2.2⟩
  · have hf : pathLeqT La aa l1 Lb ab l2 d = false := by
      unfold pathLeqT
      rw [hl1, hl2]
      exact decide_eq_false fun hh => h ⟨hh.1, hh.2.1, hh.2.2.1, hh.2.2.2.1, hh.2.2.2.2.1, hh.2.2.2.2.2.1, hh.2.2.2.2.2.2.1, hh.2.2.2.2.2.2.2.1⟩
    rw [hf]
    exact rpleq_off La aa Lb ab d A1 A2 n1 n2 c1 c2 w hn1 hn2 h
end Go.Proofs.Yteklohamkmiphaa
namespace Go.Proofs.Yteklohamkmiphaa
open Go.RowKit

def RWithNo (w : World) (A : Option Addr) (n c : Nat) (e : Ending) (w' : World) : Prop := e = .returned (.tuple #[.slice A n c, .bool false]) ∧ Ext w w'
def RWithOut (w : World) (M : List Pm) (p : Pm) (d : Int) (e : Ending) (w' : World) : Prop := ∃ (A' : Option Addr) (n' c' : Nat) (M' : List Pm), e = .returned (.tuple #[.slice A' n' c', .bool true]) ∧ n' = M'.length ∧ Own w' w.heap.size 47 3 A' n' c' (M'.flatMap pmC) ∧ M'.map Pm.w = withR d p.w (M.map Pm.w) false [] ∧ (∀ x ∈ M', x ∈ M ∨ x = p) ∧ n' ≤ M.length + 1 ∧ Ext w w'
/-- ways in memory, fit to be compared -/
structure WysR (w : World) (A : Option Addr) (n c : Nat) (M : List Pm) : Prop where
  ln : n = M.length
  sl : Sl w 3 A n c (M.flatMap pmC)
  pr : ∀ x ∈ M, PmR w x ∧ Few32 x.w
theorem WysR.ext {w w' : World} {A : Option Addr} {n c : Nat} {M : List Pm} (h : WysR w A n c M) (e : Ext w w') : WysR w' A n c M := ⟨h.ln, h.sl.ext e, fun x hx => ⟨(h.pr x hx).1.ext e, (h.pr x hx).2⟩⟩
theorem WysR.at {w : World} {A : Option Addr} {n c : Nat} {M : List Pm} (h : WysR w A n c M) {i : Nat} (hi : i < n) : ∃ ad, A = some ad ∧ w.cell? (ad.add (i * 3)) = some (.int .i64 (M.getD i Pm.zero).w.leave) ∧ w.cell? ⟨(ad.add (i * 3)).block, (ad.add (i * 3)).off + 1, none⟩ = some (.int .u32 (M.getD i Pm.zero).w.add) ∧ w.cell? ⟨(ad.add (i * 3)).block, (ad.add (i * 3)).off + 2, none⟩ = some (.slice (M.getD i Pm.zero).A (M.getD i Pm.zero).w.enter.length (M.getD i Pm.zero).c) ∧ M.getD i Pm.zero ∈ M := by
  have hL : i < M.length := by rw [← h.ln]; exact hi
  obtain ⟨ad, e, p0, p1⟩ := els_at pmC 3 pmC_len Pm.zero h.sl h.ln hL (by omega)
  exact ⟨ad, e, p0 _ rfl, p1 0 _ rfl, p1 1 _ rfl, getD_mem' Pm.zero hL⟩
theorem b_no {kb lt : Bool} (h : false = (!kb && lt)) : (kb || lt) = kb ∧ (!kb && lt) = false := by cases kb <;> cases lt <;> simp_all
theorem b_yes {kb lt : Bool} (h : true = (!kb && lt)) : (kb || lt) = true ∧ (!kb && lt) = true ∧ kb = false := by cases kb <;> cases lt <;> simp_all
/-- ways that are put together so far -/
structure WthI (w0 wr : World) (M : List Pm) (p : Pm) (d : Int) (i : Nat) (kb : Bool) (A : Option Addr) (m c : Nat) (Out : List Pm) : Prop where
  ln : m = Out.length
  ow : Own wr w0.heap.size 47 3 A m c (Out.flatMap pmC)
  rs : i ≤ M.length → withR d p.w ((M.drop i).map Pm.w) kb (Out.map Pm.w) = withR d p.w (M.map Pm.w) false []
  fn : M.length < i → Out.map Pm.w = withR d p.w (M.map Pm.w) false []
  of : ∀ x ∈ Out, x ∈ M ∨ x = p
  le : m ≤ i + (if kb then 1 else 0)
  l2 : m ≤ M.length + 1
  ex : Ext w0 wr
set_option maxRecDepth 100000 in
set_option maxHeartbeats 4000000 in
theorem rwith_no (La aa : Int) (A1 : Option Addr) (n1 c1 : Nat) (l1 : List Int) (d : Int) (A : Option Addr) (n c : Nat) (M : List Pm) (w : World) (hM : Hid (WysR w A n c M)) (h1 : Hid (Sl w 1 A1 n1 c1 (wds l1))) (u1 : Hid (U32 l1)) (hn1 : n1 ≤ 1000000) (hx : Hid (∃ x ∈ M, pl x.w ⟨La, aa, l1⟩ d = true)) :
    Calls Try.prog 65 #[.slice A n c, .agg #[.int .i64 La, .int .u32 aa, .slice A1 n1 c1], .int .i64 d] w (RWithNo w A n c) := by
  obtain ⟨w0, hw0⟩ : ∃ w0, w0 = w.alloc (.cells #[.int .i64 La, .int .u32 aa, .slice A1 n1 c1] 47) := ⟨_, rfl⟩
  obtain ⟨b, hb⟩ : ∃ b, b = w.heap.size := ⟨_, rfl⟩
  have X0 : Hid (Ext w w0) := Lib.hid (by rw [hw0]; exact (Ext.refl w).alloc _)
  have BP : Hid (Bk w0 b 47 #[.int .i64 La, .int .u32 aa, .slice A1 n1 c1]) := Lib.hid (by rw [hw0, hb]; exact Bk.new _ _ _)
  have hle : n ≤ 9223372036854775807 := hM.out.sl.le
  obtain ⟨x0, hx0, hx1⟩ := hx.out
  obtain ⟨i0, hi0, hxi⟩ := List.getElem_of_mem hx0
  have HI0 : Hid (i0 < n ∧ pl (M.getD i0 Pm.zero).w ⟨La, aa, l1⟩ d = true) := Lib.hid ⟨by rw [hM.out.ln]; exact hi0, by rw [List.getD_eq_getElem?_getD, List.getElem?_eq_getElem hi0, Option.getD_some, hxi]; exact hx1⟩
  clear hx0 hx1 hi0 hxi
  go_enter Try.func65, Try.ntmps65
  go_upto_region 1 with fail
  rw [← hw0, ← hb]
  clear hw0 hb
  go_wp2
  go_loopg [8] n (fun z v8 wr => ∃ i : Nat, v8 = .int .i64 i ∧ i ≤ i0 ∧ z = n - i ∧ Hid (Ext w0 wr))
  case atStart => exact ⟨0, rfl, Nat.zero_le _, rfl, Lib.hid (Ext.refl _)⟩
  case round =>
    obtain ⟨i, rfl, hi, rfl, XR⟩ := hrel
    have hin : i < n := by have := HI0.out.1; omega
    have hiz : (i : Int) < (n : Int) := by omega
    obtain ⟨ad, hA, p0, p1, p2, hm⟩ := (hM.out.ext (X0.out.trans XR.out)).at hin
    subst hA
    have hpr := (hM.out.ext (X0.out.trans XR.out)).pr _ hm
    obtain ⟨⟨xA, xc, ⟨xl, xa, xe⟩⟩, hx⟩ : ∃ e, M.getD i Pm.zero = e := ⟨_, rfl⟩
    rw [hx] at p0 p1 p2 hpr
    simp only at p0 p1 p2
    obtain ⟨xn, hxn⟩ : ∃ x, x = xe.length := ⟨_, rfl⟩
    rw [← hxn] at p2
    obtain ⟨bb, hbb⟩ : ∃ x, pl ⟨xl, xa, xe⟩ ⟨La, aa, l1⟩ d = x := ⟨_, rfl⟩
    have HC := Lib.hid (fun W (x : Ext wr W) => (by have q := rpleq_any xl xa La aa d xA A1 xn n1 xc c1 xe l1 W (by rw [hxn]; exact hpr.1.ext x) (h1.out.ext (X0.out.trans (XR.out.trans x))) hpr.2.1 u1.out (by rw [hxn]; exact hpr.2.2) hn1; rw [show pathLeqT xl xa xe La aa l1 d = bb from hbb] at q; exact q : Calls Try.prog 62 #[.agg #[.int .i64 xl, .int .u32 xa, .slice xA xn xc], .agg #[.int .i64 La, .int .u32 aa, .slice A1 n1 c1], .int .i64 d] W fun e w' => e = .returned (.bool bb) ∧ Ext W w'))
    have HBB : Hid (i = i0 → bb = true) := Lib.hid (fun e => by rw [← hbb]; have := HI0.out.2; rw [← e, hx] at this; exact this)
    have XE : Ext wr wr.drew := (Ext.refl wr).drew
    have q0 : ∀ y : Xt wr.drew, y.W.cell? (ad.add (i * 3)) = some (.int .i64 xl) := fun y => (XE.trans y.x).cell p0
    have q1 : ∀ y : Xt wr.drew, y.W.cell? ⟨(ad.add (i * 3)).block, (ad.add (i * 3)).off + 1, none⟩ = some (.int .u32 xa) := fun y => (XE.trans y.x).cell p1
    have q2 : ∀ y : Xt wr.drew, y.W.cell? ⟨(ad.add (i * 3)).block, (ad.add (i * 3)).off + 2, none⟩ = some (.slice xA xn xc) := fun y => (XE.trans y.x).cell p2
    have r0 : ∀ y : Xt wr.drew, y.W.cell? ⟨b, 0, none⟩ = some (.int .i64 La) := fun y => (BP.out.ext (XR.out.trans (XE.trans y.x))).cell 0
    have r1 : ∀ y : Xt wr.drew, y.W.cell? ⟨b, 1, none⟩ = some (.int .u32 aa) := fun y => (BP.out.ext (XR.out.trans (XE.trans y.x))).cell 1
    have r2 : ∀ y : Xt wr.drew, y.W.cell? ⟨b, 2, none⟩ = some (.slice A1 n1 c1) := fun y => (BP.out.ext (XR.out.trans (XE.trans y.x))).cell 2
    clear p0 p1 p2 hm hpr hx hxn hbb
    go_upto_region 4 with fail
    refine wp_region_ord [0,0,3,7,0,0,63] (.flo [0,1,2,3,4,5] (.one 6 (.fin))) (by kernel_rfl) (by kernel_rfl) (by intro _ _ d _ _ h; cases d <;> exact h) ?_
    (refine ord_flo (pick_cons rfl (pick_cons rfl (pick_cons rfl (pick_cons rfl (pick_cons rfl (pick_cons rfl pick_nil)))))) ?_; (repeat (go_big_quiet_step (fail))); refine wpQuiet_nil ?_; show ordWalk _ _ _ _ _ _ _)
    refine ord_one (pick_cons rfl pick_nil) ?_; intro K_ hK_
    go_wp2_with (go_at_call 62; go_loud (refine (HC.out _ XE).mono ?_); rintro e w1 ⟨rfl, x1⟩; have X1 := Lib.hid (XE.trans x1); clear x1)
    refine ord_fin ?_
    cases bb with
    | true =>
      go_wp2
      go_returns
      exact ⟨rfl, X0.out.trans (XR.out.trans X1.out)⟩
    | false =>
      have hne : i ≠ i0 := fun e => absurd (HBB.out e) (by decide)
      have HNE := Lib.hid hne
      have HIN := Lib.hid hin
      clear hne
      go_wp2
      go_roundg (n - (i + 1))
      case measure => omega
      case rel => exact ⟨i + 1, by go_num, by have := HNE.out; omega, rfl, Lib.hid (XR.out.trans X1.out)⟩
theorem rwith_yes (La aa : Int) (A1 : Option Addr) (n1 c1 : Nat) (l1 : List Int) (d : Int) (A : Option Addr) (n c : Nat) (M : List Pm) (w : World) (hM : Hid (WysR w A n c M)) (h1 : Hid (Sl w 1 A1 n1 c1 (wds l1))) (u1 : Hid (U32 l1)) (hn1 : n1 ≤ 1000000) (hl1 : Hid (n1 = l1.length)) (hno : Hid (∀ x ∈ M, pl x.w ⟨La, aa, l1⟩ d = false)) (hn9 : n ≤ 1263007198127) :
    Calls Try.prog 65 #[.slice A n c, .agg #[.int .i64 La, .int .u32 aa, .slice A1 n1 c1], .int .i64 d] w (RWithOut w M ⟨A1, c1, ⟨La, aa, l1⟩⟩ d) := by
  obtain ⟨w0, hw0⟩ : ∃ w0, w0 = w.alloc (.cells #[.int .i64 La, .int .u32 aa, .slice A1 n1 c1] 47) := ⟨_, rfl⟩
  obtain ⟨b, hb⟩ : ∃ b, b = w.heap.size := ⟨_, rfl⟩
  have X0 : Hid (Ext w w0) := Lib.hid (by rw [hw0]; exact (Ext.refl w).alloc _)
  have BP : Hid (Bk w0 b 47 #[.int .i64 La, .int .u32 aa, .slice A1 n1 c1]) := Lib.hid (by rw [hw0, hb]; exact Bk.new _ _ _)
  go_enter Try.func65, Try.ntmps65
  go_upto_region 1 with fail
  rw [← hw0, ← hb]
  clear hw0 hb
  go_wp2
  go_loopg [8] n (fun z v8 wr => ∃ i : Nat, v8 = .int .i64 i ∧ i ≤ n ∧ z = n - i ∧ Hid (Ext w0 wr))
  case atStart => exact ⟨0, rfl, Nat.zero_le _, rfl, Lib.hid (Ext.refl _)⟩
  case round =>
    obtain ⟨i, rfl, hi, rfl, XR⟩ := hrel
    by_cases hin : i < n
    · have hiz : (i : Int) < (n : Int) := by omega
      obtain ⟨ad, hA, p0, p1, p2, hm⟩ := (hM.out.ext (X0.out.trans XR.out)).at hin
      subst hA
      have hpr := (hM.out.ext (X0.out.trans XR.out)).pr _ hm
      obtain ⟨⟨xA, xc, ⟨xl, xa, xe⟩⟩, hx⟩ : ∃ e, M.getD i Pm.zero = e := ⟨_, rfl⟩
      rw [hx] at p0 p1 p2 hpr
      simp only at p0 p1 p2
      obtain ⟨xn, hxn⟩ : ∃ x, x = xe.length := ⟨_, rfl⟩
      rw [← hxn] at p2
      have hbb : pl ⟨xl, xa, xe⟩ ⟨La, aa, l1⟩ d = false := by have := hno.out _ hm; rw [hx] at this; exact this
      have HC := Lib.hid (fun W (x : Ext wr W) => (by have q := rpleq_any xl xa La aa d xA A1 xn n1 xc c1 xe l1 W (by rw [hxn]; exact hpr.1.ext x) (h1.out.ext (X0.out.trans (XR.out.trans x))) hpr.2.1 u1.out (by rw [hxn]; exact hpr.2.2) hn1; rw [show pathLeqT xl xa xe La aa l1 d = false from hbb] at q; exact q : Calls Try.prog 62 #[.agg #[.int .i64 xl, .int .u32 xa, .slice xA xn xc], .agg #[.int .i64 La, .int .u32 aa, .slice A1 n1 c1], .int .i64 d] W fun e w' => e = .returned (.bool false) ∧ Ext W w'))
      have XE : Ext wr wr.drew := (Ext.refl wr).drew
      have q0 : ∀ y : Xt wr.drew, y.W.cell? (ad.add (i * 3)) = some (.int .i64 xl) := fun y => (XE.trans y.x).cell p0
      have q1 : ∀ y : Xt wr.drew, y.W.cell? ⟨(ad.add (i * 3)).block, (ad.add (i * 3)).off + 1, none⟩ = some (.int .u32 xa) := fun y => (XE.trans y.x).cell p1
      have q2 : ∀ y : Xt wr.drew, y.W.cell? ⟨(ad.add (i * 3)).block, (ad.add (i * 3)).off + 2, none⟩ = some (.slice xA xn xc) := fun y => (XE.trans y.x).cell p2
      have r0 : ∀ y : Xt wr.drew, y.W.cell? ⟨b, 0, none⟩ = some (.int .i64 La) := fun y => (BP.out.ext (XR.out.trans (XE.trans y.x))).cell 0
      have r1 : ∀ y : Xt wr.drew, y.W.cell? ⟨b, 1, none⟩ = some (.int .u32 aa) := fun y => (BP.out.ext (XR.out.trans (XE.trans y.x))).cell 1
      have r2 : ∀ y : Xt wr.drew, y.W.cell? ⟨b, 2, none⟩ = some (.slice A1 n1 c1) := fun y => (BP.out.ext (XR.out.trans (XE.trans y.x))).cell 2
      clear p0 p1 p2 hm hpr hx hxn hbb
      go_upto_region 4 with fail
      refine wp_region_ord [0,0,3,7,0,0,63] (.flo [0,1,2,3,4,5] (.one 6 (.fin))) (by kernel_rfl) (by kernel_rfl) (by intro _ _ d _ _ h; cases d <;> exact h) ?_
      (refine ord_flo (pick_cons rfl (pick_cons rfl (pick_cons rfl (pick_cons rfl (pick_cons rfl (pick_cons rfl pick_nil)))))) ?_; (repeat (go_big_quiet_step (fail))); refine wpQuiet_nil ?_; show ordWalk _ _ _ _ _ _ _)
      refine ord_one (pick_cons rfl pick_nil) ?_; intro K_ hK_
      go_wp2_with (go_at_call 62; go_loud (refine (HC.out _ XE).mono ?_); rintro e w1 ⟨rfl, x1⟩; have X1 := Lib.hid (XE.trans x1); clear x1)
      refine ord_fin ?_
      go_wp2
      go_roundg (n - (i + 1))
      case measure => omega
      case rel => exact ⟨i + 1, by go_num, by omega, rfl, Lib.hid (XR.out.trans X1.out)⟩
    · obtain rfl : n = i := by omega
      have hiz : ¬ (n : Int) < (n : Int) := by omega
      obtain ⟨w2, hw2⟩ : ∃ x : World, x = wr := ⟨_, rfl⟩
      rw [← hw2] at XR ⊢
      clear hw2
      go_wp2
      have W0 : Hid (WthI w2 w2 M ⟨A1, c1, ⟨La, aa, l1⟩⟩ d 0 false none 0 0 []) := Lib.hid ⟨rfl, Own.nil _ _ _ _, fun _ => rfl, fun h => absurd h (by omega), fun x hx => (nomatch hx), Nat.le_refl _, by omega, Ext.refl _⟩
      go_loopg [9, 10, 11] (n + 1) (fun z v9 v10 v11 wr => ∃ (i m c' : Nat) (kb : Bool) (kk : Int) (A' : Option Addr) (Out : List Pm), v9 = .slice A' m c' ∧ v10 = .int .i64 kk ∧ v11 = .int .i64 i ∧ Hid (kk = if kb then 1 else 0) ∧ i ≤ n + 1 ∧ z = n + 1 - i ∧ Hid (WthI w2 wr M ⟨A1, c1, ⟨La, aa, l1⟩⟩ d i kb A' m c' Out))
      case atStart => exact ⟨0, 0, 0, false, 0, none, [], rfl, rfl, rfl, Lib.hid rfl, by omega, rfl, W0⟩
      case round =>
        clear W0
        obtain ⟨i, m, c', kb, kk, A', Out, rfl, rfl, rfl, HKK, hi, rfl, HW⟩ := hrel
        obtain ⟨w3, hw3⟩ : ∃ x : World, x = wr := ⟨_, rfl⟩
        rw [← hw3] at HW ⊢
        clear hw3
        by_cases hin : i < n
        · have hiz : (i : Int) ≤ (n : Int) := by omega
          have hiz2 : (i : Int) < (n : Int) := by omega
          have hiz3 : ((i : Int) == (n : Int)) = false := by simp; omega
          obtain ⟨ad, hA, p0, p1, p2, hm⟩ := (hM.out.ext (X0.out.trans XR.out)).at hin
          subst hA
          have hpr := (hM.out.ext (X0.out.trans XR.out)).pr _ hm
          have hdrop : M.drop i = M.getD i Pm.zero :: M.drop (i + 1) := by
            have hL : i < M.length := by rw [← hM.out.ln]; exact hin
            rw [List.drop_eq_getElem_cons hL, List.getD_eq_getElem?_getD, List.getElem?_eq_getElem hL]; rfl
          obtain ⟨⟨xA, xc, ⟨xl, xa, xe⟩⟩, hx⟩ : ∃ e, M.getD i Pm.zero = e := ⟨_, rfl⟩
          rw [hx] at p0 p1 p2 hpr hdrop hm
          simp only at p0 p1 p2
          obtain ⟨xn, hxn⟩ : ∃ x, x = xe.length := ⟨_, rfl⟩
          rw [← hxn] at p2
          obtain ⟨lt, hlt⟩ : ∃ x, decide (wlt ⟨La, aa, l1⟩ ⟨xl, xa, xe⟩) = x := ⟨_, rfl⟩
          obtain ⟨pb, hpb⟩ : ∃ x, pl ⟨La, aa, l1⟩ ⟨xl, xa, xe⟩ d = x := ⟨_, rfl⟩
          have HCB := Lib.hid (fun W (x : Ext w2 W) => rbefore_any La aa xl xa A1 xA n1 xn c1 xc l1 xe W (Lib.hid (h1.out.ext (X0.out.trans (XR.out.trans x)))) (Lib.hid (by rw [hxn]; exact hpr.1.ext x)) u1 (Lib.hid hpr.2.1) hn1 (by rw [hxn]; exact hpr.2.2) lt (Lib.hid hlt))
          have HCP := Lib.hid (fun W (x : Ext w2 W) => (by have q := rpleq_any La aa xl xa d A1 xA n1 xn c1 xc l1 xe W (h1.out.ext (X0.out.trans (XR.out.trans x))) (by rw [hxn]; exact hpr.1.ext x) u1.out hpr.2.1 hn1 (by rw [hxn]; exact hpr.2.2); rw [show pathLeqT La aa l1 xl xa xe d = pb from hpb] at q; exact q : Calls Try.prog 62 #[.agg #[.int .i64 La, .int .u32 aa, .slice A1 n1 c1], .agg #[.int .i64 xl, .int .u32 xa, .slice xA xn xc], .int .i64 d] W fun e w' => e = .returned (.bool pb) ∧ Ext W w'))
          obtain ⟨k2, hk2⟩ : ∃ x, (kb || lt) = x := ⟨_, rfl⟩
          obtain ⟨OW, hOW⟩ : ∃ x, (if (!kb && lt) = true then Out.map Pm.w ++ [⟨La, aa, l1⟩] else Out.map Pm.w) = x := ⟨_, rfl⟩
          obtain ⟨OX, hOX⟩ : ∃ x : List Way, (if pb = true then [] else [⟨xl, xa, xe⟩]) = x := ⟨_, rfl⟩
          have HRS : Hid (withR d ⟨La, aa, l1⟩ ((M.drop (i + 1)).map Pm.w) k2 (OW ++ OX) = withR d ⟨La, aa, l1⟩ (M.map Pm.w) false []) := Lib.hid (by
            have q := HW.out.rs (by rw [← hM.out.ln]; omega)
            rw [hdrop, List.map_cons, withR, hlt, hpb] at q
            rw [← hk2, ← hOW, ← hOX]
            exact q)
          have HK2E := Lib.hid hk2
          have HOWE := Lib.hid hOW
          have HOXT : Hid (pb = true → OX = []) := Lib.hid (fun e => by rw [← hOX, if_pos e])
          have HOXF : Hid (pb = false → OX = [⟨xl, xa, xe⟩]) := Lib.hid (fun e => by rw [← hOX, e]; rfl)
          clear hk2 hOW hOX
          have HXN := Lib.hid hxn
          have HMM := Lib.hid hm
          have P0 := Lib.hid p0
          have P1 := Lib.hid p1
          have P2 := Lib.hid p2
          have XE : Ext w2 w3.drew := HW.out.ex.trans (Ext.refl w3).drew
          have q0 : ∀ y : Xt w3.drew, y.W.cell? (ad.add (i * 3)) = some (.int .i64 xl) := fun y => (XE.trans y.x).cell P0.out
          have q1 : ∀ y : Xt w3.drew, y.W.cell? ⟨(ad.add (i * 3)).block, (ad.add (i * 3)).off + 1, none⟩ = some (.int .u32 xa) := fun y => (XE.trans y.x).cell P1.out
          have q2 : ∀ y : Xt w3.drew, y.W.cell? ⟨(ad.add (i * 3)).block, (ad.add (i * 3)).off + 2, none⟩ = some (.slice xA xn xc) := fun y => (XE.trans y.x).cell P2.out
          have r0 : ∀ y : Xt w3.drew, y.W.cell? ⟨b, 0, none⟩ = some (.int .i64 La) := fun y => (BP.out.ext (XR.out.trans (XE.trans y.x))).cell 0
          have r1 : ∀ y : Xt w3.drew, y.W.cell? ⟨b, 1, none⟩ = some (.int .u32 aa) := fun y => (BP.out.ext (XR.out.trans (XE.trans y.x))).cell 1
          have r2 : ∀ y : Xt w3.drew, y.W.cell? ⟨b, 2, none⟩ = some (.slice A1 n1 c1) := fun y => (BP.out.ext (XR.out.trans (XE.trans y.x))).cell 2
          clear p0 p1 p2 hm hpr hx hxn hlt hpb hdrop
          go_upto_region 11 with fail
          go_cut [47] from 26 to 72 (fun v47 wx => ∃ cb : Bool, v47 = .bool cb ∧ Hid (cb = (!kb && lt)) ∧ Hid (Ext w3 wx))
          case first =>
            cases kb with
            | true =>
              obtain rfl : kk = 1 := HKK.out
              refine wp_region_ord [0,1,3,7,7,23,63,127,255,255,255,1791,3839,8191,16383,32767] (.flo [0,1,2,3,4,5,6,7,8,9,10,11,12] (.one 13 (.flo [14,15] (.fin)))) (by kernel_rfl) (by kernel_rfl) (by intro _ _ d _ _ h; cases d <;> exact h) ?_
              (refine ord_flo (pick_cons rfl (pick_cons rfl (pick_cons rfl (pick_cons rfl (pick_cons rfl (pick_cons rfl (pick_cons rfl (pick_cons rfl (pick_cons rfl (pick_cons rfl (pick_cons rfl (pick_cons rfl (pick_cons rfl pick_nil))))))))))))) ?_; (repeat (go_big_quiet_step (fail))); refine wpQuiet_nil ?_; show ordWalk _ _ _ _ _ _ _)
              refine ord_one (pick_cons rfl pick_nil) ?_; intro K_ hK_
              go_wp2
              (refine ord_flo (pick_cons rfl (pick_cons rfl pick_nil)) ?_; (repeat (go_big_quiet_step (fail))); refine wpQuiet_nil ?_; show ordWalk _ _ _ _ _ _ _)
              refine ord_fin ?_
              go_wp2_with fail
              go_meet
              case rel => exact ⟨false, rfl, Lib.hid rfl, Lib.hid (Ext.refl w3).drew⟩
            | false =>
              obtain rfl : kk = 0 := HKK.out
              refine wp_region_ord [0,1,3,7,7,23,63,127,255,255,255,1791,3839,8191,16383,32767] (.flo [0,1,2,3,4,5,6,7,8,9,10,11,12] (.one 13 (.flo [14,15] (.fin)))) (by kernel_rfl) (by kernel_rfl) (by intro _ _ d _ _ h; cases d <;> exact h) ?_
              (refine ord_flo (pick_cons rfl (pick_cons rfl (pick_cons rfl (pick_cons rfl (pick_cons rfl (pick_cons rfl (pick_cons rfl (pick_cons rfl (pick_cons rfl (pick_cons rfl (pick_cons rfl (pick_cons rfl (pick_cons rfl pick_nil))))))))))))) ?_; (repeat (go_big_quiet_step (fail))); refine wpQuiet_nil ?_; show ordWalk _ _ _ _ _ _ _)
              refine ord_one (pick_cons rfl pick_nil) ?_; intro K_ hK_
              go_wp2_with (go_at_call 76; go_loud (refine (HCB.out _ XE).mono ?_); rintro e w5 ⟨rfl, x5⟩; have X5 := Lib.hid ((Ext.refl w3).drew.trans x5); clear x5)
              (refine ord_flo (pick_cons rfl (pick_cons rfl pick_nil)) ?_; (repeat (go_big_quiet_step (fail))); refine wpQuiet_nil ?_; show ordWalk _ _ _ _ _ _ _)
              refine ord_fin ?_
              go_wp2_with fail
              go_meet
              case rel => exact ⟨lt, rfl, Lib.hid (by simp), X5⟩
          case rest =>
            clear q0 q1 q2 r0 r1 r2 XE
            obtain ⟨cb, rfl, HCBV, X34⟩ := hcut
            obtain ⟨w5, hw5⟩ : ∃ x : World, x = wc := ⟨_, rfl⟩
            rw [← hw5] at X34 ⊢
            clear hw5
            have XW5 := Lib.hid (HW.out.ex.trans X34.out)
            go_upto_if 47 with fail
            go_cut [9, 10] from 26 to 72 (fun v9 v10 wx => ∃ (m2 c2 : Nat) (kk2 : Int) (A2 : Option Addr) (Out2 : List Pm), v9 = .slice A2 m2 c2 ∧ v10 = .int .i64 kk2 ∧ Hid (kk2 = if k2 then 1 else 0) ∧ Hid (m2 = Out2.length ∧ Own wx w2.heap.size 47 3 A2 m2 c2 (Out2.flatMap pmC) ∧ Ext w2 wx ∧ Out2.map Pm.w = OW ∧ (∀ x ∈ Out2, x ∈ M ∨ x = ⟨A1, c1, ⟨La, aa, l1⟩⟩) ∧ m2 ≤ i + (if k2 then 1 else 0)))
            case first =>
              cases cb with
              | false =>
                go_wp2
                go_meet
                case rel =>
                  have hc := b_no HCBV.out
                  rw [HK2E.out] at hc
                  have how := HOWE.out
                  rw [hc.2] at how
                  have how : Out.map Pm.w = OW := how
                  exact ⟨m, c', kk, A', Out, rfl, rfl, Lib.hid (by rw [hc.1]; exact HKK.out), Lib.hid ⟨HW.out.ln, HW.out.ow.ext X34.out, XW5.out, how, HW.out.of, by rw [hc.1]; exact HW.out.le⟩⟩
              | true =>
                have hc := b_yes HCBV.out
                rw [HK2E.out] at hc
                have how := HOWE.out
                rw [hc.2.1] at how
                have HOWF : Hid (Out.map Pm.w ++ [⟨La, aa, l1⟩] = OW) := Lib.hid how
                have hmi : m ≤ i := by have := HW.out.le; rw [hc.2.2] at this; exact this
                have HC := Lib.hid hc
                have r0 := (BP.out.ext (XR.out.trans XW5.out)).cell 0
                have r1 := (BP.out.ext (XR.out.trans XW5.out)).cell 1
                have r2 := (BP.out.ext (XR.out.trans XW5.out)).cell 2
                have HO := Lib.hid ((HW.out.ow.ext X34.out).alloc (.cells #[.int .i64 La, .int .u32 aa, .slice A1 n1 c1] 47))
                have S1 := Lib.hid (Sl.one w5 #[.int .i64 La, .int .u32 aa, .slice A1 n1 c1] 47 3 rfl)
                have hb1 := (XW5.out.alloc (.cells #[.int .i64 La, .int .u32 aa, .slice A1 n1 c1] 47)).size
                clear hc how
                go_wp2_with (at_builtin; go_loud (refine wpList_append_two _ elem_pm w2.heap.size _ _ rfl rfl A' m c' (Out.flatMap pmC) rfl HO.out (some ⟨w5.heap.size, 0, none⟩) 1 1 [.int .i64 La, .int .u32 aa, .slice A1 n1 c1] rfl S1.out (by intro u hu; simp only [List.mem_cons, List.not_mem_nil, or_false] at hu; rcases hu with rfl | rfl | rfl <;> rfl) (by omega) (by decide) hb1 ?_); intro A6 c6 w6_ o6 g6 x6; have O6 := Lib.hid o6; have G6 := Lib.hid g6; clear o6 g6 x6)
                go_meet
                case rel =>
                  refine ⟨m + 1, c6, 1, A6, Out ++ [⟨A1, c1, ⟨La, aa, l1⟩⟩], rfl, rfl, Lib.hid (by rw [HC.out.1]; rfl), Lib.hid ⟨by rw [List.length_append, HW.out.ln]; rfl, ?_, ?_, by rw [← HOWF.out, List.map_append]; rfl, fun x hx => ?_, by rw [HC.out.1]; exact Nat.succ_le_succ hmi⟩⟩
                  · rw [List.flatMap_append, List.flatMap_singleton]
                    have q := O6.out
                    rw [hl1.out] at q
                    exact q
                  · exact (XW5.out.alloc _).grown G6.out (fun k hk => (HO.out.lt k hk).1)
                  · rcases List.mem_append.1 hx with hx | hx
                    · exact HW.out.of x hx
                    · exact .inr (List.mem_singleton.1 hx)
            case rest =>
              obtain ⟨m2, c2, kk2, A2, Out2, rfl, rfl, HK2, HO2⟩ := hcut
              obtain ⟨w6, hw6⟩ : ∃ x : World, x = wc := ⟨_, rfl⟩
              rw [← hw6] at HO2 ⊢
              clear hw6
              have XE : Ext w2 w6.drew := HO2.out.2.2.1.trans (Ext.refl w6).drew
              have q0 : ∀ y : Xt w6.drew, y.W.cell? (ad.add (i * 3)) = some (.int .i64 xl) := fun y => (XE.trans y.x).cell P0.out
              have q1 : ∀ y : Xt w6.drew, y.W.cell? ⟨(ad.add (i * 3)).block, (ad.add (i * 3)).off + 1, none⟩ = some (.int .u32 xa) := fun y => (XE.trans y.x).cell P1.out
              have q2 : ∀ y : Xt w6.drew, y.W.cell? ⟨(ad.add (i * 3)).block, (ad.add (i * 3)).off + 2, none⟩ = some (.slice xA xn xc) := fun y => (XE.trans y.x).cell P2.out
              have r0 : ∀ y : Xt w6.drew, y.W.cell? ⟨b, 0, none⟩ = some (.int .i64 La) := fun y => (BP.out.ext (XR.out.trans (XE.trans y.x))).cell 0
              have r1 : ∀ y : Xt w6.drew, y.W.cell? ⟨b, 1, none⟩ = some (.int .u32 aa) := fun y => (BP.out.ext (XR.out.trans (XE.trans y.x))).cell 1
              have r2 : ∀ y : Xt w6.drew, y.W.cell? ⟨b, 2, none⟩ = some (.slice A1 n1 c1) := fun y => (BP.out.ext (XR.out.trans (XE.trans y.x))).cell 2
              have hm2 : m2 ≤ i + 1 := by have := HO2.out.2.2.2.2.2; split at this <;> omega
              have HIN := Lib.hid hin
              go_upto_region 14 with fail
              refine wp_region_ord [0,0,2,7,15,31,31,31,223,479,31,2047,4095,8191] (.flo [0,1,2,3,4,5,6,7,8,9,10] (.one 11 (.flo [12,13] (.fin)))) (by kernel_rfl) (by kernel_rfl) (by intro _ _ d _ _ h; cases d <;> exact h) ?_
              (refine ord_flo (pick_cons rfl (pick_cons rfl (pick_cons rfl (pick_cons rfl (pick_cons rfl (pick_cons rfl (pick_cons rfl (pick_cons rfl (pick_cons rfl (pick_cons rfl (pick_cons rfl pick_nil))))))))))) ?_; (repeat (go_big_quiet_step (fail))); refine wpQuiet_nil ?_; show ordWalk _ _ _ _ _ _ _)
              refine ord_one (pick_cons rfl pick_nil) ?_; intro K_ hK_
              go_wp2_with (go_at_call 62; go_loud (refine (HCP.out _ XE).mono ?_); rintro e w7 ⟨rfl, x7⟩; have X7 := Lib.hid ((Ext.refl w6).drew.trans x7); clear x7)
              (refine ord_flo (pick_cons rfl (pick_cons rfl pick_nil)) ?_; (repeat (go_big_quiet_step (fail))); refine wpQuiet_nil ?_; show ordWalk _ _ _ _ _ _ _)
              refine ord_fin ?_
              clear q0 q1 q2 r0 r1 r2 XE
              cases pb with
              | true =>
                have HOX2 := Lib.hid (HOXT.out rfl)
                go_wp2
                go_roundg (n + 1 - (i + 1))
                case measure => omega
                case rel =>
                  exact ⟨i + 1, m2, c2, k2, kk2, A2, Out2, rfl, rfl, by go_num, HK2, by omega, rfl, Lib.hid ⟨HO2.out.1, HO2.out.2.1.ext X7.out, fun _ => by rw [HO2.out.2.2.2.1]; have q := HRS.out; rw [HOX2.out, List.append_nil] at q; exact q, fun h => absurd h (by rw [← hM.out.ln]; omega), HO2.out.2.2.2.2.1, by have := HO2.out.2.2.2.2.2; omega, by rw [← hM.out.ln]; omega, HO2.out.2.2.1.trans X7.out⟩⟩
              | false =>
                have HOX2 := Lib.hid (HOXF.out rfl)
                have XW7 := Lib.hid (HO2.out.2.2.1.trans X7.out)
                have q0 := XW7.out.cell P0.out
                have q1 := XW7.out.cell P1.out
                have q2 := XW7.out.cell P2.out
                have HO := Lib.hid ((HO2.out.2.1.ext X7.out).alloc (.cells #[.int .i64 xl, .int .u32 xa, .slice xA xn xc] 47))
                have S1 := Lib.hid (Sl.one w7 #[.int .i64 xl, .int .u32 xa, .slice xA xn xc] 47 3 rfl)
                have hb1 := (XW7.out.alloc (.cells #[.int .i64 xl, .int .u32 xa, .slice xA xn xc] 47)).size
                go_wp2_with (at_builtin; go_loud (refine wpList_append_two _ elem_pm w2.heap.size _ _ rfl rfl A2 m2 c2 (Out2.flatMap pmC) rfl HO.out (some ⟨w7.heap.size, 0, none⟩) 1 1 [.int .i64 xl, .int .u32 xa, .slice xA xn xc] rfl S1.out (by intro u hu; simp only [List.mem_cons, List.not_mem_nil, or_false] at hu; rcases hu with rfl | rfl | rfl <;> rfl) (by omega) (by decide) hb1 ?_); intro A6 c6 w6_ o6 g6 x6; have O6 := Lib.hid o6; have G6 := Lib.hid g6; clear o6 g6 x6)
                go_roundg (n + 1 - (i + 1))
                case measure => omega
                case rel =>
                  refine ⟨i + 1, m2 + 1, c6, k2, kk2, A6, Out2 ++ [⟨xA, xc, ⟨xl, xa, xe⟩⟩], rfl, rfl, by go_num, HK2, by omega, rfl, Lib.hid ⟨by rw [List.length_append, HO2.out.1]; rfl, ?_, fun _ => ?_, fun h => absurd h (by rw [← hM.out.ln]; omega), fun x hx => ?_, by have := HO2.out.2.2.2.2.2; omega, ?_, (XW7.out.alloc _).grown G6.out (fun k hk => (HO.out.lt k hk).1)⟩⟩
                  · rw [List.flatMap_append, List.flatMap_singleton]
                    have q := O6.out
                    rw [HXN.out] at q
                    exact q
                  · rw [List.map_append, HO2.out.2.2.2.1]
                    have q := HRS.out
                    rw [HOX2.out] at q
                    exact q
                  · rcases List.mem_append.1 hx with hx | hx
                    · exact HO2.out.2.2.2.2.1 x hx
                    · rw [List.mem_singleton.1 hx]; exact .inl HMM.out
                  · rw [← hM.out.ln]; omega
        by_cases hie : i = n
        · obtain rfl : n = i := by omega
          have hiz : (n : Int) ≤ (n : Int) := Int.le_refl _
          have HRS := Lib.hid (HW.out.rs (by rw [← hM.out.ln]; omega))
          rw [show M.drop n = [] by rw [hM.out.ln]; exact List.drop_length] at HRS
          cases kb with
          | true =>
            obtain rfl : kk = 1 := HKK.out
            have HR2 : Hid (Out.map Pm.w = withR d ⟨La, aa, l1⟩ (M.map Pm.w) false []) := Lib.hid HRS.out
            clear HRS
            go_upto_region 11 with fail
            refine wp_region_ord [0,1,3,7,7,23,63,127,255,255,255,1791,3839,8191,16383,32767] (.flo [0,1,2,3,4,5,6,7,8,9,10,11,12] (.one 13 (.flo [14,15] (.fin)))) (by kernel_rfl) (by kernel_rfl) (by intro _ _ d _ _ h; cases d <;> exact h) ?_
            (refine ord_flo (pick_cons rfl (pick_cons rfl (pick_cons rfl (pick_cons rfl (pick_cons rfl (pick_cons rfl (pick_cons rfl (pick_cons rfl (pick_cons rfl (pick_cons rfl (pick_cons rfl (pick_cons rfl (pick_cons rfl pick_nil))))))))))))) ?_; (repeat (go_big_quiet_step (fail))); refine wpQuiet_nil ?_; show ordWalk _ _ _ _ _ _ _)
            refine ord_one (pick_cons rfl pick_nil) ?_; intro K_ hK_
            go_wp2
            (refine ord_flo (pick_cons rfl (pick_cons rfl pick_nil)) ?_; (repeat (go_big_quiet_step (fail))); refine wpQuiet_nil ?_; show ordWalk _ _ _ _ _ _ _)
            refine ord_fin ?_
            go_upto_region 14 with fail
            refine wp_region_ord [0,0,2,7,15,31,31,31,223,479,31,2047,4095,8191] (.flo [0,1,2,3,4,5,6,7,8,9,10] (.one 11 (.flo [12,13] (.fin)))) (by kernel_rfl) (by kernel_rfl) (by intro _ _ d _ _ h; cases d <;> exact h) ?_
            (refine ord_flo (pick_cons rfl (pick_cons rfl (pick_cons rfl (pick_cons rfl (pick_cons rfl (pick_cons rfl (pick_cons rfl (pick_cons rfl (pick_cons rfl (pick_cons rfl (pick_cons rfl pick_nil))))))))))) ?_; (repeat (go_big_quiet_step (fail))); refine wpQuiet_nil ?_; show ordWalk _ _ _ _ _ _ _)
            refine ord_one (pick_cons rfl pick_nil) ?_; intro K_ hK_
            go_wp2
            (refine ord_flo (pick_cons rfl (pick_cons rfl pick_nil)) ?_; (repeat (go_big_quiet_step (fail))); refine wpQuiet_nil ?_; show ordWalk _ _ _ _ _ _ _)
            refine ord_fin ?_
            go_wp2
            go_roundg (n + 1 - (n + 1))
            case measure => omega
            case rel => exact ⟨n + 1, m, c', true, 1, A', Out, rfl, rfl, by go_num, Lib.hid rfl, by omega, rfl, Lib.hid ⟨HW.out.ln, HW.out.ow.ext (Ext.refl _).drew.drew, fun h => absurd h (by rw [← hM.out.ln]; omega), fun _ => HR2.out, HW.out.of, by have := HW.out.le; simp at this ⊢; omega, HW.out.l2, HW.out.ex.trans (Ext.refl _).drew.drew⟩⟩
          | false =>
            obtain rfl : kk = 0 := HKK.out
            have HR2 : Hid (Out.map Pm.w ++ [⟨La, aa, l1⟩] = withR d ⟨La, aa, l1⟩ (M.map Pm.w) false []) := Lib.hid HRS.out
            clear HRS
            have hmn : m ≤ n := by have := HW.out.le; simp at this; omega
            go_upto_region 11 with fail
            refine wp_region_ord [0,1,3,7,7,23,63,127,255,255,255,1791,3839,8191,16383,32767] (.flo [0,1,2,3,4,5,6,7,8,9,10,11,12] (.one 13 (.flo [14,15] (.fin)))) (by kernel_rfl) (by kernel_rfl) (by intro _ _ d _ _ h; cases d <;> exact h) ?_
            (refine ord_flo (pick_cons rfl (pick_cons rfl (pick_cons rfl (pick_cons rfl (pick_cons rfl (pick_cons rfl (pick_cons rfl (pick_cons rfl (pick_cons rfl (pick_cons rfl (pick_cons rfl (pick_cons rfl (pick_cons rfl pick_nil))))))))))))) ?_; (repeat (go_big_quiet_step (fail))); refine wpQuiet_nil ?_; show ordWalk _ _ _ _ _ _ _)
            refine ord_one (pick_cons rfl pick_nil) ?_; intro K_ hK_
            go_wp2
            (refine ord_flo (pick_cons rfl (pick_cons rfl pick_nil)) ?_; (repeat (go_big_quiet_step (fail))); refine wpQuiet_nil ?_; show ordWalk _ _ _ _ _ _ _)
            refine ord_fin ?_
            go_upto_region 12 with fail
            obtain ⟨wD, hwD⟩ : ∃ x : World, x = w3.drew := ⟨_, rfl⟩
            have xD : Ext w3 wD := by rw [hwD]; exact (Ext.refl _).drew
            rw [← hwD]
            have XWD := Lib.hid (HW.out.ex.trans xD)
            have r0 := (BP.out.ext (XR.out.trans XWD.out)).cell 0
            have r1 := (BP.out.ext (XR.out.trans XWD.out)).cell 1
            have r2 := (BP.out.ext (XR.out.trans XWD.out)).cell 2
            have HO := Lib.hid ((HW.out.ow.ext xD).alloc (.cells #[.int .i64 La, .int .u32 aa, .slice A1 n1 c1] 47))
            have S1 := Lib.hid (Sl.one wD #[.int .i64 La, .int .u32 aa, .slice A1 n1 c1] 47 3 rfl)
            have hb1 := (XWD.out.alloc (.cells #[.int .i64 La, .int .u32 aa, .slice A1 n1 c1] 47)).size
            clear hwD xD
            go_upto_region 14 with (at_builtin; go_loud (refine wpList_append_two _ elem_pm w2.heap.size _ _ rfl rfl A' m c' (Out.flatMap pmC) rfl HO.out (some ⟨wD.heap.size, 0, none⟩) 1 1 [.int .i64 La, .int .u32 aa, .slice A1 n1 c1] rfl S1.out (by intro u hu; simp only [List.mem_cons, List.not_mem_nil, or_false] at hu; rcases hu with rfl | rfl | rfl <;> rfl) (by omega) (by decide) hb1 ?_); intro A6 c6 w6_ o6 g6 x6; have O6 := Lib.hid o6; have G6 := Lib.hid g6; clear o6 g6 x6)
            clear r0 r1 r2
            refine wp_region_ord [0,0,2,7,15,31,31,31,223,479,31,2047,4095,8191] (.flo [0,1,2,3,4,5,6,7,8,9,10] (.one 11 (.flo [12,13] (.fin)))) (by kernel_rfl) (by kernel_rfl) (by intro _ _ d _ _ h; cases d <;> exact h) ?_
            (refine ord_flo (pick_cons rfl (pick_cons rfl (pick_cons rfl (pick_cons rfl (pick_cons rfl (pick_cons rfl (pick_cons rfl (pick_cons rfl (pick_cons rfl (pick_cons rfl (pick_cons rfl pick_nil))))))))))) ?_; (repeat (go_big_quiet_step (fail))); refine wpQuiet_nil ?_; show ordWalk _ _ _ _ _ _ _)
            refine ord_one (pick_cons rfl pick_nil) ?_; intro K_ hK_
            go_wp2
            (refine ord_flo (pick_cons rfl (pick_cons rfl pick_nil)) ?_; (repeat (go_big_quiet_step (fail))); refine wpQuiet_nil ?_; show ordWalk _ _ _ _ _ _ _)
            refine ord_fin ?_
            go_wp2
            go_roundg (n + 1 - (n + 1))
            case measure => omega
            case rel =>
              have xd : Ext w6_ w6_.drew := (Ext.refl _).drew
              refine ⟨n + 1, m + 1, c6, true, 1, A6, Out ++ [⟨A1, c1, ⟨La, aa, l1⟩⟩], rfl, rfl, by go_num, Lib.hid rfl, by omega, rfl, Lib.hid ⟨by rw [List.length_append, HW.out.ln]; rfl, ?_, fun h => absurd h (by rw [← hM.out.ln]; omega), fun _ => by rw [List.map_append]; exact HR2.out, fun x hx => ?_, by simp; omega, by rw [← hM.out.ln]; omega, ?_⟩⟩
              · rw [List.flatMap_append, List.flatMap_singleton]
                have q := O6.out.ext xd
                rw [hl1.out] at q
                exact q
              · rcases List.mem_append.1 hx with hx | hx
                · exact HW.out.of x hx
                · exact .inr (List.mem_singleton.1 hx)
              · exact ((XWD.out.alloc _).grown G6.out (fun k hk => (HO.out.lt k hk).1)).trans xd
        · obtain rfl : i = n + 1 := by omega
          have hiz : ¬ ((n : Int) + 1 ≤ (n : Int)) := by omega
          go_wp2
          go_returns
          exact ⟨A', m, c', Out, rfl, HW.out.ln, HW.out.ow.mono (Nat.le_trans X0.out.size XR.out.size), HW.out.fn (by rw [← hM.out.ln]; omega), HW.out.of, HW.out.l2, X0.out.trans (XR.out.trans HW.out.ex)⟩
end Go.Proofs.Yteklohamkmiphaa
namespace Go.Proofs.Yteklohamkmiphaa
open Go.RowKit

theorem grow3 (w : World) (o1 o2 o3 : Obj) : (((w.alloc o1).alloc o2).alloc o3).drew = Go.Sort.grow (w.drewN 1) #[o1, o2, o3] := by
  rw [Go.Sort.alloc_eq_grow, Go.Sort.alloc_eq_grow, Go.Sort.alloc_eq_grow, Go.Sort.grow_grow, Go.Sort.grow_grow]
  rfl
set_option maxRecDepth 100000 in
set_option maxHeartbeats 600000 in
theorem or_eq (g : Nat) (t : TypeId) (x y z : Int) (w : World) (hb : Bk w g t #[.int .i64 x, .int .i64 y, .int .i64 z]) :
    Calls Try.prog 70 #[.slice (some ⟨g, 0, none⟩) 3 3] w fun e w' => e = .returned (.int .i64 (orT x y z)) ∧ w = w' := by
  have hx : w.cell? ⟨g, 0, none⟩ = some (.int .i64 x) := hb.cell 0
  have hy : w.cell? ⟨g, 1, none⟩ = some (.int .i64 y) := hb.cell 1
  have hz : w.cell? ⟨g, 2, none⟩ = some (.int .i64 z) := hb.cell 2
  obtain ⟨r, hr⟩ : ∃ r, r = orT x y z := ⟨_, rfl⟩
  rw [← hr]
  have HR := Lib.hid hr
  clear hr
  go_enter Try.func70, Try.ntmps70
  go_wp2
  go_loop [8] (fun v => ∃ k : Nat, k ≤ 3 ∧ v = .int .i64 k ∧ (0 < k → x = 0) ∧ (1 < k → y = 0) ∧ (2 < k → z = 0)) (fun v => 3 - (intOf v).toNat)
  case atStart => exact ⟨0, by omega, rfl, by omega, by omega, by omega⟩
  case round =>
    obtain ⟨k, hk, rfl, k0, k1, k2⟩ := hrel
    have K0 := Lib.hid k0
    have K1 := Lib.hid k1
    have K2 := Lib.hid k2
    clear k0 k1 k2
    match k, hk with
    | 0, _ =>
      by_cases q : x = 0
      · have q' : (x != 0) = false := by simpa using q
        have Q := Lib.hid q
        clear q
        go_wp2
        go_round
        case rel => exact ⟨1, by omega, rfl, fun _ => Q.out, by omega, by omega⟩
        case measure => simp [intOf]
      · have q' : (x != 0) = true := by simpa using q
        go_wp2
        go_ret
        exact ⟨ret_int (by rw [HR.out]; simp [orT, q]), rfl⟩
    | 1, _ =>
      by_cases q : y = 0
      · have q' : (y != 0) = false := by simpa using q
        have Q := Lib.hid q
        clear q
        go_wp2
        go_round
        case rel => exact ⟨2, by omega, rfl, fun _ => K0.out (by omega), fun _ => Q.out, by omega⟩
        case measure => simp [intOf]
      · have q' : (y != 0) = true := by simpa using q
        go_wp2
        go_ret
        exact ⟨ret_int (by rw [HR.out]; simp [orT, q, K0.out (by omega)]), rfl⟩
    | 2, _ =>
      by_cases q : z = 0
      · have q' : (z != 0) = false := by simpa using q
        have Q := Lib.hid q
        clear q
        go_wp2
        go_round
        case rel => exact ⟨3, by omega, rfl, fun _ => K0.out (by omega), fun _ => K1.out (by omega), fun _ => Q.out⟩
        case measure => simp [intOf]
      · have q' : (z != 0) = true := by simpa using q
        go_wp2
        go_ret
        exact ⟨ret_int (by rw [HR.out]; simp [orT, K1.out (by omega), K0.out (by omega)]), rfl⟩
    | 3, _ =>
      go_wp2
      go_ret
      exact ⟨ret_int (by rw [HR.out]; simp [orT, K1.out (by omega), K0.out (by omega), K2.out (by omega)]), rfl⟩
    | k + 4, hk => omega

set_option maxRecDepth 100000 in
set_option maxHeartbeats 800000 in
theorem cmp_grow (e1 e2 : Int) (A1 A2 : Option Addr) (n1 n2 c1 c2 : Nat) (l1 l2 : List Int) (w : World) (h1 : Sl w 1 A1 n1 c1 (wds l1)) (h2 : Sl w 1 A2 n2 c2 (wds l2)) :
    Calls Try.prog 73 #[.agg #[.int .u64 e1, .slice A1 n1 c1], .agg #[.int .u64 e2, .slice A2 n2 c2]] w fun e w' => e = .returned (.int .i64 (cmpTT e1 l1 e2 l2)) ∧ ∃ q os, w' = Go.Sort.grow (w.drewN q) os := by
  have hR : cmpTT e1 l1 e2 l2 = orT (cmpT n1 n2) (cmpT e1 e2) (lexT l1 l2) := by unfold cmpTT; rw [h1.wlen, h2.wlen]
  rw [hR]
  clear hR
  go_enter Try.func73, Try.ntmps73
  go_upto_region 1 with fail
  obtain ⟨w0, hw0⟩ : ∃ w0, w0 = (w.alloc (Obj.cells #[Value.int IntKind.u64 e1, Value.slice A1 n1 c1] 32)).alloc (Obj.cells #[Value.int IntKind.u64 e2, Value.slice A2 n2 c2] 32) := ⟨_, rfl⟩
  have x0 : Ext w w0 := hw0 ▸ ((Ext.refl w).alloc _).alloc _
  have a0 : Bk w0 w.heap.size 32 #[Value.int IntKind.u64 e1, Value.slice A1 n1 c1] := by subst hw0; exact (Bk.new _ _ _).alloc _
  have b0 : Bk w0 (w.heap.size + 1) 32 #[Value.int IntKind.u64 e2, Value.slice A2 n2 c2] := by subst hw0; exact Bk.at (by simp)
  rw [← hw0]
  have HW0 := Lib.hid hw0
  clear hw0
  have X : Ext w0 w0.drew := (Ext.refl w0).drew
  have q1 : ∀ y : Xt w0.drew, y.W.cell? ⟨w.heap.size, 0, none⟩ = some (.int .u64 e1) := fun y => (a0.ext (X.trans y.x)).cell 0
  have q2 : ∀ y : Xt w0.drew, y.W.cell? ⟨w.heap.size, 1, none⟩ = some (.slice A1 n1 c1) := fun y => (a0.ext (X.trans y.x)).cell 1
  have q3 : ∀ y : Xt w0.drew, y.W.cell? ⟨w.heap.size + 1, 0, none⟩ = some (.int .u64 e2) := fun y => (b0.ext (X.trans y.x)).cell 0
  have q4 : ∀ y : Xt w0.drew, y.W.cell? ⟨w.heap.size + 1, 1, none⟩ = some (.slice A2 n2 c2) := fun y => (b0.ext (X.trans y.x)).cell 1
  refine wp_region_ord [0,1,3,0,8,24,63,0,128,0,512,2047,0,4096,0,16384,65535,131071,262143,524287] (.flo [0,1,2,3,4,5,7,8,9,10,12,13,14,15] (.ext 6 (.ext 11 (.one 16 (.one 17 (.one 18 (.flo [19] (.fin)))))))) (by kernel_rfl) (by kernel_rfl) (by intro _ _ d _ _ h; cases d <;> exact h) ?_
  (refine ord_flo (pick_cons rfl (pick_cons rfl (pick_cons rfl (pick_cons rfl (pick_cons rfl (pick_cons rfl (pick_cons rfl (pick_cons rfl (pick_cons rfl (pick_cons rfl (pick_cons rfl (pick_cons rfl (pick_cons rfl (pick_cons rfl pick_nil)))))))))))))) ?_; (repeat (go_big_quiet_step (fail))); refine wpQuiet_nil ?_; show ordWalk _ _ _ _ _ _ _)
  refine ord_ext (pick_cons rfl pick_nil) ?_; intro K_ hK_
  go_wp2_with (refine (compare_int _ _ _).mono ?_; rintro e w1 ⟨rfl, rfl⟩)
  refine ordNext.mk (Ext.refl _) ?_
  refine ord_ext (pick_cons rfl pick_nil) ?_; intro K_ hK_
  go_wp2_with (refine (compare_u64 _ _ _).mono ?_; rintro e w1 ⟨rfl, rfl⟩)
  refine ordNext.mk (Ext.refl _) ?_
  refine ord_one (pick_cons rfl pick_nil) ?_; intro K_ hK_
  go_wp2_with (refine (lex_any _ _ _ _ _ _ _ _ _ (h1.ext (x0.trans X)) (h2.ext (x0.trans X))).mono ?_; rintro e w1 ⟨rfl, rfl⟩)
  refine ord_one (pick_cons rfl pick_nil) ?_; intro K_ hK_
  go_wp2
  refine ord_one (pick_cons rfl pick_nil) ?_; intro K_ hK_
  go_wp2_with (refine (or_eq _ _ _ _ _ _ (by exact (Bk.at (by simp)).drew)).mono ?_; rintro e w1 ⟨rfl, rfl⟩)
  (refine ord_flo (pick_cons rfl pick_nil) ?_; (repeat (go_big_quiet_step (fail))); refine wpQuiet_nil ?_; show ordWalk _ _ _ _ _ _ _)
  refine ord_fin ?_
  go_wp2
  go_ret
  rw [HW0.out]
  exact ⟨rfl, 1, _, grow3 w _ _ _⟩
end Go.Proofs.Yteklohamkmiphaa
