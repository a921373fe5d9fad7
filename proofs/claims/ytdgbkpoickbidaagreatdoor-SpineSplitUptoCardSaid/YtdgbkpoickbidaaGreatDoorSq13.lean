/- Two spines and a list of updates in memory, each with blocks of its own. penstockref00.SameRow: what it answers. penstockref00.SameRow, SameCounteds, WholeRow, WholeCounteds: of what is the same they say so. penstockref00.SameTime, SameTimes: what they answer. penstockref00.SameUpdates: of what is the same it says so. penstockref00.SameInts at lists that are the same. penstockref00.LentRow: copies with marked room behind. An update of a row of one number, as the laws' first examples have it. penstocklaw11.update, known: what the chapter's examples fix. penstocklaw11.much: are there more updates, times than are looked at? Counts of times: their frontier, and how it moves. Plain. Lists of changes in memory. A spine's Row: a row's changes. A spine's Work at any fuel. Conditions: each theorem states its own. -/
import Derived.Test.YtdgbkpoickbidaaGreatDoorSq12
import Derived.Test.YtdgbkpoickbidaaGreatDoorSq7
import Derived.Test.YtdgbkpoickbidaaGreatDoorSq6
import Derived.Test.YtdgbkpoickbidaaGreatDoorSq3
import Derived.Deep.LoopGhost
import Derived.Test.YtdgbkpoickbidaaGreatDoorSq1
import Derived.Test.YtdgbkpoickbidaaGreatDoorSq4
import Derived.Test.YtdgbkpoickbidaaGreatDoorSq8
import Derived.Test.YtdgbkpoickbidaaGreatDoorSq2
import Derived.Test.YtdgbkpoickbidaaGreatDoorSq11
namespace Go.Proofs.YtdgbkpoickbidaaGreatDoor
open Go.RowKit

/-- all of it lies above the first world w0 -/
structure Duo (w0 w : World) (ga gb : Nat) (ma mb : SpM) (Ra Rb : Nat → Prop) (A : Option Addr) (n c : Nat) (L : List Ud) : Prop where
  ext : Ext w0 w
  a : SpR w Ra ga ma
  b : SpR w Rb gb mb
  la : ∀ k, Ra k → w0.heap.size ≤ k ∧ k < w.heap.size
  lb : ∀ k, Rb k → w0.heap.size ≤ k ∧ k < w.heap.size
  ab : ∀ k, Ra k → ¬ Rb k
  own : Own w w0.heap.size 95 4 A n c (udsC L)
  oa : ∀ k, blk A c = some k → ¬ Ra k ∧ ¬ Rb k
  len : n = L.length
  ls : ∀ x ∈ L, UdR w0 x
section
variable {w0 w w' : World} {ga gb : Nat} {ma mb m' : SpM} {Ra Rb : Nat → Prop} {A : Option Addr} {n c : Nat} {L : List Ud}
theorem Duo.uin (h : Duo w0 w ga gb ma mb Ra Rb A n c L) : Uin w A c L := ⟨by have := h.own.sl; rwa [h.len] at this, fun x hx => (h.ls x hx).ext h.ext⟩
theorem Duo.grow (h : Duo w0 w ga gb ma mb Ra Rb A n c L) (x : Ext w w') : Duo w0 w' ga gb ma mb Ra Rb A n c L :=
  ⟨h.ext.trans x, h.a.ext x, h.b.ext x, fun k hk => ⟨(h.la k hk).1, Nat.lt_of_lt_of_le (h.la k hk).2 x.size⟩, fun k hk => ⟨(h.lb k hk).1, Nat.lt_of_lt_of_le (h.lb k hk).2 x.size⟩, h.ab, h.own.ext x, h.oa, h.len, h.ls⟩
theorem ext_updS {S : Nat → Prop} {a b d : World} (x : Ext a b) (u : Upd S b d) (h : ∀ k, S k → a.heap.size ≤ k) : Ext a d :=
  ⟨u.os.trans (Below.os x), u.tape.trans (Below.tape x), u.output.trans (Below.output x), Nat.le_trans x.size u.size, fun k hk => (u.block k (Nat.lt_of_lt_of_le hk x.size) fun q => by have := h k q; omega).trans (Below.block x k hk)⟩
theorem Duo.stepA (h : Duo w0 w ga gb ma mb Ra Rb A n c L) (u : Upd Ra w w') (s : SpR w' (Rg Ra w w') ga m') : Duo w0 w' ga gb m' mb (Rg Ra w w') Rb A n c L := by
  have z := u.size
  have z0 := h.ext.size
  refine ⟨ext_updS h.ext u fun k hk => (h.la k hk).1, s, h.b.upd u fun k hb ha => h.ab k ha hb, fun k hk => ?_, fun k hk => ⟨(h.lb k hk).1, Nat.lt_of_lt_of_le (h.lb k hk).2 z⟩, fun k hk hb => ?_, h.own.upd u fun k hk => (h.oa k hk).1, fun k hk => ⟨fun q => ?_, (h.oa k hk).2⟩, h.len, h.ls⟩
  · rcases hk with hk | hk
    · exact ⟨(h.la k hk).1, Nat.lt_of_lt_of_le (h.la k hk).2 z⟩
    · exact ⟨by omega, hk.2⟩
  · rcases hk with hk | hk
    · exact h.ab k hk hb
    · have := (h.lb k hb).2; omega
  · rcases q with q | q
    · exact (h.oa k hk).1 q
    · have := (h.own.lt k hk).2; omega
theorem Duo.turn (h : Duo w0 w ga gb ma mb Ra Rb A n c L) : Duo w0 w gb ga mb ma Rb Ra A n c L := ⟨h.ext, h.b, h.a, h.lb, h.la, fun k hb ha => h.ab k ha hb, h.own, fun k hk => ⟨(h.oa k hk).2, (h.oa k hk).1⟩, h.len, h.ls⟩
theorem Duo.stepB (h : Duo w0 w ga gb ma mb Ra Rb A n c L) (u : Upd Rb w w') (s : SpR w' (Rg Rb w w') gb m') : Duo w0 w' ga gb ma m' Ra (Rg Rb w w') A n c L := (h.turn.stepA u s).turn
/-- updates are put behind the list -/
theorem Duo.app (h : Duo w0 w ga gb ma mb Ra Rb A n c L) {M : List Ud} {k : Nat} {A' : Option Addr} {c' : Nat} (hk : k = M.length) (hM : ∀ x ∈ M, UdR w0 x) (o : Own w' w0.heap.size 95 4 A' (n + k) c' (udsC L ++ udsC M)) (g : w.grownBy w' (blk A c)) (q : (A' = A ∧ c' = c) ∨ (blk A' c' = some w.heap.size ∧ Ext w w')) :
    Duo w0 w' ga gb ma mb Ra Rb A' (n + k) c' (L ++ M) := by
  have u : Upd (fun k => blk A c = some k) w w' := (Upd.refl _ w).grown g fun k e => .inl e
  have z := u.size
  refine ⟨ext_updS h.ext u fun k hk => (h.own.lt k hk).1, h.a.upd u fun k ha hk => (h.oa k hk).1 ha, h.b.upd u fun k hb hk => (h.oa k hk).2 hb, fun k hk => ⟨(h.la k hk).1, Nat.lt_of_lt_of_le (h.la k hk).2 z⟩, fun k hk => ⟨(h.lb k hk).1, Nat.lt_of_lt_of_le (h.lb k hk).2 z⟩, h.ab, by rw [udsC_append]; exact o, fun k hk => ?_, by rw [List.length_append, h.len, hk], fun x hx => (List.mem_append.1 hx).elim (h.ls x) (hM x)⟩
  rcases q with ⟨rfl, rfl⟩ | ⟨e, _⟩
  · exact h.oa k hk
  · rw [e] at hk
    injection hk with hk
    exact ⟨fun hr => by have := (h.la k hr).2; omega, fun hr => by have := (h.lb k hr).2; omega⟩
/-- two new spines -/
theorem Duo.start {w1 w2 : World} (x0 : Ext w0 w) (ha : SpR w1 (fun k => w.heap.size ≤ k ∧ k < w1.heap.size) ga ma) (x1 : Ext w w1) (hb : SpR w2 (fun k => w1.heap.size ≤ k ∧ k < w2.heap.size) gb mb) (x2 : Ext w1 w2) :
    Duo w0 w2 ga gb ma mb (fun k => w.heap.size ≤ k ∧ k < w1.heap.size) (fun k => w1.heap.size ≤ k ∧ k < w2.heap.size) none 0 0 [] := by
  have z0 := x0.size
  have z1 := x1.size
  have z2 := x2.size
  exact ⟨(x0.trans x1).trans x2, ha.ext x2, hb, fun k hk => ⟨by omega, by omega⟩, fun k hk => ⟨by omega, hk.2⟩, fun k h1 h2 => by omega, Own.nil _ _ _ _, fun k hk => (nomatch hk), rfl, fun x hx => (nomatch hx)⟩
end
/-! ### what the calls hold -/
/-- updates and calls so far -/
def opsLen (M : List Sop) (i : Nat) : Nat := ((M.take i).map fun x => x.L.length + 1).sum
theorem opsLen_zero (M : List Sop) : opsLen M 0 = 0 := by simp [opsLen]
theorem opsLen_succ {M : List Sop} {i : Nat} (h : i < M.length) : opsLen M (i + 1) = opsLen M i + ((M.getD i Sop.zero).L.length + 1) := by
  unfold opsLen
  rw [takeO h, List.map_append, List.sum_append]
  simp
theorem opsLen_le (M : List Sop) (i : Nat) : opsLen M i ≤ opsLen M M.length := by
  have h : opsLen M M.length = opsLen M i + ((M.drop i).map fun x => x.L.length + 1).sum := by
    unfold opsLen
    rw [← List.sum_append, ← List.map_append, List.take_append_drop, List.take_length]
  omega
theorem takeTm {L : List Tm} {i : Nat} (h : i < L.length) : L.take (i + 1) = L.take i ++ [L.getD i Tm.zero] := by
  rw [List.take_succ_eq_append_getElem h, List.getD_eq_getElem?_getD, List.getElem?_eq_getElem h]; rfl
def costY (y : Ud) : Nat := y.l.length / 16 + y.t.l.length / 4
def costL (L : List Ud) (k : Nat) : Nat := ((L.take k).map costY).sum
def costT (T : List Tm) (k : Nat) : Nat := ((T.take k).map fun y => y.l.length / 4).sum
def costO (x : Sop) : Nat := x.L.length + x.T.length + x.r.length / 16 + costL x.L x.L.length + costT x.T x.T.length
def costM (M : List Sop) (i : Nat) : Nat := ((M.take i).map costO).sum
theorem costL_succ {L : List Ud} {k : Nat} (h : k < L.length) : costL L (k + 1) = costL L k + costY (L.getD k Ud.zero) := by
  unfold costL
  rw [takeU h, List.map_append, List.sum_append]
  simp
theorem costT_succ {T : List Tm} {k : Nat} (h : k < T.length) : costT T (k + 1) = costT T k + (T.getD k Tm.zero).l.length / 4 := by
  unfold costT
  rw [takeTm h, List.map_append, List.sum_append]
  simp
theorem costM_succ {M : List Sop} {k : Nat} (h : k < M.length) : costM M (k + 1) = costM M k + costO (M.getD k Sop.zero) := by
  unfold costM
  rw [takeO h, List.map_append, List.sum_append]
  simp
theorem sum_take_le {α : Type} (f : α → Nat) (l : List α) (k : Nat) : ((l.take k).map f).sum ≤ ((l.take l.length).map f).sum := by
  have h : ((l.take l.length).map f).sum = ((l.take k).map f).sum + ((l.drop k).map f).sum := by
    rw [← List.sum_append, ← List.map_append, List.take_append_drop, List.take_length]
  omega
theorem sum_mem_le {α : Type} (f : α → Nat) {l : List α} {x : α} (h : x ∈ l) : f x ≤ ((l.take l.length).map f).sum := by
  rw [List.take_length]
  induction l with
  | nil => cases h
  | cons a l ih =>
    rw [List.map_cons, List.sum_cons]
    rcases List.mem_cons.1 h with rfl | h
    · omega
    · have := ih h
      omega
def muchO (M : List Sop) : Bool := decide (300 < M.length + costM M M.length)
/-- a number that stands for a sum: it is the sum, or it and the sum are too great -/
structure Cost (E N : Nat) : Prop where
  le : N ≤ E
  eq : N ≤ 300 → N = E
theorem Cost.rfl' (E : Nat) : Cost E E := ⟨Nat.le_refl _, fun _ => rfl⟩
theorem Cost.add {E N d E2 N2 : Nat} (h : Cost E N) (hE : E2 = E + d) (hN : N2 = N + d) : Cost E2 N2 := by
  have := h.le
  exact ⟨by omega, fun q => by have := h.eq (by omega); omega⟩
theorem Cost.up {E N E2 : Nat} (h : Cost E N) (hE : E ≤ E2) (hN : 300 < N) : Cost E2 N := by
  have := h.le
  exact ⟨by omega, fun q => by omega⟩
theorem Cost.much {E N : Nat} (h : Cost E N) : decide (300 < N) = decide (300 < E) := by
  have h1 := h.le
  have h2 := h.eq
  rw [decide_eq_decide]
  constructor <;> intro q
  · omega
  · rcases Nat.lt_or_ge 300 N with r | r
    · exact r
    · have := h2 r; omega
/-- where the inner loops stand -/
def costI (M : List Sop) (x : Sop) (i : Nat) : Nat := M.length + costM M i + (x.L.length + x.T.length + x.r.length / 16)
theorem costI_end {M : List Sop} {x : Sop} {i : Nat} (hi : i < M.length) (hx : M.getD i Sop.zero = x) : M.length + costM M (i + 1) = costI M x i + costL x.L x.L.length + costT x.T x.T.length := by
  rw [costM_succ hi, hx]
  unfold costI costO
  omega
/-- a call as it is looked at -/
structure OpFew (x : Sop) : Prop where
  u : ∀ y ∈ x.L, y.l.length ≤ 5000 ∧ y.t.l.length ≤ 1300
  n : x.T.length ≤ 300
  t : ∀ y ∈ x.T, y.l.length ≤ 1300
  r : x.r.length ≤ 5000
/-- calls that are looked at -/
structure Ops (M : List Sop) : Prop where
  len : opsLen M M.length ≤ 300
  few : ∀ x ∈ M, OpFew x
theorem ops_of {M : List Sop} (h : muchO M = false) : Ops M := by
  have h0 := of_decide_eq_false h
  refine ⟨?_, fun x hx => ?_⟩
  · have : ∀ l : List Sop, (l.map fun x => x.L.length + 1).sum ≤ l.length + (l.map costO).sum := fun l => by
      induction l with
      | nil => exact Nat.le_refl _
      | cons a l ih =>
        simp only [List.map_cons, List.sum_cons, List.length_cons]
        have : a.L.length ≤ costO a := by unfold costO; omega
        omega
    have h1 := this M
    unfold opsLen
    unfold costM at h0
    rw [List.take_length] at h0 ⊢
    omega
  · have hc : costO x ≤ costM M M.length := sum_mem_le costO hx
    unfold costO at hc
    refine ⟨fun y hy => ?_, by omega, fun y hy => ?_, by omega⟩
    · have h2 : costY y ≤ costL x.L x.L.length := sum_mem_le costY hy
      unfold costY at h2
      exact ⟨by omega, by omega⟩
    · have h2 : y.l.length / 4 ≤ costT x.T x.T.length := sum_mem_le (fun y : Tm => y.l.length / 4) hy
      omega
theorem Ops.inU {M : List Sop} (h : Ops M) {x : Sop} (hx : x ∈ M) (hI : SopIn x) : ∀ y ∈ x.L, InU y := fun y hy =>
  (hI.u y hy).inU (Nat.le_trans ((h.few x hx).u y hy).1 (by decide)) (Nat.le_trans ((h.few x hx).u y hy).2 (by decide))
theorem Ops.few1 {M : List Sop} (h : Ops M) {x : Sop} (hx : x ∈ M) : Few1 x.T := ⟨Nat.le_trans (h.few x hx).n (by decide), fun y hy => Nat.le_trans ((h.few x hx).t y hy) (by decide)⟩
end Go.Proofs.YtdgbkpoickbidaaGreatDoor
namespace Go.Proofs.YtdgbkpoickbidaaGreatDoor
open Go.RowKit

set_option maxRecDepth 100000 in
set_option maxHeartbeats 1000000 in
theorem sameRow_any (A1 A2 : Option Addr) (c1 c2 n m : Nat) (l : List Dat) (w : World) (hn : n = l.length) (hm : m = n) (h1 : Rw w A1 c1 l) (h2 : Rw w A2 c2 l) :
    Calls Tryz.prog 117 #[.slice A1 n c1, .slice A2 m c2] w fun e w' => e = .returned (.bool true) ∧ Ext w w' := by
  subst hm
  have hnm := h1.le
  rw [← hn] at hnm
  have HN := Lib.hid hn
  have H1 := Lib.hid h1
  have H2 := Lib.hid h2
  clear hn h1 h2
  go_enter Tryz.func117, Tryz.ntmps117
  go_wp2
  go_loopw [5] (fun v wr => ∃ i : Nat, i ≤ m ∧ v = .int .i64 i ∧ Ext w wr) (fun v _ => m - (intOf v).toNat)
  case atStart => exact ⟨0, Nat.zero_le _, rfl, Ext.refl _⟩
  case round =>
    obtain ⟨i, hi, rfl, er⟩ := hrel
    by_cases hlt : i < m
    · have hil : i < l.length := by rw [← HN.out]; exact hlt
      obtain ⟨ad, rfl, p0, p1, p2, p3⟩ := (H1.out.ext er).at hil
      obtain ⟨bd, rfl, q0, q1, q2, q3⟩ := (H2.out.ext er).at hil
      obtain ⟨d, hd⟩ : ∃ d, l.getD i Dat.zero = d := ⟨_, rfl⟩
      rw [hd] at p0 p1 p2 p3 q0 q1 q2 q3
      have XE : Ext wr wr.drew := (Ext.refl wr).drew
      have P0 : ∀ z : Xt wr.drew, z.W.cell? (ad.add (i * 4)) = some (.int .u8 d.k) := fun z => (XE.trans z.x).cell p0
      have P1 : ∀ z : Xt wr.drew, z.W.cell? ⟨(ad.add (i * 4)).block, (ad.add (i * 4)).off + 1, none⟩ = some (.bool d.b) := fun z => (XE.trans z.x).cell p1
      have P2 : ∀ z : Xt wr.drew, z.W.cell? ⟨(ad.add (i * 4)).block, (ad.add (i * 4)).off + 2, none⟩ = some (.int .i64 d.n) := fun z => (XE.trans z.x).cell p2
      have P3 : ∀ z : Xt wr.drew, z.W.cell? ⟨(ad.add (i * 4)).block, (ad.add (i * 4)).off + 3, none⟩ = some (.string d.s) := fun z => (XE.trans z.x).cell p3
      have Q0 : ∀ z : Xt wr.drew, z.W.cell? (bd.add (i * 4)) = some (.int .u8 d.k) := fun z => (XE.trans z.x).cell q0
      have Q1 : ∀ z : Xt wr.drew, z.W.cell? ⟨(bd.add (i * 4)).block, (bd.add (i * 4)).off + 1, none⟩ = some (.bool d.b) := fun z => (XE.trans z.x).cell q1
      have Q2 : ∀ z : Xt wr.drew, z.W.cell? ⟨(bd.add (i * 4)).block, (bd.add (i * 4)).off + 2, none⟩ = some (.int .i64 d.n) := fun z => (XE.trans z.x).cell q2
      have Q3 : ∀ z : Xt wr.drew, z.W.cell? ⟨(bd.add (i * 4)).block, (bd.add (i * 4)).off + 3, none⟩ = some (.string d.s) := fun z => (XE.trans z.x).cell q3
      clear hil hd
      go_upto_region 6 with fail
      refine wp_region_ord [0,0,3,7,0,0,48,112,255] (.flo [0,1,2,3,4,5,6,7,8] (.fin)) (by kernel_rfl) (by kernel_rfl) (by intro _ _ d _ _ h; cases d <;> exact h) ?_
      (refine ord_flo (pick_cons rfl (pick_cons rfl (pick_cons rfl (pick_cons rfl (pick_cons rfl (pick_cons rfl (pick_cons rfl (pick_cons rfl (pick_cons rfl pick_nil))))))))) ?_; (repeat (go_big_quiet_step (fail))); refine wpQuiet_nil ?_; show ordWalk _ _ _ _ _ _ _)
      refine ord_fin ?_
      go_wp2
      go_roundw
      case rel => exact ⟨i + 1, by omega, by go_num, er.trans XE⟩
      case measure => simp [intOf]; omega
    · go_wp2
      go_ret
      exact ⟨rfl, er⟩
theorem sameRow_lit (A1 A2 : Option Addr) (c1 c2 n m : Nat) (l : List Dat) (w : World) (hn : Hid (n = l.length)) (hm : Hid (m = n)) (h1 : Hid (Rw w A1 c1 l)) (h2 : Hid (Rw w A2 c2 l)) :
    Calls Tryz.prog 117 #[.slice A1 n c1, .slice A2 m c2] w fun e w' => e = .returned (.bool true) ∧ Ext w w' := sameRow_any A1 A2 c1 c2 n m l w hn.out hm.out h1.out h2.out
end Go.Proofs.YtdgbkpoickbidaaGreatDoor
namespace Go.Proofs.YtdgbkpoickbidaaGreatDoor
open Go.RowKit

end Go.Proofs.YtdgbkpoickbidaaGreatDoor
namespace Go.Proofs.YtdgbkpoickbidaaGreatDoor
open Go.RowKit

theorem sameTime_any (e1 e2 : Int) (A1 A2 : Option Addr) (n1 n2 c1 c2 : Nat) (l1 l2 : List Int) (w : World) (h1 : Sl w 1 A1 n1 c1 (wds l1)) (h2 : Sl w 1 A2 n2 c2 (wds l2)) :
    Calls Tryz.prog 54 #[.agg #[.int .u64 e1, .slice A1 n1 c1], .agg #[.int .u64 e2, .slice A2 n2 c2]] w fun e w' => e = .returned (.bool (decide (e1 = e2 ∧ l1 = l2))) ∧ Ext w w' := by
  by_cases k1 : e1 = e2
  · have q1 : (e1 == e2) = true := by simpa using k1
    go_enter Tryz.func54, Tryz.ntmps54
    go_wp2_with (go_at_call 166; refine (sameWords_any A1 A2 n1 n2 c1 c2 l1 l2 _ (h1.ext (((Ext.refl w).alloc _).alloc _)) (h2.ext (((Ext.refl w).alloc _).alloc _))).mono ?_; rintro r w1 ⟨rfl, x1⟩)
    refine bodyPost_ret (v := .bool (decide (l1 = l2))) (by simp only [results, Tryz.results54]; go_simp) rfl ?_
    exact ⟨by simp [k1], (((Ext.refl w).alloc _).alloc _).trans x1⟩
  · have q1 : (e1 == e2) = false := by simpa using k1
    go_enter Tryz.func54, Tryz.ntmps54
    go_wp2
    refine bodyPost_ret (v := .bool false) (by simp only [results, Tryz.results54]; go_simp) rfl ?_
    exact ⟨by simp [k1], (((Ext.refl w).alloc _).alloc _)⟩
end Go.Proofs.YtdgbkpoickbidaaGreatDoor
namespace Go.Proofs.YtdgbkpoickbidaaGreatDoor
open Go.RowKit

theorem uval_at {L M : List Ud} (h : L.map Ud.uv = M.map Ud.uv) {i : Nat} (hi : i < L.length) : (M.getD i Ud.zero).l = (L.getD i Ud.zero).l ∧ (M.getD i Ud.zero).t.e = (L.getD i Ud.zero).t.e ∧ (M.getD i Ud.zero).t.l = (L.getD i Ud.zero).t.l ∧ (M.getD i Ud.zero).d = (L.getD i Ud.zero).d := by
  have hl := congrArg List.length h
  rw [List.length_map, List.length_map] at hl
  have e := congrArg (fun l : List UV => l[i]?) h
  simp only [List.getElem?_map] at e
  rw [List.getElem?_eq_getElem hi, List.getElem?_eq_getElem (by omega)] at e
  simp only [Option.map_some, Option.some.injEq] at e
  rw [List.getD_eq_getElem?_getD, List.getD_eq_getElem?_getD, List.getElem?_eq_getElem hi, List.getElem?_eq_getElem (by omega)]
  exact ⟨(congrArg (fun q : UV => q.1.1) e).symm, (congrArg (fun q : UV => q.1.2.1) e).symm, (congrArg (fun q : UV => q.1.2.2) e).symm, (congrArg Prod.snd e).symm⟩
theorem usameTime_at {b : Bool} (e1 e2 : Int) (A1 A2 : Option Addr) (n1 n2 c1 c2 : Nat) (l1 l2 : List Int) (w : World) (hb : Hid (decide (e1 = e2 ∧ l1 = l2) = b)) (h1 : Hid (Sl w 1 A1 n1 c1 (wds l1))) (h2 : Hid (Sl w 1 A2 n2 c2 (wds l2))) :
    Calls Tryz.prog 54 #[.agg #[.int .u64 e1, .slice A1 n1 c1], .agg #[.int .u64 e2, .slice A2 n2 c2]] w fun e w' => e = .returned (.bool b) ∧ Ext w w' := hb.out ▸ sameTime_any e1 e2 A1 A2 n1 n2 c1 c2 l1 l2 w h1.out h2.out
set_option maxRecDepth 100000 in
set_option maxHeartbeats 4000000 in
theorem sameUps_any (A1 A2 : Option Addr) (c1 c2 n m : Nat) (L M : List Ud) (w : World) (hn : Hid (n = L.length)) (hm : Hid (m = M.length)) (h1 : Hid (Uin w A1 c1 L)) (h2 : Hid (Uin w A2 c2 M)) (he : Hid (L.map Ud.uv = M.map Ud.uv)) :
    Calls Tryz.prog 23 #[.slice A1 n c1, .slice A2 m c2] w fun e w' => e = .returned (.bool true) ∧ Ext w w' := by
  have hl := congrArg List.length he.out
  rw [List.length_map, List.length_map] at hl
  obtain rfl : m = n := by rw [hn.out, hm.out, hl]
  have hnm : m ≤ 9223372036854775807 := by rw [hn.out]; exact h1.out.sl.le
  clear hl
  go_enter Tryz.func23, Tryz.ntmps23
  go_wp2
  go_loopw [5] (fun v wr => ∃ i : Nat, i ≤ m ∧ v = .int .i64 i ∧ Ext w wr) (fun v _ => m - (intOf v).toNat)
  case atStart => exact ⟨0, Nat.zero_le _, rfl, Ext.refl _⟩
  case round =>
    obtain ⟨i, hi, rfl, er⟩ := hrel
    by_cases hlt : i < m
    · have hil : i < L.length := by rw [← hn.out]; exact hlt
      have him : i < M.length := by rw [← hm.out]; exact hlt
      obtain ⟨ad, rfl, p0, p1, p2, p3⟩ := (h1.out.ext er).at hil
      obtain ⟨bd, rfl, q0, q1, q2, q3⟩ := (h2.out.ext er).at him
      have hr1 := h1.out.ls _ (getU_mem hil)
      have hr2 := h2.out.ls _ (getU_mem him)
      obtain ⟨e1, e2, e3, e4⟩ := uval_at he.out hil
      obtain ⟨x, hx⟩ : ∃ x, L.getD i Ud.zero = x := ⟨_, rfl⟩
      obtain ⟨y, hy⟩ : ∃ y, M.getD i Ud.zero = y := ⟨_, rfl⟩
      rw [hx] at p0 p1 p2 p3 hr1 e1 e2 e3 e4
      rw [hy] at q0 q1 q2 q3 hr2 e1 e2 e3 e4
      obtain ⟨xA, xc, xl, ⟨xe, xtA, xtc, xtl⟩, xd⟩ := x
      obtain ⟨yA, yc, yl, ⟨ye, ytA, ytc, ytl⟩, yd⟩ := y
      dsimp only at p0 p1 p2 p3 q0 q1 q2 q3 hr1 hr2 e1 e2 e3 e4
      subst e1 e2 e3 e4
      obtain ⟨nx, hnx⟩ : ∃ nx, nx = yl.length := ⟨_, rfl⟩
      obtain ⟨tx, htx⟩ : ∃ tx, tx = ytl.length := ⟨_, rfl⟩
      rw [← hnx] at p0 q0
      rw [← htx] at p2 q2
      have HNX := Lib.hid hnx
      have HEQ : Hid (nx = nx) := Lib.hid rfl
      have HR1 : Hid (∀ W, Ext wr W → Rw W xA xc yl) := Lib.hid (fun W q => (hr1.r.ext er).ext q)
      have HR2 : Hid (∀ W, Ext wr W → Rw W yA yc yl) := Lib.hid (fun W q => (hr2.r.ext er).ext q)
      have HT1 : Hid (∀ W, Ext wr W → Sl W 1 xtA tx xtc (wds ytl)) := Lib.hid (fun W q => by rw [htx]; exact (hr1.t.ext er).ext q)
      have HT2 : Hid (∀ W, Ext wr W → Sl W 1 ytA tx ytc (wds ytl)) := Lib.hid (fun W q => by rw [htx]; exact (hr2.t.ext er).ext q)
      have X : Ext wr wr.drew := (Ext.refl wr).drew
      have P0 : ∀ z : Xt wr.drew, z.W.cell? (ad.add (i * 4)) = some (.slice xA nx xc) := fun z => (X.trans z.x).cell p0
      have P1 : ∀ z : Xt wr.drew, z.W.cell? ⟨(ad.add (i * 4)).block, (ad.add (i * 4)).off + 1, none⟩ = some (.int .u64 ye) := fun z => (X.trans z.x).cell p1
      have P2 : ∀ z : Xt wr.drew, z.W.cell? ⟨(ad.add (i * 4)).block, (ad.add (i * 4)).off + 2, none⟩ = some (.slice xtA tx xtc) := fun z => (X.trans z.x).cell p2
      have P3 : ∀ z : Xt wr.drew, z.W.cell? ⟨(ad.add (i * 4)).block, (ad.add (i * 4)).off + 3, none⟩ = some (.int .i64 yd) := fun z => (X.trans z.x).cell p3
      have Q0 : ∀ z : Xt wr.drew, z.W.cell? (bd.add (i * 4)) = some (.slice yA nx yc) := fun z => (X.trans z.x).cell q0
      have Q1 : ∀ z : Xt wr.drew, z.W.cell? ⟨(bd.add (i * 4)).block, (bd.add (i * 4)).off + 1, none⟩ = some (.int .u64 ye) := fun z => (X.trans z.x).cell q1
      have Q2 : ∀ z : Xt wr.drew, z.W.cell? ⟨(bd.add (i * 4)).block, (bd.add (i * 4)).off + 2, none⟩ = some (.slice ytA tx ytc) := fun z => (X.trans z.x).cell q2
      have Q3 : ∀ z : Xt wr.drew, z.W.cell? ⟨(bd.add (i * 4)).block, (bd.add (i * 4)).off + 3, none⟩ = some (.int .i64 yd) := fun z => (X.trans z.x).cell q3
      clear hil him hr1 hr2 hx hy hnx htx
      go_upto_region 6 with fail
      clear p0 p1 p2 p3 q0 q1 q2 q3
      refine wp_region_ord [0,0,3,7,15,0,0,96,224,480,1023,2047,4095,4095,16383,32767,65535,4095,4095,397311,921599,1970175,4194303,8388607,16777215,33554431,67108863,67108863,268435455,536870911,1073741823,67108863,67108863,6509559807,15099494399,32279363583,68719476735,137438953471,274877906943] (.flo [0,1,2,3,4,5,6,7,8,9,10,11,12,13,14,15,16,17,18,19,20,21] (.one 22 (.flo [23,24,25,26,27,28,29,30,31,32,33,34,35] (.one 36 (.flo [37,38] (.fin)))))) (by kernel_rfl) (by kernel_rfl) (by intro _ _ d _ _ h; cases d <;> exact h) ?_
      (refine ord_flo (pick_cons rfl (pick_cons rfl (pick_cons rfl (pick_cons rfl (pick_cons rfl (pick_cons rfl (pick_cons rfl (pick_cons rfl (pick_cons rfl (pick_cons rfl (pick_cons rfl (pick_cons rfl (pick_cons rfl (pick_cons rfl (pick_cons rfl (pick_cons rfl (pick_cons rfl (pick_cons rfl (pick_cons rfl (pick_cons rfl (pick_cons rfl (pick_cons rfl pick_nil)))))))))))))))))))))) ?_; (repeat (go_big_quiet_step (fail))); refine wpQuiet_nil ?_; show ordWalk _ _ _ _ _ _ _)
      refine ord_one (pick_cons rfl pick_nil) ?_; intro K_ hK_
      go_wp2_with (go_at_call 117; go_loud (refine (sameRow_lit xA yA xc yc nx nx yl _ HNX HEQ (Lib.hid (HR1.out _ X)) (Lib.hid (HR2.out _ X))).mono ?_); rintro e w1 ⟨rfl, x1⟩)
      have P1 : ∀ z : Xt w1, z.W.cell? ⟨(ad.add (i * 4)).block, (ad.add (i * 4)).off + 1, none⟩ = some (.int .u64 ye) := fun z => P1 ⟨z.W, x1.trans z.x⟩
      have P2 : ∀ z : Xt w1, z.W.cell? ⟨(ad.add (i * 4)).block, (ad.add (i * 4)).off + 2, none⟩ = some (.slice xtA tx xtc) := fun z => P2 ⟨z.W, x1.trans z.x⟩
      have Q1 : ∀ z : Xt w1, z.W.cell? ⟨(bd.add (i * 4)).block, (bd.add (i * 4)).off + 1, none⟩ = some (.int .u64 ye) := fun z => Q1 ⟨z.W, x1.trans z.x⟩
      have Q2 : ∀ z : Xt w1, z.W.cell? ⟨(bd.add (i * 4)).block, (bd.add (i * 4)).off + 2, none⟩ = some (.slice ytA tx ytc) := fun z => Q2 ⟨z.W, x1.trans z.x⟩
      clear P0 P3 Q0 Q3
      (refine ord_flo (pick_cons rfl (pick_cons rfl (pick_cons rfl (pick_cons rfl (pick_cons rfl (pick_cons rfl (pick_cons rfl (pick_cons rfl (pick_cons rfl (pick_cons rfl (pick_cons rfl (pick_cons rfl (pick_cons rfl pick_nil))))))))))))) ?_; (repeat (go_big_quiet_step (fail))); refine wpQuiet_nil ?_; show ordWalk _ _ _ _ _ _ _)
      refine ord_one (pick_cons rfl pick_nil) ?_; intro K_ hK_
      go_wp2_with (go_at_call 54; go_loud (refine (usameTime_at (b := true) ye ye xtA ytA tx tx xtc ytc ytl ytl _ (Lib.hid (by simp)) (Lib.hid (HT1.out _ (X.trans x1))) (Lib.hid (HT2.out _ (X.trans x1)))).mono ?_); rintro e w2 ⟨rfl, x2⟩)
      (refine ord_flo (pick_cons rfl (pick_cons rfl pick_nil)) ?_; (repeat (go_big_quiet_step (fail))); refine wpQuiet_nil ?_; show ordWalk _ _ _ _ _ _ _)
      refine ord_fin ?_
      go_wp2
      go_roundw
      case rel => exact ⟨i + 1, by omega, by go_num, er.trans ((X.trans x1).trans x2)⟩
      case measure => simp [intOf]; omega
    · go_wp2
      go_ret
      exact ⟨rfl, er⟩
end Go.Proofs.YtdgbkpoickbidaaGreatDoor
namespace Go.Proofs.YtdgbkpoickbidaaGreatDoor
open Go.RowKit

set_option maxRecDepth 100000 in
set_option maxHeartbeats 1000000 in
theorem sameInts_any (A1 A2 : Option Addr) (c1 c2 n m : Nat) (l : List Int) (w : World) (hn : n = l.length) (hm : m = n) (h1 : Is w A1 c1 l) (h2 : Is w A2 c2 l) :
    Calls Tryz.prog 66 #[.slice A1 n c1, .slice A2 m c2] w fun e w' => e = .returned (.bool true) ∧ Ext w w' := by
  subst hm
  have hnm : l.length ≤ 9223372036854775807 := Sl.le h1
  rw [← hn] at hnm
  have HN := Lib.hid hn
  have H1 := Lib.hid h1
  have H2 := Lib.hid h2
  clear hn h1 h2
  go_enter Tryz.func66, Tryz.ntmps66
  go_wp2
  go_loopw [5] (fun v wr => ∃ i : Nat, i ≤ m ∧ v = .int .i64 i ∧ Ext w wr) (fun v _ => m - (intOf v).toNat)
  case atStart => exact ⟨0, Nat.zero_le _, rfl, Ext.refl _⟩
  case round =>
    obtain ⟨i, hi, rfl, er⟩ := hrel
    by_cases hlt : i < m
    · have hil : i < l.length := by rw [← HN.out]; exact hlt
      obtain ⟨ad, rfl, p0⟩ := (H1.out.ext er).at hil
      obtain ⟨bd, rfl, q0⟩ := (H2.out.ext er).at hil
      obtain ⟨d, hd⟩ : ∃ d, l.getD i 0 = d := ⟨_, rfl⟩
      rw [hd] at p0 q0
      have XE : Ext wr wr.drew := (Ext.refl wr).drew
      have P0 : ∀ z : Xt wr.drew, z.W.cell? (ad.add i) = some (.int .i64 d) := fun z => (XE.trans z.x).cell p0
      have Q0 : ∀ z : Xt wr.drew, z.W.cell? (bd.add i) = some (.int .i64 d) := fun z => (XE.trans z.x).cell q0
      clear hil hd
      go_upto_region 6 with fail
      refine wp_region_ord [0,0,3,7,0,0,48,112,255] (.flo [0,1,2,3,4,5,6,7,8] (.fin)) (by kernel_rfl) (by kernel_rfl) (by intro _ _ d _ _ h; cases d <;> exact h) ?_
      (refine ord_flo (pick_cons rfl (pick_cons rfl (pick_cons rfl (pick_cons rfl (pick_cons rfl (pick_cons rfl (pick_cons rfl (pick_cons rfl (pick_cons rfl pick_nil))))))))) ?_; (repeat (go_big_quiet_step (fail))); refine wpQuiet_nil ?_; show ordWalk _ _ _ _ _ _ _)
      refine ord_fin ?_
      go_wp2
      go_roundw
      case rel => exact ⟨i + 1, by omega, by go_num, er.trans XE⟩
      case measure => simp [intOf]; omega
    · go_wp2
      go_ret
      exact ⟨rfl, er⟩
theorem sameInts_lit (A1 A2 : Option Addr) (c1 c2 n m : Nat) (l : List Int) (w : World) (hn : Hid (n = l.length)) (hm : Hid (m = n)) (h1 : Hid (Is w A1 c1 l)) (h2 : Hid (Is w A2 c2 l)) :
    Calls Tryz.prog 66 #[.slice A1 n c1, .slice A2 m c2] w fun e w' => e = .returned (.bool true) ∧ Ext w w' := sameInts_any A1 A2 c1 c2 n m l w hn.out hm.out h1.out h2.out
end Go.Proofs.YtdgbkpoickbidaaGreatDoor
namespace Go.Proofs.YtdgbkpoickbidaaGreatDoor
open Go.RowKit

def mark_ (k : Int) : Dat := ⟨k, false, 0, ⟨#[]⟩⟩
def marks : List Dat := [mark_ 91, mark_ 92]
end Go.Proofs.YtdgbkpoickbidaaGreatDoor
namespace Go.Proofs.YtdgbkpoickbidaaGreatDoor
open Go.RowKit

def kone (n : Int) : Dat := ⟨3, false, n, ⟨#[]⟩⟩
def UpdR (n e d : Int) (w : World) (r : Ending) (w' : World) : Prop := ∃ g, r = .returned (.agg #[.slice (some ⟨g, 0, none⟩) 1 1, .int .u64 e, .slice none 0 0, .int .i64 d]) ∧ w.heap.size ≤ g ∧ Own w' w.heap.size 204 4 (some ⟨g, 0, none⟩) 1 1 (rowC [kone n]) ∧ Ext w w'
def kup (g : Nat) (n e d : Int) : Ud := ⟨some ⟨g, 0, none⟩, 1, [kone n], ⟨e, none, 0, []⟩, d⟩
theorem kup_r {w w' : World} {B g : Nat} {n : Int} (e d : Int) (o : Own w B 204 4 (some ⟨g, 0, none⟩) 1 1 (rowC [kone n])) (x : Ext w w') : UdR w' (kup g n e d) := ⟨o.sl.ext x, Sl.nil _ _⟩
theorem kup_in (g : Nat) {n e d : Int} (hn : 0 ≤ n ∧ n ≤ 100) (he : 0 ≤ e ∧ e ≤ 100) (hd : -100 ≤ d ∧ d ≤ 100) : InU (kup g n e d) := by
  refine ⟨⟨fun x hx => ?_, fun x hx => ?_, ⟨by show _ ≤ d; omega, by show d ≤ _; omega⟩, by show 1 ≤ _; omega⟩, fun x hx => (nomatch hx), by show 0 ≤ _; omega, ⟨he.1, by show e ≤ _; omega⟩⟩
  · rw [List.mem_singleton.1 (show x ∈ [kone n] from hx)]; show (0 : Nat) ≤ _; omega
  · rw [List.mem_singleton.1 (show x ∈ [kone n] from hx)]; show _ ≤ n ∧ n ≤ _; omega
end Go.Proofs.YtdgbkpoickbidaaGreatDoor
namespace Go.Proofs.YtdgbkpoickbidaaGreatDoor
open Go.RowKit

set_option maxRecDepth 100000 in
set_option maxHeartbeats 1000000 in
theorem upd11_any (n e d : Int) (w : World) :
    Calls Tryz.prog 152 #[.int .i64 n, .int .u64 e, .int .i64 d] w (UpdR n e d w) := by
  go_enter Tryz.func152, Tryz.ntmps152
  go_wp2
  obtain ⟨w1, hw1⟩ : ∃ w1, w1 = (w.alloc (.cells #[.slice (some ⟨w.heap.size + 1, 0, none⟩) 1 1, .int .u64 e, .slice none 0 0, .int .i64 d] 95)).alloc (.cells #[.int .u8 3, .bool false, .int .i64 n, .string ⟨#[]⟩] 204) := ⟨_, rfl⟩
  have b1 : Bk w1 w.heap.size 95 #[.slice (some ⟨w.heap.size + 1, 0, none⟩) 1 1, .int .u64 e, .slice none 0 0, .int .i64 d] := by rw [hw1]; exact (Bk.new _ _ _).alloc _
  have c1 : Bk w1 (w.heap.size + 1) 204 #[.int .u8 3, .bool false, .int .i64 n, .string ⟨#[]⟩] := by rw [hw1]; exact Bk.at (by simp)
  have x1 : Ext w w1 := by rw [hw1]; exact ((Ext.refl w).alloc _).alloc _
  have o1 : Own w1 w.heap.size 204 4 (some ⟨w.heap.size + 1, 0, none⟩) 1 1 (rowC [kone n]) := ⟨rfl, .inr ⟨w.heap.size + 1, #[.int .u8 3, .bool false, .int .i64 n, .string ⟨#[]⟩], rfl, by omega, c1, Nat.le_refl _, by unfold maxLen; omega, Nat.le_refl _, rfl⟩⟩
  have q0 := b1.cell 0
  have q1 := b1.cell 1
  have q2 := b1.cell 2
  have q3 := b1.cell 3
  simp at q0 q1 q2 q3
  rw [← hw1]
  clear hw1
  refine bodyPost_ret (v := .agg #[.slice (some ⟨w.heap.size + 1, 0, none⟩) 1 1, .int .u64 e, .slice none 0 0, .int .i64 d]) (by simp [results, Tryz.results152, go_sem, q0, q1, q2, q3]) rfl ⟨w.heap.size + 1, rfl, by omega, o1, x1⟩
/-- one spine in memory, above the first world -/
structure Uno (w0 w : World) (g : Nat) (m : SpM) (R : Nat → Prop) : Prop where
  ext : Ext w0 w
  sp : SpR w R g m
  lr : ∀ k, R k → w0.heap.size ≤ k ∧ k < w.heap.size
  ok : OkV m.v
section
variable {w0 w w' : World} {g : Nat} {m m' : SpM} {R : Nat → Prop}
theorem Uno.grow (h : Uno w0 w g m R) (x : Ext w w') : Uno w0 w' g m R := ⟨h.ext.trans x, h.sp.ext x, fun k hk => ⟨(h.lr k hk).1, Nat.lt_of_lt_of_le (h.lr k hk).2 x.size⟩, h.ok⟩
theorem Uno.step (h : Uno w0 w g m R) (u : Upd R w w') (s : SpR w' (Rg R w w') g m') (ok : OkV m'.v) : Uno w0 w' g m' (Rg R w w') := by
  have z := u.size
  have z0 := h.ext.size
  refine ⟨ext_updS h.ext u fun k hk => (h.lr k hk).1, s, fun k hk => ?_, ok⟩
  rcases hk with hk | hk
  · exact ⟨(h.lr k hk).1, Nat.lt_of_lt_of_le (h.lr k hk).2 z⟩
  · exact ⟨by omega, hk.2⟩
theorem sizes_v (m : SpM) : sizesB m.bs = m.v.bs.map fun b => (b.length : Int) := by
  show m.bs.map _ = (m.bs.map Bt.v).map _
  rw [List.map_map]
  exact List.map_congr_left fun b _ => by show (b.l.length : Int) = ((b.l.map Ud.uv).length : Int); rw [List.length_map]
/-- one time of no counters, just built -/
theorem tin_one {W : World} {g : Nat} {e : Int} (h : Sl W 2 (some ⟨g, 0, none⟩) 1 1 [.int .u64 e, .slice none 0 0]) : Tin W (some ⟨g, 0, none⟩) 1 [⟨e, none, 0, []⟩] := ⟨h, fun x hx => by rw [List.mem_singleton.1 hx]; exact Sl.nil _ _⟩
theorem at_ext {w w' : World} {U : List V} {e : Ending} (h : DAtRes w U e w') : Ext w w' := by
  obtain ⟨A, m, c, R, _, _, _, _, _, _, x⟩ := h
  exact x
theorem few1_one (e : Int) : Few1 [⟨e, none, 0, []⟩] := ⟨by show 1 ≤ _; decide, fun x hx => by rw [List.mem_singleton.1 hx]; exact Nat.zero_le _⟩
end
def kuv (n e d : Int) : UV := (([kone n], (e, [])), d)
def k11a : SV := ⟨[[kuv 1 0 1]], none, [(0, [])], [(1, [])]⟩
def k11b : SV := ⟨[[kuv 1 0 1], [kuv 1 1 1, kuv 2 1 1]], none, [(0, [])], [(2, [])]⟩
def k11c : SV := ⟨[[kuv 1 0 1, kuv 1 1 1, kuv 2 1 1]], none, [(0, [])], [(2, [])]⟩
def k11d : SV := ⟨[[kuv 1 0 1, kuv 1 1 1, kuv 2 1 1]], none, [(1, [])], [(2, [])]⟩
def k11A : List UV := [kuv 1 1 2, kuv 2 1 1]
theorem k11_ins1 (a : Nat) : insV newV ([kup a 1 0 1].map Ud.uv) ([(⟨1, none, 0, []⟩ : Tm)].map Tm.v) = (0, k11a) := by kernel_rfl
theorem k11_ins2 (a b : Nat) : insV k11a ([kup a 1 1 1, kup b 2 1 1].map Ud.uv) ([(⟨2, none, 0, []⟩ : Tm)].map Tm.v) = (0, k11b) := by kernel_rfl
theorem k11_at1 : atS k11b (1, []) = (0, [([kone 1], 2), ([kone 2], 1)]) := by kernel_rfl
theorem k11_at2 : atS k11b (2, []) = (111, []) := by kernel_rfl
theorem k11_comp : compactV k11c ([(⟨1, none, 0, []⟩ : Tm)].map Tm.v) = (0, k11d) := by kernel_rfl
theorem k11_okd : (compactV k11c ([(⟨1, none, 0, []⟩ : Tm)].map Tm.v)).2 = k11d := by rw [k11_comp]
theorem k11_X : ∀ t ∈ [(⟨1, none, 0, []⟩ : Tm)].map Tm.v, 0 ≤ t.1 ∧ t.1 ≤ 18446744073709551615 := fun t ht => by rw [List.mem_singleton.1 (show t ∈ [((1 : Int), ([] : List Int))] from ht)]; decide
theorem k11_all : allV k11d = k11A := by kernel_rfl
theorem k11_work {t : SV} {r : Nat} (w : WorkR k11b 100 t r) : t = k11c ∧ r = 97 := by
  have b1 : beginV k11b = ({ k11b with un := some (0, 3) }, true) := by kernel_rfl
  have b2 : payEnd { k11b with un := some (0, 3) } 100 = (k11c, 97) := by kernel_rfl
  have b3 : beginV k11c = (k11c, false) := by kernel_rfl
  cases w with
  | stop h hb => rw [b1] at hb; injection hb with _ hb; cases hb
  | step h hb hp k =>
    rw [b1] at hb
    injection hb with hb _
    subst hb
    rw [b2] at hp
    injection hp with h1 h2
    subst h1 h2
    cases k with
    | stop h hb =>
      rw [b3] at hb
      injection hb with hb _
      exact ⟨hb.symm, rfl⟩
    | step h hb hp k => rw [b3] at hb; injection hb with _ hb; cases hb
theorem okV_a : OkV k11a := by
  have h := okV_ins (s := newV) (l := [kup 0 1 0 1].map Ud.uv) (X := [(⟨1, none, 0, []⟩ : Tm)].map Tm.v) okV_new (fun u hu => by rw [List.mem_singleton.1 (show u ∈ [(kup 0 1 0 1).uv] from hu)]; exact (kup_in 0 (by omega) (by omega) (by omega)).uv) (fun t ht => by rw [List.mem_singleton.1 (show t ∈ [((1 : Int), ([] : List Int))] from ht)]; decide) (by decide)
  rw [k11_ins1] at h
  exact h
theorem okV_b : OkV k11b := by
  have h := okV_ins (s := k11a) (l := [kup 0 1 1 1, kup 0 2 1 1].map Ud.uv) (X := [(⟨2, none, 0, []⟩ : Tm)].map Tm.v) okV_a (fun u hu => by
    rcases List.mem_cons.1 (show u ∈ [(kup 0 1 1 1).uv, (kup 0 2 1 1).uv] from hu) with rfl | hu
    · exact (kup_in 0 (by omega) (by omega) (by omega)).uv
    · rw [List.mem_singleton.1 hu]; exact (kup_in 0 (by omega) (by omega) (by omega)).uv) (fun t ht => by rw [List.mem_singleton.1 (show t ∈ [((2 : Int), ([] : List Int))] from ht)]; decide) (by decide)
  rw [k11_ins2] at h
  exact h
theorem k11_in1 (a : Nat) : ∀ x ∈ [kup a 1 0 1], InU x := fun x hx => by rw [List.mem_singleton.1 hx]; exact kup_in _ (by omega) (by omega) (by omega)
theorem k11_in2 (a b : Nat) : ∀ x ∈ [kup a 1 1 1, kup b 2 1 1], InU x := fun x hx => by
  simp only [List.mem_cons, List.not_mem_nil, or_false] at hx
  rcases hx with rfl | rfl <;> exact kup_in _ (by omega) (by omega) (by omega)
set_option maxRecDepth 100000 in
set_option maxHeartbeats 16000000 in
theorem known11_any (w : World) (G : Good w) :
    Calls Tryz.prog 42 #[] w fun e w' => e = .returned (.bool true) ∧ Ext w w' := by
  have p1 : True := trivial
  go_enter Tryz.func42, Tryz.ntmps42
  go_wp2_with (first
    | (go_at_call 43; have mk := p1; clear p1 mk; go_loud (refine (spNew_any _).mono ?_); rintro r v1 ⟨gs, m1, rfl, s1, e1, x1⟩; have U1 : Hid (Uno w v1 gs m1 (fun k => w.heap.size ≤ k ∧ k < v1.heap.size)) := Lib.hid ⟨x1, s1, fun k hk => hk, by rw [e1]; exact okV_new⟩; have E1 := Lib.hid e1; clear s1 e1 x1; have p2 : True := trivial)
    | (go_at_call 152; have mk := p2; clear p2 mk; go_loud (refine (upd11_any (1) (0) (1) _).mono ?_); rintro r v2 ⟨g2, rfl, b2, o2, x2⟩; have U2 := Lib.hid (U1.out.grow x2); have O2 := Lib.hid o2; have J2 := Lib.hid x2; clear o2 x2 b2; have p3 : True := trivial)
    | (go_at_call 44; have mk := p3; clear p3 mk; have XA : Hid (Ext v2 (v2.alloc (.cells #[.slice (some ⟨g2, 0, none⟩) 1 1, .int .u64 0, .slice none 0 0, .int .i64 1] 95)) ∧ Ext (v2.alloc (.cells #[.slice (some ⟨g2, 0, none⟩) 1 1, .int .u64 0, .slice none 0 0, .int .i64 1] 95)) ((v2.alloc (.cells #[.slice (some ⟨g2, 0, none⟩) 1 1, .int .u64 0, .slice none 0 0, .int .i64 1] 95)).alloc (.cells #[.int .u64 1, .slice none 0 0] 26))) := Lib.hid ⟨(Ext.refl _).alloc _, (Ext.refl _).alloc _⟩; have UA := Lib.hid (U2.out.grow (XA.out.1.trans XA.out.2)); have HU : Hid (Uin ((v2.alloc (.cells #[.slice (some ⟨g2, 0, none⟩) 1 1, .int .u64 0, .slice none 0 0, .int .i64 1] 95)).alloc (.cells #[.int .u64 1, .slice none 0 0] 26)) (some ⟨v2.heap.size, 0, none⟩) 1 [kup g2 1 0 1]) := Lib.hid ⟨(sl_alloc v2 95 #[.slice (some ⟨g2, 0, none⟩) 1 1, .int .u64 0, .slice none 0 0, .int .i64 1] (udsC [kup g2 1 0 1]) 4 1 rfl rfl (by decide)).ext XA.out.2, fun x hx => by simp only [List.mem_cons, List.not_mem_nil, or_false] at hx; subst hx; exact kup_r _ _ O2.out (XA.out.1.trans XA.out.2)⟩; have HX : Hid (∀ W, Upd (fun k => w.heap.size ≤ k ∧ k < v1.heap.size) ((v2.alloc (.cells #[.slice (some ⟨g2, 0, none⟩) 1 1, .int .u64 0, .slice none 0 0, .int .i64 1] 95)).alloc (.cells #[.int .u64 1, .slice none 0 0] 26)) W → Tin W (some ⟨v2.heap.size + 1, 0, none⟩) 1 [⟨1, none, 0, []⟩]) := Lib.hid (fun W q => tin_one (Sl.upd (by have := sl_alloc (v2.alloc (.cells #[.slice (some ⟨g2, 0, none⟩) 1 1, .int .u64 0, .slice none 0 0, .int .i64 1] 95)) 26 #[.int .u64 1, .slice none 0 0] [.int .u64 1, .slice none 0 0] 2 1 rfl rfl (by decide); simpa using this) q (fun k hk hr => by have h1 := (U2.out.lr k hr).2; injection hk with hk; simp only at hk; omega))); go_loud (refine (spIns_any (q := (0, k11a)) gs m1 _ (some ⟨v2.heap.size, 0, none⟩) 1 1 [kup g2 1 0 1] (some ⟨v2.heap.size + 1, 0, none⟩) 1 1 [⟨1, none, 0, []⟩] _ (Lib.hid (by rw [E1.out]; exact k11_ins1 g2)) (Lib.hid UA.out.sp) (Lib.hid rfl) HU (by decide) (Lib.hid (k11_in1 g2)) (Lib.hid rfl) HX (Lib.hid (few1_one _)) UA.out.ok.sp.nb (Lib.hid (G.ext UA.out.ext))).mono ?_); rintro r v3 ⟨m3, rfl, s3, e3, u3⟩; have U3 : Hid (∃ R, Uno w v3 gs m3 R) := Lib.hid ⟨_, UA.out.step u3 s3 (by rw [e3]; exact okV_a)⟩; have E3 := Lib.hid e3; clear s3 e3 u3 UA HU HX XA; obtain ⟨R3, h3⟩ := U3.out; have U3 := Lib.hid h3; clear h3; have p4 : True := trivial)
    | (go_at_call 152; have mk := p4; clear p4 mk; go_loud (refine (upd11_any (1) (1) (1) _).mono ?_); rintro r v4 ⟨g4, rfl, b4, o4, x4⟩; have U4 := Lib.hid (U3.out.grow x4); have O4 := Lib.hid o4; have J4 := Lib.hid x4; clear o4 x4 b4; have p5 : True := trivial)
    | (go_at_call 152; have mk := p5; clear p5 mk; go_loud (refine (upd11_any (2) (1) (1) _).mono ?_); rintro r v5 ⟨g5, rfl, b5, o5, x5⟩; have U5 := Lib.hid (U4.out.grow x5); have O5 := Lib.hid o5; have J5 := Lib.hid x5; clear o5 x5 b5; have p6 : True := trivial)
    | (go_at_call 44; have mk := p6; clear p6 mk; have XA : Hid (Ext v5 (v5.alloc (.cells #[.slice (some ⟨g4, 0, none⟩) 1 1, .int .u64 1, .slice none 0 0, .int .i64 1, .slice (some ⟨g5, 0, none⟩) 1 1, .int .u64 1, .slice none 0 0, .int .i64 1] 95)) ∧ Ext (v5.alloc (.cells #[.slice (some ⟨g4, 0, none⟩) 1 1, .int .u64 1, .slice none 0 0, .int .i64 1, .slice (some ⟨g5, 0, none⟩) 1 1, .int .u64 1, .slice none 0 0, .int .i64 1] 95)) ((v5.alloc (.cells #[.slice (some ⟨g4, 0, none⟩) 1 1, .int .u64 1, .slice none 0 0, .int .i64 1, .slice (some ⟨g5, 0, none⟩) 1 1, .int .u64 1, .slice none 0 0, .int .i64 1] 95)).alloc (.cells #[.int .u64 2, .slice none 0 0] 26))) := Lib.hid ⟨(Ext.refl _).alloc _, (Ext.refl _).alloc _⟩; have UA := Lib.hid (U5.out.grow (XA.out.1.trans XA.out.2)); have HU : Hid (Uin ((v5.alloc (.cells #[.slice (some ⟨g4, 0, none⟩) 1 1, .int .u64 1, .slice none 0 0, .int .i64 1, .slice (some ⟨g5, 0, none⟩) 1 1, .int .u64 1, .slice none 0 0, .int .i64 1] 95)).alloc (.cells #[.int .u64 2, .slice none 0 0] 26)) (some ⟨v5.heap.size, 0, none⟩) 2 [kup g4 1 1 1, kup g5 2 1 1]) := Lib.hid ⟨(sl_alloc v5 95 #[.slice (some ⟨g4, 0, none⟩) 1 1, .int .u64 1, .slice none 0 0, .int .i64 1, .slice (some ⟨g5, 0, none⟩) 1 1, .int .u64 1, .slice none 0 0, .int .i64 1] (udsC [kup g4 1 1 1, kup g5 2 1 1]) 4 2 rfl rfl (by decide)).ext XA.out.2, fun x hx => by simp only [List.mem_cons, List.not_mem_nil, or_false] at hx; rcases hx with rfl | rfl; (exact kup_r _ _ O4.out ((J5.out.trans XA.out.1).trans XA.out.2)); (exact kup_r _ _ O5.out (XA.out.1.trans XA.out.2))⟩; have HX : Hid (∀ W, Upd R3 ((v5.alloc (.cells #[.slice (some ⟨g4, 0, none⟩) 1 1, .int .u64 1, .slice none 0 0, .int .i64 1, .slice (some ⟨g5, 0, none⟩) 1 1, .int .u64 1, .slice none 0 0, .int .i64 1] 95)).alloc (.cells #[.int .u64 2, .slice none 0 0] 26)) W → Tin W (some ⟨v5.heap.size + 1, 0, none⟩) 1 [⟨2, none, 0, []⟩]) := Lib.hid (fun W q => tin_one (Sl.upd (by have := sl_alloc (v5.alloc (.cells #[.slice (some ⟨g4, 0, none⟩) 1 1, .int .u64 1, .slice none 0 0, .int .i64 1, .slice (some ⟨g5, 0, none⟩) 1 1, .int .u64 1, .slice none 0 0, .int .i64 1] 95)) 26 #[.int .u64 2, .slice none 0 0] [.int .u64 2, .slice none 0 0] 2 1 rfl rfl (by decide); simpa using this) q (fun k hk hr => by have h1 := (U5.out.lr k hr).2; injection hk with hk; simp only at hk; omega))); go_loud (refine (spIns_any (q := (0, k11b)) gs m3 _ (some ⟨v5.heap.size, 0, none⟩) 2 2 [kup g4 1 1 1, kup g5 2 1 1] (some ⟨v5.heap.size + 1, 0, none⟩) 1 1 [⟨2, none, 0, []⟩] _ (Lib.hid (by rw [E3.out]; exact k11_ins2 g4 g5)) (Lib.hid UA.out.sp) (Lib.hid rfl) HU (by decide) (Lib.hid (k11_in2 g4 g5)) (Lib.hid rfl) HX (Lib.hid (few1_one _)) UA.out.ok.sp.nb (Lib.hid (G.ext UA.out.ext))).mono ?_); rintro r v6 ⟨m6, rfl, s6, e6, u6⟩; have U6 : Hid (∃ R, Uno w v6 gs m6 R) := Lib.hid ⟨_, UA.out.step u6 s6 (by rw [e6]; exact okV_b)⟩; have E6 := Lib.hid e6; clear s6 e6 u6 UA HU HX XA; obtain ⟨R6, h6⟩ := U6.out; have U6 := Lib.hid h6; have LRA := Lib.hid h6.lr; clear h6; have p7 : True := trivial)
    | (go_at_call 49; have mk := p7; clear p7 mk; go_loud (refine (sizes_any gs m6 _ _ (Lib.hid U6.out.sp) U6.out.ok.sp.nb).mono ?_); rintro r v7 ⟨A7, n7, c7, rfl, hn7, o7, x7⟩; have L7 : sizesB m6.bs = [1, 2] := (by rw [sizes_v, E6.out]; rfl); have hm7 : n7 = 2 := (by rw [hn7, L7]; rfl); subst hm7; rw [L7] at o7; have O7 := Lib.hid o7; have J7 := Lib.hid x7; have U7 := Lib.hid (U6.out.grow x7); clear hn7 o7 x7 L7; have p8 : True := trivial)
    | (go_at_call 46; have mk := p8; clear p8 mk; go_loud (refine (spAt_any (q := (0, [([kone 1], 2), ([kone 2], 1)])) gs m6 _ 1 none 0 0 [] _ (Lib.hid (by rw [E6.out]; exact k11_at1)) (Lib.hid U7.out.sp) (Lib.hid U7.out.ok.sp) (Lib.hid rfl) (Lib.hid (Sl.nil _ _)) (G.ext U7.out.ext)).mono ?_); rintro r v8 ⟨A8, nb, c8, rfl, d8⟩; have hb8 : nb = 2 := (by obtain ⟨A_, m_, c_, R_, q1, q2, _, _, _, q3, _⟩ := d8; injection q1 with q1; injection q1 with _ q1 _; rw [q1, q2]; have := congrArg List.length q3; simpa using this); subst hb8; have J8 := Lib.hid (at_ext d8); have U8 := Lib.hid (U7.out.grow J8.out); clear d8; have p9 : True := trivial)
    | (go_at_call 46; have mk := p9; clear p9 mk; go_loud (refine (spAt_any (q := (111, [])) gs m6 _ 2 none 0 0 [] _ (Lib.hid (by rw [E6.out]; exact k11_at2)) (Lib.hid U8.out.sp) (Lib.hid U8.out.ok.sp) (Lib.hid rfl) (Lib.hid (Sl.nil _ _)) (G.ext U8.out.ext)).mono ?_); rintro r v9 ⟨A9, n9, c9, rfl, d9⟩; have J9 := Lib.hid (at_ext d9); have U9 := Lib.hid (U8.out.grow J9.out); clear d9; have p10 : True := trivial)
    | (go_at_call 47; have mk := p10; clear p10 mk; go_loud (refine (work_any gs 100 m6 _ _ (Lib.hid U9.out.sp) (Lib.hid U9.out.ok) (by decide) (by decide) (Lib.hid (fun k hk => (U9.out.lr k hk).2))).mono ?_); rintro r v10 ⟨m10, q10, rfl, s10, k10, ok10, u10⟩; have kk := k11_work (by rw [← E6.out]; exact k10); obtain ⟨e10, hq⟩ := kk; subst hq; have U10 := Lib.hid (U9.out.step u10 s10 ok10); have E10 := Lib.hid e10; have F10 := Lib.hid u10; have NR7 : Hid (∀ k, v6.heap.size ≤ k ∧ k < v7.heap.size → ¬ Rg R6 v9 v10 k) := Lib.hid (fun k hk hr => by rcases hr with hr | hr; (have := (LRA.out k hr).2; omega); (have := (J8.out.trans J9.out).size; omega)); clear s10 e10 u10 k10 ok10; have LRB := Lib.hid U10.out.lr; have p11 : True := trivial)
    | (go_at_call 49; have mk := p11; clear p11 mk; go_loud (refine (sizes_any gs m10 _ _ (Lib.hid U10.out.sp) U10.out.ok.sp.nb).mono ?_); rintro r v11 ⟨A11, n11, c11, rfl, hn11, o11, x11⟩; have L11 : sizesB m10.bs = [3] := (by rw [sizes_v, E10.out]; rfl); have hm11 : n11 = 1 := (by rw [hn11, L11]; rfl); subst hm11; rw [L11] at o11; have O11 := Lib.hid o11; have J11 := Lib.hid x11; have U11 := Lib.hid (U10.out.grow x11); clear hn11 o11 x11 L11; have p12 : True := trivial)
    | (go_at_call 45; have mk := p12; clear p12 mk; have XA : Hid (Ext v11 (v11.alloc (.cells #[.int .u64 1, .slice none 0 0] 26))) := Lib.hid ((Ext.refl _).alloc _); have UA := Lib.hid (U11.out.grow XA.out); have HX : Hid (Tin (v11.alloc (.cells #[.int .u64 1, .slice none 0 0] 26)) (some ⟨v11.heap.size, 0, none⟩) 1 [⟨1, none, 0, []⟩]) := Lib.hid (tin_one (sl_alloc v11 26 #[.int .u64 1, .slice none 0 0] [.int .u64 1, .slice none 0 0] 2 1 rfl rfl (by decide))); go_loud (refine (compact_any (q := (0, k11d)) gs m10 _ (some ⟨v11.heap.size, 0, none⟩) 1 1 [⟨1, none, 0, []⟩] _ (Lib.hid (by rw [E10.out]; exact k11_comp)) (Lib.hid UA.out.sp) (Lib.hid rfl) HX (Lib.hid (few1_one _))).mono ?_); rintro r v12 ⟨m12, rfl, s12, e12, u12⟩; have U12 : Hid (∃ R, Uno w v12 gs m12 R) := Lib.hid ⟨_, UA.out.step u12 s12 (by rw [e12, ← k11_okd]; exact okV_compact (by rw [← E10.out]; exact UA.out.ok) k11_X)⟩; have E12 := Lib.hid e12; have F12 := Lib.hid u12; have XC := XA; clear s12 e12 u12 UA HX XA; obtain ⟨R12, h12⟩ := U12.out; have U12 := Lib.hid h12; clear h12; have p13 : True := trivial)
    | (go_at_call 48; have mk := p13; clear p13 mk; go_loud (refine (spAll_any (V := k11A) gs m12 _ _ (Lib.hid (by rw [E12.out]; exact k11_all)) (Lib.hid U12.out.sp) (Lib.hid U12.out.ok.sp)).mono ?_); rintro r v13 ⟨A13, n13, L13, rfl, hn13, t13, e13, x13⟩; have O13 := Lib.hid t13; have HN13 := Lib.hid hn13; have E13 := Lib.hid e13; have J13 := Lib.hid x13; have U13 := Lib.hid (U12.out.grow x13); clear hn13 t13 e13 x13; have p14 : True := trivial)
    | (go_at_call 66; have mk := p14; clear p14 mk; have K7 := Lib.hid (O7.out); have K7 := Lib.hid (K7.out.ext J8.out); have K7 := Lib.hid (K7.out.ext J9.out); have K7 := Lib.hid (K7.out.upd F10.out (fun k hk hr => by have h1 := (O7.out.lt k hk).1; have h2 := (LRA.out k hr).2; omega)); have K7 := Lib.hid (K7.out.ext J11.out); have K7 := Lib.hid ((K7.out.ext XC.out).upd F12.out (fun k hk hr => by have h1 := (K7.out.lt k hk).2; exact NR7.out k (O7.out.lt k hk) hr)); have K7 := Lib.hid (K7.out.ext J13.out); have XA : Hid (Ext v13 (v13.alloc (.cells #[.int .i64 1, .int .i64 2] 3))) := Lib.hid ((Ext.refl _).alloc _); go_loud (refine (sameInts_lit A7 (some ⟨v13.heap.size, 0, none⟩) c7 2 2 2 [1, 2] _ (Lib.hid rfl) (Lib.hid rfl) (Lib.hid (K7.out.sl.ext XA.out)) (Lib.hid (sl_alloc v13 3 #[.int .i64 1, .int .i64 2] (ints [1, 2]) 1 2 rfl rfl (by decide)))).mono ?_); rintro r v14 ⟨rfl, x14⟩; have J14 := Lib.hid (XA.out.trans x14); have U14 := Lib.hid (U13.out.grow J14.out); clear x14 XA; have p15 : True := trivial)
    | (go_at_call 66; have mk := p15; clear p15 mk; have K11 := Lib.hid (O11.out); have K11 := Lib.hid ((K11.out.ext XC.out).upd F12.out (fun k hk hr => by have h1 := (O11.out.lt k hk).1; have h2 := (LRB.out k hr).2; omega)); have K11 := Lib.hid (K11.out.ext J13.out); have K11 := Lib.hid (K11.out.ext J14.out); have XA : Hid (Ext v14 (v14.alloc (.cells #[.int .i64 3] 3))) := Lib.hid ((Ext.refl _).alloc _); go_loud (refine (sameInts_lit A11 (some ⟨v14.heap.size, 0, none⟩) c11 1 1 1 [3] _ (Lib.hid rfl) (Lib.hid rfl) (Lib.hid (K11.out.sl.ext XA.out)) (Lib.hid (sl_alloc v14 3 #[.int .i64 3] (ints [3]) 1 1 rfl rfl (by decide)))).mono ?_); rintro r v15 ⟨rfl, x15⟩; have J15 := Lib.hid (XA.out.trans x15); have U15 := Lib.hid (U14.out.grow J15.out); clear x15 XA; have p16 : True := trivial)
    | (go_at_call 152; have mk := p16; clear p16 mk; go_loud (refine (upd11_any (1) (1) (2) _).mono ?_); rintro r v16 ⟨g16, rfl, b16, o16, x16⟩; have U16 := Lib.hid (U15.out.grow x16); have O16 := Lib.hid o16; have J16 := Lib.hid x16; clear o16 x16 b16; have p17 : True := trivial)
    | (go_at_call 152; have mk := p17; clear p17 mk; go_loud (refine (upd11_any (2) (1) (1) _).mono ?_); rintro r v17 ⟨g17, rfl, b17, o17, x17⟩; have U17 := Lib.hid (U16.out.grow x17); have O17 := Lib.hid o17; have J17 := Lib.hid x17; clear o17 x17 b17; have p18 : True := trivial)
    | (go_at_call 23; have mk := p18; clear p18 mk; have XA : Hid (Ext v17 (v17.alloc (.cells #[.slice (some ⟨g16, 0, none⟩) 1 1, .int .u64 1, .slice none 0 0, .int .i64 2, .slice (some ⟨g17, 0, none⟩) 1 1, .int .u64 1, .slice none 0 0, .int .i64 1] 95))) := Lib.hid ((Ext.refl _).alloc _); have HUB : Hid (Uin (v17.alloc (.cells #[.slice (some ⟨g16, 0, none⟩) 1 1, .int .u64 1, .slice none 0 0, .int .i64 2, .slice (some ⟨g17, 0, none⟩) 1 1, .int .u64 1, .slice none 0 0, .int .i64 1] 95)) (some ⟨v17.heap.size, 0, none⟩) 2 [kup g16 1 1 2, kup g17 2 1 1]) := Lib.hid ⟨sl_alloc v17 95 #[.slice (some ⟨g16, 0, none⟩) 1 1, .int .u64 1, .slice none 0 0, .int .i64 2, .slice (some ⟨g17, 0, none⟩) 1 1, .int .u64 1, .slice none 0 0, .int .i64 1] (udsC [kup g16 1 1 2, kup g17 2 1 1]) 4 2 rfl rfl (by decide), fun x hx => by simp only [List.mem_cons, List.not_mem_nil, or_false] at hx; rcases hx with rfl | rfl; (exact kup_r _ _ O16.out (J17.out.trans XA.out)); (exact kup_r _ _ O17.out XA.out)⟩; go_loud (refine (sameUps_any A13 (some ⟨v17.heap.size, 0, none⟩) n13 2 n13 2 L13 [kup g16 1 1 2, kup g17 2 1 1] _ HN13 (Lib.hid rfl) (Lib.hid (O13.out.uin.ext ((((J14.out.trans J15.out).trans J16.out).trans J17.out).trans XA.out))) HUB (Lib.hid (E13.out.trans rfl))).mono ?_); rintro r v18 ⟨rfl, x18⟩; have U18 := Lib.hid (U17.out.grow (XA.out.trans x18)); clear x18 XA HUB; have p19 : True := trivial)
    | fail)
  go_ret
  exact ⟨rfl, U18.out.ext⟩
end Go.Proofs.YtdgbkpoickbidaaGreatDoor
namespace Go.Proofs.YtdgbkpoickbidaaGreatDoor
open Go.RowKit

set_option maxRecDepth 100000 in
set_option maxHeartbeats 16000000 in
theorem much11_any (A : Option Addr) (c n : Nat) (M : List Sop) (w : World) (hn : Hid (n = M.length)) (hM : Hid (Oin w A c M)) (hb : Hid (∀ x ∈ M, x.L.length ≤ 1048576 ∧ x.T.length ≤ 1048576)) :
    Calls Tryz.prog 41 #[.slice A n c] w fun e w' => e = .returned (.bool (muchO M)) ∧ Ext w w' := by
  obtain ⟨b, hb0⟩ : ∃ b, muchO M = b := ⟨_, rfl⟩
  rw [hb0]
  have HB := Lib.hid hb0
  clear hb0
  have hmax : n ≤ 9223372036854775807 := by rw [hn.out]; exact hM.out.sl.le
  go_enter Tryz.func41, Tryz.ntmps41
  go_wp2
  go_loopg [3, 4] n (fun z v3 v4 wr => ∃ (i N : Nat), z = n - i ∧ i ≤ n ∧ v4 = .int .i64 i ∧ v3 = .int .i64 N ∧ (N ≤ 300 ∨ N ≤ 9223372036854775807) ∧ Hid (Cost (M.length + costM M i) N) ∧ Hid (Ext w wr))
  case atStart => exact ⟨0, n, rfl, Nat.zero_le _, rfl, rfl, .inr hmax, Lib.hid (by rw [hn.out]; exact Cost.rfl' _), Lib.hid (Ext.refl _)⟩
  case round =>
    obtain ⟨i, N, rfl, hi, rfl, rfl, hN, HC, HE⟩ := hrel
    by_cases hlt : i < n
    · by_cases h300 : N ≤ 300
      · have hiM : i < M.length := by rw [← hn.out]; exact hlt
        have HIM := Lib.hid hiM
        obtain ⟨x, hx⟩ : ∃ x, M.getD i Sop.zero = x := ⟨_, rfl⟩
        have hxm : x ∈ M := hx ▸ getO_mem hiM
        obtain ⟨ad, rfl, _, q1, q2, _, _, _, q6⟩ := (hM.out.ext HE.out).at hiM hx
        have HXR : Hid (SopR wr x) := Lib.hid ((hM.out.ls x hxm).ext HE.out)
        obtain ⟨hl1, hl2⟩ := hb.out x hxm
        have hr1 := HXR.out.r.le
        have HX := Lib.hid hx
        obtain ⟨nL, hnL⟩ : ∃ k, x.L.length = k := ⟨_, rfl⟩
        obtain ⟨nT, hnT⟩ : ∃ k, x.T.length = k := ⟨_, rfl⟩
        obtain ⟨nR, hnR⟩ : ∃ k, x.r.length = k := ⟨_, rfl⟩
        rw [hnL] at q1 hl1
        rw [hnT] at q2 hl2
        rw [hnR] at q6 hr1
        have HNL := Lib.hid hnL
        have HNT := Lib.hid hnT
        have HNR := Lib.hid hnR
        clear hnL hnT hnR hx hxm hiM
        obtain ⟨xA, hxA⟩ : ∃ k, x.A = k := ⟨_, rfl⟩
        obtain ⟨xc, hxc⟩ : ∃ k, x.c = k := ⟨_, rfl⟩
        obtain ⟨tA, htA⟩ : ∃ k, x.tA = k := ⟨_, rfl⟩
        obtain ⟨tc, htc⟩ : ∃ k, x.tc = k := ⟨_, rfl⟩
        rw [hxA, hxc] at q1
        rw [htA, htc] at q2
        have HU : Hid (Uin wr xA xc x.L) := Lib.hid (by rw [← hxA, ← hxc]; exact HXR.out.u)
        have HT : Hid (Tin wr tA tc x.T) := Lib.hid (by rw [← htA, ← htc]; exact HXR.out.t)
        clear hxA hxc htA htc
        have X : Ext wr wr.drew := (Ext.refl wr).drew
        have Q1 : ∀ z : Xt wr.drew, z.W.cell? ⟨(ad.add (i * 7)).block, (ad.add (i * 7)).off + 1, none⟩ = some (.slice xA nL xc) := fun z => (X.trans z.x).cell q1
        have Q2 : ∀ z : Xt wr.drew, z.W.cell? ⟨(ad.add (i * 7)).block, (ad.add (i * 7)).off + 2, none⟩ = some (.slice tA nT tc) := fun z => (X.trans z.x).cell q2
        have Q6 : ∀ z : Xt wr.drew, z.W.cell? ⟨(ad.add (i * 7)).block, (ad.add (i * 7)).off + 6, none⟩ = some (.slice x.rA nR x.rc) := fun z => (X.trans z.x).cell q6
        go_upto_region 5 with fail
        refine wp_region_ord [0,0,0,6,14,30,62,0,0,384,896,1920,3968,8190,0,0,49152,114688,245760,507904,1032192,2097150,4194303,8388607] (.flo [0,1,2,3,4,5,6,7,8,9,10,11,12,13,14,15,16,17,18,19,20,21,22,23] (.fin)) (by kernel_rfl) (by kernel_rfl) (by intro _ _ d _ _ h; cases d <;> exact h) ?_
        (refine ord_flo (pick_cons rfl (pick_cons rfl (pick_cons rfl (pick_cons rfl (pick_cons rfl (pick_cons rfl (pick_cons rfl (pick_cons rfl (pick_cons rfl (pick_cons rfl (pick_cons rfl (pick_cons rfl (pick_cons rfl (pick_cons rfl (pick_cons rfl (pick_cons rfl (pick_cons rfl (pick_cons rfl (pick_cons rfl (pick_cons rfl (pick_cons rfl (pick_cons rfl (pick_cons rfl (pick_cons rfl pick_nil)))))))))))))))))))))))) ?_; (repeat (go_big_quiet_step (fail))); refine wpQuiet_nil ?_; show ordWalk _ _ _ _ _ _ _)
        refine ord_fin ?_
        clear Q1 Q2 Q6 q6
        have E1 := Lib.hid (X.cell q1)
        have E2 := Lib.hid (X.cell q2)
        obtain ⟨wo, hwo⟩ : ∃ wo : World, wo = wr.drew := ⟨_, rfl⟩
        have XO : Hid (Ext wr wo) := Lib.hid (hwo ▸ X)
        have D1 : Hid (∀ W, Ext wo W → W.cell? ⟨(ad.add (i * 7)).block, (ad.add (i * 7)).off + 1, none⟩ = some (.slice xA nL xc)) := Lib.hid (fun W y => (XO.out.trans y).cell q1)
        have D2 : Hid (∀ W, Ext wo W → W.cell? ⟨(ad.add (i * 7)).block, (ad.add (i * 7)).off + 2, none⟩ = some (.slice tA nT tc)) := Lib.hid (fun W y => (XO.out.trans y).cell q2)
        rw [← hwo]
        clear E1 E2 hwo X q1 q2
        obtain ⟨N1, hN1⟩ : ∃ k, k = N + (nL + nT + nR / 16) := ⟨_, rfl⟩
        have HJ0 : Hid (Cost (costI M x i + costL x.L 0) N1) := Lib.hid (HC.out.add (d := nL + nT + nR / 16) (by unfold costI; rw [HNL.out, HNT.out, HNR.out]; rfl) hN1)
        have hN1' : N1 ≤ 1000000000000000000 := by omega
        have hN1z : ((N1 : Nat) : Int) = (N : Int) + ((nL : Int) + (nT : Int) + ((nR / 16 : Nat) : Int)) := by omega
        have HN1 := Lib.hid hN1
        clear hN1
        go_wp2
        go_loopg [3, 5] nL (fun z v3 v5 wq => ∃ (k N2 : Nat), z = nL - k ∧ k ≤ nL ∧ v5 = .int .i64 k ∧ v3 = .int .i64 N2 ∧ N2 ≤ 4611686018427387904 ∧ Hid (Cost (costI M x i + costL x.L k) N2) ∧ Hid (Ext wo wq))
        case atStart => exact ⟨0, N1, rfl, Nat.zero_le _, rfl, by have := HN1.out; go_num, by omega, HJ0, Lib.hid (Ext.refl _)⟩
        case round =>
          clear HJ0
          obtain ⟨k, N2, rfl, hk, rfl, rfl, hN2, HJ, HQ⟩ := hrel
          have q1 := D1.out _ HQ.out
          have q2 := D2.out _ HQ.out
          by_cases hlk : k < nL
          · by_cases h302 : N2 ≤ 300
            · have hkL : k < x.L.length := by rw [HNL.out]; exact hlk
              have HKL := Lib.hid hkL
              obtain ⟨ad2, e2, r0, _, r2, _⟩ := (HU.out.ext (XO.out.trans HQ.out)).at hkL
              subst e2
              have hc1 := (HU.out.ls _ (getU_mem hkL)).r.cap
              have hc2 := (HU.out.ls _ (getU_mem hkL)).t.cap
              obtain ⟨y, hy⟩ : ∃ y, x.L.getD k Ud.zero = y := ⟨_, rfl⟩
              rw [hy] at r0 r2 hc1 hc2
              have HY := Lib.hid hy
              obtain ⟨yr, hyr⟩ : ∃ k, y.l.length = k := ⟨_, rfl⟩
              obtain ⟨yt, hyt⟩ : ∃ k, y.t.l.length = k := ⟨_, rfl⟩
              rw [hyr] at r0 hc1
              rw [hyt] at r2 hc2
              have HYR := Lib.hid hyr
              have HYT := Lib.hid hyt
              clear hy hyr hyt hkL
              have X : Ext wr wr.drew := (Ext.refl wr).drew
              have Q1 : ∀ z : Xt wr.drew, z.W.cell? ⟨(ad.add (i * 7)).block, (ad.add (i * 7)).off + 1, none⟩ = some (.slice (some ad2) nL xc) := fun z => (X.trans z.x).cell q1
              have R0 : ∀ z : Xt wr.drew, z.W.cell? (ad2.add (k * 4)) = some (.slice y.A yr y.c) := fun z => (X.trans z.x).cell r0
              have R2 : ∀ z : Xt wr.drew, z.W.cell? ⟨(ad2.add (k * 4)).block, (ad2.add (k * 4)).off + 2, none⟩ = some (.slice y.t.A yt y.t.c) := fun z => (X.trans z.x).cell r2
              go_upto_region 9 with fail
              refine wp_region_ord [0,0,0,6,14,30,0,126,254,510,1022,2046,0,0,12288,28672,61440,0,258048,520192,1044480,2093056,4190208,8384512,16777214,33554431,67108863] (.flo [0,1,2,3,4,5,6,7,8,9,10,11,12,13,14,15,16,17,18,19,20,21,22,23,24,25,26] (.fin)) (by kernel_rfl) (by kernel_rfl) (by intro _ _ d _ _ h; cases d <;> exact h) ?_
              (refine ord_flo (pick_cons rfl (pick_cons rfl (pick_cons rfl (pick_cons rfl (pick_cons rfl (pick_cons rfl (pick_cons rfl (pick_cons rfl (pick_cons rfl (pick_cons rfl (pick_cons rfl (pick_cons rfl (pick_cons rfl (pick_cons rfl (pick_cons rfl (pick_cons rfl (pick_cons rfl (pick_cons rfl (pick_cons rfl (pick_cons rfl (pick_cons rfl (pick_cons rfl (pick_cons rfl (pick_cons rfl (pick_cons rfl (pick_cons rfl (pick_cons rfl pick_nil))))))))))))))))))))))))))) ?_; (repeat (go_big_quiet_step (fail))); refine wpQuiet_nil ?_; show ordWalk _ _ _ _ _ _ _)
              refine ord_fin ?_
              clear Q1 R0 R2 r0 r2 q1 q2
              go_wp2
              go_roundg (nL - (k + 1))
              case measure => omega
              case rel => exact ⟨k + 1, N2 + (yr / 16 + yt / 4), by omega, by omega, by go_num, by go_num, by omega, Lib.hid (HJ.out.add (d := yr / 16 + yt / 4) (by rw [costL_succ HKL.out, HY.out]; unfold costY; rw [HYR.out, HYT.out]; omega) rfl), Lib.hid (HQ.out.trans X)⟩
            · have hgt : ((N2 : Int) ≤ 300) = False := by simp; omega
              have HK0 : Hid (Cost (costI M x i + costL x.L x.L.length + costT x.T 0) N2) := Lib.hid (HJ.out.up (by have := sum_take_le costY x.L k; unfold costL costT; simp only [List.take_zero, List.map_nil, List.sum_nil]; omega) (by omega))
              go_wp2
              go_loopg [3, 6] nT (fun z v3 v6 wp => ∃ (k N3 : Nat), z = nT - k ∧ k ≤ nT ∧ v6 = .int .i64 k ∧ v3 = .int .i64 N3 ∧ N3 ≤ 9223372036854775807 ∧ Hid (Cost (costI M x i + costL x.L x.L.length + costT x.T k) N3) ∧ Hid (Ext wo wp))
              case atStart => exact ⟨0, N2, rfl, Nat.zero_le _, rfl, rfl, by omega, HK0, HQ⟩
              case round =>
                clear HK0
                obtain ⟨k, N3, rfl, hk, rfl, rfl, hN3, HK, HP⟩ := hrel
                have q2 := D2.out _ HP.out
                by_cases hlk : k < nT
                · by_cases h303 : N3 ≤ 300
                  · have hkT : k < x.T.length := by rw [HNT.out]; exact hlk
                    have HKT := Lib.hid hkT
                    obtain ⟨ad2, e2, _, r1⟩ := (HT.out.ext (XO.out.trans HP.out)).at hkT
                    subst e2
                    have hc1 := (HT.out.ls _ (getT_mem hkT)).cap
                    obtain ⟨y, hy⟩ : ∃ y, x.T.getD k Tm.zero = y := ⟨_, rfl⟩
                    rw [hy] at r1 hc1
                    have HY := Lib.hid hy
                    obtain ⟨yt, hyt⟩ : ∃ k, y.l.length = k := ⟨_, rfl⟩
                    rw [hyt] at r1 hc1
                    have HYT := Lib.hid hyt
                    clear hy hyt hkT
                    go_wp2
                    go_roundg (nT - (k + 1))
                    case measure => omega
                    case rel => exact ⟨k + 1, N3 + yt / 4, by omega, by omega, by go_num, by go_num, by omega, Lib.hid (HK.out.add (d := yt / 4) (by rw [costT_succ HKT.out, HY.out, HYT.out]; omega) rfl), HP⟩
                  · have hgt : ((N3 : Int) ≤ 300) = False := by simp; omega
                    go_wp2
                    go_roundg (n - (i + 1))
                    case measure => omega
                    case rel => exact ⟨i + 1, N3, by omega, by omega, by go_num, rfl, .inr (by omega), Lib.hid (HK.out.up (by rw [costI_end HIM.out HX.out]; have := sum_take_le (fun y : Tm => y.l.length / 4) x.T k; unfold costT; omega) (by omega)), Lib.hid ((HE.out.trans XO.out).trans HP.out)⟩
                · go_wp2
                  go_roundg (n - (i + 1))
                  case measure => omega
                  case rel => exact ⟨i + 1, N3, by omega, by omega, by go_num, rfl, .inr (by omega), Lib.hid (by have h1 := HK.out; rw [show k = x.T.length by rw [HNT.out]; omega, ← costI_end HIM.out HX.out] at h1; exact h1), Lib.hid ((HE.out.trans XO.out).trans HP.out)⟩
          · have HK0 : Hid (Cost (costI M x i + costL x.L x.L.length + costT x.T 0) N2) := Lib.hid (by have h1 := HJ.out; rw [show k = x.L.length by rw [HNL.out]; omega] at h1; exact h1)
            go_wp2
            go_loopg [3, 6] nT (fun z v3 v6 wp => ∃ (k N3 : Nat), z = nT - k ∧ k ≤ nT ∧ v6 = .int .i64 k ∧ v3 = .int .i64 N3 ∧ N3 ≤ 9223372036854775807 ∧ Hid (Cost (costI M x i + costL x.L x.L.length + costT x.T k) N3) ∧ Hid (Ext wo wp))
            case atStart => exact ⟨0, N2, rfl, Nat.zero_le _, rfl, rfl, by omega, HK0, HQ⟩
            case round =>
              clear HK0
              obtain ⟨k, N3, rfl, hk, rfl, rfl, hN3, HK, HP⟩ := hrel
              have q2 := D2.out _ HP.out
              by_cases hlk : k < nT
              · by_cases h303 : N3 ≤ 300
                · have hkT : k < x.T.length := by rw [HNT.out]; exact hlk
                  have HKT := Lib.hid hkT
                  obtain ⟨ad2, e2, _, r1⟩ := (HT.out.ext (XO.out.trans HP.out)).at hkT
                  subst e2
                  have hc1 := (HT.out.ls _ (getT_mem hkT)).cap
                  obtain ⟨y, hy⟩ : ∃ y, x.T.getD k Tm.zero = y := ⟨_, rfl⟩
                  rw [hy] at r1 hc1
                  have HY := Lib.hid hy
                  obtain ⟨yt, hyt⟩ : ∃ k, y.l.length = k := ⟨_, rfl⟩
                  rw [hyt] at r1 hc1
                  have HYT := Lib.hid hyt
                  clear hy hyt hkT
                  go_wp2
                  go_roundg (nT - (k + 1))
                  case measure => omega
                  case rel => exact ⟨k + 1, N3 + yt / 4, by omega, by omega, by go_num, by go_num, by omega, Lib.hid (HK.out.add (d := yt / 4) (by rw [costT_succ HKT.out, HY.out, HYT.out]; omega) rfl), HP⟩
                · have hgt : ((N3 : Int) ≤ 300) = False := by simp; omega
                  go_wp2
                  go_roundg (n - (i + 1))
                  case measure => omega
                  case rel => exact ⟨i + 1, N3, by omega, by omega, by go_num, rfl, .inr (by omega), Lib.hid (HK.out.up (by rw [costI_end HIM.out HX.out]; have := sum_take_le (fun y : Tm => y.l.length / 4) x.T k; unfold costT; omega) (by omega)), Lib.hid ((HE.out.trans XO.out).trans HP.out)⟩
              · go_wp2
                go_roundg (n - (i + 1))
                case measure => omega
                case rel => exact ⟨i + 1, N3, by omega, by omega, by go_num, rfl, .inr (by omega), Lib.hid (by have h1 := HK.out; rw [show k = x.T.length by rw [HNT.out]; omega, ← costI_end HIM.out HX.out] at h1; exact h1), Lib.hid ((HE.out.trans XO.out).trans HP.out)⟩
      · have hgt : ((N : Int) ≤ 300) = False := by simp; omega
        go_wp2
        go_ret
        refine ⟨ret_bool ?_, HE.out⟩
        rw [← HB.out]
        unfold muchO
        have h1 := HC.out.le
        have h2 := sum_take_le costO M i
        replace h2 : costM M i ≤ costM M M.length := h2
        rw [eq_comm, decide_eq_decide]
        constructor <;> intro <;> omega
    · obtain rfl : i = n := by omega
      go_wp2
      go_ret
      refine ⟨ret_bool ?_, HE.out⟩
      rw [← HB.out]
      have h1 := HC.out
      rw [hn.out] at h1
      have h2 := h1.much
      unfold muchO
      rw [← h2, eq_comm, decide_eq_decide]
      constructor <;> intro <;> omega
theorem much11_at {v : Bool} (A : Option Addr) (c n : Nat) (M : List Sop) (w : World) (hv : Hid (muchO M = v)) (hn : Hid (n = M.length)) (hM : Hid (Oin w A c M)) (hb : Hid (∀ x ∈ M, x.L.length ≤ 1048576 ∧ x.T.length ≤ 1048576)) :
    Calls Tryz.prog 41 #[.slice A n c] w fun e w' => e = .returned (.bool v) ∧ Ext w w' := hv.out ▸ much11_any A c n M w hn hM hb
end Go.Proofs.YtdgbkpoickbidaaGreatDoor
namespace Go.Proofs.YtdgbkpoickbidaaGreatDoor

/-- a change: a time, and by how much -/
abbrev CV := TV × Int
/-! ### how a frontier moves -/
end Go.Proofs.YtdgbkpoickbidaaGreatDoor
namespace Go.Proofs.YtdgbkpoickbidaaGreatDoor
open Go.RowKit

/-! ### changes -/
structure Cg where
  t : Tm
  d : Int
def Cg.zero : Cg := ⟨Tm.zero, 0⟩
instance : Inhabited Cg := ⟨Cg.zero⟩
def Cg.cv (x : Cg) : CV := (x.t.v, x.d)
def cgC (x : Cg) : List Value := [.int .u64 x.t.e, .slice x.t.A x.t.l.length x.t.c, .int .i64 x.d]
def cgsC (L : List Cg) : List Value := L.flatMap cgC
theorem cgsC_at : ∀ (L : List Cg) (i j : Nat), i < L.length → j < 3 → (cgsC L)[i * 3 + j]? = (cgC (L.getD i Cg.zero))[j]?
  | [], i, j, h, _ => absurd h (Nat.not_lt_zero _)
  | d :: l, 0, j, _, hj => by
    unfold cgsC
    rw [List.flatMap_cons, Nat.zero_mul, Nat.zero_add, List.getElem?_append_left (by rw [show (cgC d).length = 3 from rfl]; exact hj)]
    rfl
  | d :: l, i + 1, j, h, hj => by
    unfold cgsC
    rw [List.flatMap_cons, List.getElem?_append_right (by rw [show (cgC d).length = 3 from rfl]; omega), show (i + 1) * 3 + j - (cgC d).length = i * 3 + j by rw [show (cgC d).length = 3 from rfl]; omega]
    exact cgsC_at l i j (Nat.lt_of_succ_lt_succ h) hj
theorem cgsC_append (L M : List Cg) : cgsC (L ++ M) = cgsC L ++ cgsC M := List.flatMap_append
theorem own_at3 {w : World} {n c : Nat} {A : Option Addr} {xs : List Value} (h : Sl w 3 A n c xs) {k : Nat} (hk : k < n) {l : List Value} {a b x : Value} (hl : l = [a, b, x]) (hx : ∀ q, q < 3 → xs[k * 3 + q]? = l[q]?) :
    ∃ ad, A = some ad ∧ w.cell? (ad.add (k * 3)) = some a ∧ w.cell? ⟨(ad.add (k * 3)).block, (ad.add (k * 3)).off + 1, none⟩ = some b ∧ w.cell? ⟨(ad.add (k * 3)).block, (ad.add (k * 3)).off + 2, none⟩ = some x := by
  subst hl
  obtain ⟨ad, e, hc⟩ := h.2.2.2.2 (by omega)
  exact ⟨ad, e, hc _ _ (hx 0 (by omega)), by rw [← addr_off _ _ 1 (by omega)]; exact hc _ _ (hx 1 (by omega)), by rw [← addr_off _ _ 2 (by omega)]; exact hc _ _ (hx 2 (by omega))⟩
/-- a list of changes as readings give it -/
structure Cin (w : World) (A : Option Addr) (c : Nat) (L : List Cg) : Prop where
  sl : Sl w 3 A L.length c (cgsC L)
  ls : ∀ x ∈ L, Sl w 1 x.t.A x.t.l.length x.t.c (wds x.t.l)
theorem Cin.ext {w w' : World} {A : Option Addr} {c : Nat} {L : List Cg} (h : Cin w A c L) (x : Ext w w') : Cin w' A c L := ⟨h.sl.ext x, fun y hy => (h.ls y hy).ext x⟩
theorem Cin.nil (w : World) : Cin w none 0 [] := ⟨Sl.nil w 3, fun x hx => (nomatch hx)⟩
theorem Cin.at {w : World} {A : Option Addr} {c : Nat} {L : List Cg} (h : Cin w A c L) {i : Nat} (hi : i < L.length) : ∃ ad, A = some ad ∧ w.cell? (ad.add (i * 3)) = some (.int .u64 (L.getD i Cg.zero).t.e) ∧
    w.cell? ⟨(ad.add (i * 3)).block, (ad.add (i * 3)).off + 1, none⟩ = some (.slice (L.getD i Cg.zero).t.A (L.getD i Cg.zero).t.l.length (L.getD i Cg.zero).t.c) ∧ w.cell? ⟨(ad.add (i * 3)).block, (ad.add (i * 3)).off + 2, none⟩ = some (.int .i64 (L.getD i Cg.zero).d) :=
  own_at3 h.sl hi (show cgC (L.getD i Cg.zero) = [.int .u64 (L.getD i Cg.zero).t.e, .slice (L.getD i Cg.zero).t.A (L.getD i Cg.zero).t.l.length (L.getD i Cg.zero).t.c, .int .i64 (L.getD i Cg.zero).d] from rfl) (fun q hq => cgsC_at L i q hi hq)
theorem getG_mem {L : List Cg} {i : Nat} (h : i < L.length) : L.getD i Cg.zero ∈ L := by
  rw [List.getD_eq_getElem?_getD, List.getElem?_eq_getElem h]
  exact List.getElem_mem h
theorem getG_cv {L : List Cg} {i : Nat} (h : i < L.length) : ∃ h2 : i < (L.map Cg.cv).length, (L.map Cg.cv)[i] = (L.getD i Cg.zero).cv := ⟨by rw [List.length_map]; exact h, by
  rw [List.getElem_map, List.getD_eq_getElem?_getD, List.getElem?_eq_getElem h]
  rfl⟩
theorem elemChg : Elem Tryz.prog 58 60 3 40 (.agg #[.int .u64 0, .slice none 0 0, .int .i64 0]) := ⟨by kernel_rfl, by kernel_rfl, rfl, by decide⟩
/-- a change, its parts named: what the regions that draw want to know -/
structure CgAt (wr : World) (A : Option Addr) (k : Nat) (e : Int) (B : Option Addr) (n c : Nat) (l : List Int) (d : Int) (ad : Addr) : Prop where
  addr : A = some ad
  c0 : ∀ y : Xt wr, y.W.cell? (ad.add (k * 3)) = some (.int .u64 e)
  c1 : ∀ y : Xt wr, y.W.cell? ⟨(ad.add (k * 3)).block, (ad.add (k * 3)).off + 1, none⟩ = some (.slice B n c)
  c2 : ∀ y : Xt wr, y.W.cell? ⟨(ad.add (k * 3)).block, (ad.add (k * 3)).off + 2, none⟩ = some (.int .i64 d)
  sl : ∀ y : Xt wr, Hid (Sl y.W 1 B n c (wds l))
theorem Cin.cgAt {wr : World} {A : Option Addr} {c : Nat} {L : List Cg} (h : Cin wr A c L) {k : Nat} (hk : k < L.length) : ∃ e B n cc l d ad, CgAt wr A k e B n cc l d ad ∧ L.getD k Cg.zero = ⟨⟨e, B, cc, l⟩, d⟩ ∧ n = l.length := by
  obtain ⟨ad, rfl, q0, q1, q2⟩ := h.at hk
  have hs := h.ls _ (getG_mem hk)
  obtain ⟨x, hx⟩ : ∃ x, L.getD k Cg.zero = x := ⟨_, rfl⟩
  rw [hx] at q0 q1 q2 hs
  obtain ⟨⟨e, B, cc, l⟩, d⟩ := x
  exact ⟨e, B, l.length, cc, l, d, ad, ⟨rfl, fun y => y.x.cell q0, fun y => y.x.cell q1, fun y => y.x.cell q2, fun y => Lib.hid (hs.ext y.x)⟩, hx, rfl⟩
end Go.Proofs.YtdgbkpoickbidaaGreatDoor
namespace Go.Proofs.YtdgbkpoickbidaaGreatDoor
open Go.RowKit

def rowF (r : List Dat) (u : UV) : Bool := decide (cmpR u.1.1 r = 0)
/-- a row's changes in a list of updates -/
def chgV (V : List UV) (r : List Dat) : List CV := (V.filter (rowF r)).map fun u => (u.1.2, u.2)
def chgU (L : List Ud) (r : List Dat) : List Cg := (L.filter fun x => decide (cmpR x.l r = 0)).map fun x => ⟨x.t, x.d⟩
theorem chgU_val (L : List Ud) (r : List Dat) : (chgU L r).map Cg.cv = chgV (L.map Ud.uv) r := by
  unfold chgU chgV
  rw [List.map_map, List.filter_map, List.map_map]
  rfl
theorem chgU_step {L : List Ud} {i : Nat} {x : Ud} (hi : i < L.length) (hx : L.getD i Ud.zero = x) (r : List Dat) : chgU (L.take (i + 1)) r = chgU (L.take i) r ++ if cmpR x.l r = 0 then [⟨x.t, x.d⟩] else [] := by
  unfold chgU
  rw [takeU hi, hx, List.filter_append, List.map_append]
  congr 1
  split
  · rename_i h
    simp [h]
  · rename_i h
    simp [h]
theorem chgU_len (L : List Ud) (r : List Dat) : (chgU L r).length ≤ L.length := by
  unfold chgU
  rw [List.length_map]
  exact List.length_filter_le _ _
/-- what Row hands back -/
def SpRowRes (w : World) (V : List CV) (e : Ending) (w' : World) : Prop := ∃ A n c C, e = .returned (.slice A n c) ∧ n = C.length ∧ Own w' w.heap.size 60 3 A n c (cgsC C) ∧ (∀ x ∈ C, Sl w' 1 x.t.A x.t.l.length x.t.c (wds x.t.l)) ∧ C.map Cg.cv = V ∧ Ext w w'
theorem SpRowRes.cin {w w' : World} {V : List CV} {e : Ending} (h : SpRowRes w V e w') : ∃ A n c C, e = .returned (.slice A n c) ∧ n = C.length ∧ Cin w' A c C ∧ C.map Cg.cv = V ∧ Ext w w' := by
  obtain ⟨A, n, c, C, e, hn, o, l, v, x⟩ := h
  exact ⟨A, n, c, C, e, hn, ⟨by have := o.sl; rwa [hn] at this, l⟩, v, x⟩
/-- what has been taken so far -/
structure SpRowI (w wr : World) (L : List Ud) (r : List Dat) (i : Nat) (A : Option Addr) (m c : Nat) : Prop where
  len : m = (chgU (L.take i) r).length
  own : Own wr w.heap.size 60 3 A m c (cgsC (chgU (L.take i) r))
  ext : Ext w wr
theorem SpRowI.skip {w wr w2 : World} {L : List Ud} {r : List Dat} {i m c : Nat} {A : Option Addr} {x : Ud} (h : SpRowI w wr L r i A m c) (hi : i < L.length) (hx : L.getD i Ud.zero = x) (hb : cmpR x.l r ≠ 0) (q : Ext wr w2) : SpRowI w w2 L r (i + 1) A m c := by
  have e : chgU (L.take (i + 1)) r = chgU (L.take i) r := by rw [chgU_step hi hx, if_neg hb, List.append_nil]
  exact ⟨by rw [e]; exact h.len, by rw [e]; exact h.own.ext q, h.ext.trans q⟩
theorem SpRowI.more {w wr w2 : World} {L : List Ud} {r : List Dat} {i m c : Nat} {A A2 : Option Addr} {c2 m2 : Nat} {x : Ud} (h : SpRowI w wr L r i A m c) (hi : i < L.length) (hx : L.getD i Ud.zero = x) (hb : cmpR x.l r = 0) (hm : m2 = m + 1)
    (o : Own w2 w.heap.size 60 3 A2 m2 c2 (cgsC (chgU (L.take i) r) ++ [.int .u64 x.t.e, .slice x.t.A x.t.l.length x.t.c, .int .i64 x.d])) (q : Ext w w2) : SpRowI w w2 L r (i + 1) A2 m2 c2 := by
  have e : chgU (L.take (i + 1)) r = chgU (L.take i) r ++ [⟨x.t, x.d⟩] := by rw [chgU_step hi hx, if_pos hb]
  refine ⟨by rw [e, List.length_append, hm, h.len]; rfl, ?_, q⟩
  rw [e, cgsC_append]
  exact o
theorem srowCmp_lit {v : Int} (A1 A2 : Option Addr) (c1 c2 n1 n2 : Nat) (l m : List Dat) (w : World) (hv : Hid (cmpR l m = v)) (e1 : Hid (n1 = l.length)) (e2 : Hid (n2 = m.length)) (h1 : Hid (Rw w A1 c1 l)) (h2 : Hid (Rw w A2 c2 m)) :
    Calls Tryz.prog 164 #[.slice A1 n1 c1, .slice A2 n2 c2] w fun e w' => e = .returned (.int .i64 v) ∧ Ext w w' := hv.out ▸ rowCmp_any A1 A2 c1 c2 n1 n2 l m w e1.out e2.out h1.out h2.out
theorem sl_cg (w : World) (e d : Int) (A : Option Addr) (n c : Nat) : Sl (w.alloc (.cells #[.int .u64 e, .slice A n c, .int .i64 d] 60)) 3 (some ⟨w.heap.size, 0, none⟩) 1 1 [.int .u64 e, .slice A n c, .int .i64 d] := sl_alloc w _ _ _ 3 1 rfl rfl (by decide)
set_option maxRecDepth 100000 in
set_option maxHeartbeats 8000000 in
theorem spRow_any {V : List UV} (gs : Nat) (m : SpM) (R : Nat → Prop) (rA : Option Addr) (rc rn : Nat) (r : List Dat) (w : World) (hV : Hid (allV m.v = V)) (HM : Hid (SpR w R gs m)) (ok : Hid (OkV m.v)) (hrn : Hid (rn = r.length)) (hr : Hid (Rw w rA rc r)) (h9 : V.length ≤ 1000000) :
    Calls Tryz.prog 51 #[.pointer (some ⟨gs, 0, none⟩), .slice rA rn rc] w (SpRowRes w (chgV V r)) := by
  go_enter Tryz.func51, Tryz.ntmps51
  go_wp2_with (first
    | (go_at_call 48; go_loud (refine (spAll_any (V := V) gs m R _ hV HM (Lib.hid ok.out.sp)).mono ?_); rintro r w1 ⟨A1, n, L, rfl, h1, u1, e1, x1⟩; have HN := Lib.hid h1; have HU := Lib.hid u1.uin; have HE := Lib.hid e1; have X1 := Lib.hid x1; clear h1 u1 e1 x1)
    | fail)
  have hn9 : n ≤ 1000000 := by rw [HN.out]; have := congrArg List.length HE.out; rw [List.length_map] at this; omega
  have HP0 : Hid (SpRowI w1 w1 L r 0 none 0 0) := Lib.hid ⟨rfl, Own.nil _ _ _ _, Ext.refl _⟩
  go_loopg [5, 11] n (fun z u v wr => ∃ (i m c3 : Nat) (A3 : Option Addr), z = n - i ∧ i ≤ n ∧ m ≤ i ∧ u = .slice A3 m c3 ∧ v = .int .i64 i ∧ Hid (SpRowI w1 wr L r i A3 m c3))
  case atStart => exact ⟨0, 0, 0, none, rfl, Nat.zero_le _, Nat.le_refl _, rfl, rfl, HP0⟩
  case round =>
    clear HP0
    obtain ⟨i, k, c3, A3, rfl, hi, hki, rfl, rfl, HP⟩ := hrel
    by_cases hlt : i < n
    · have hil : i < L.length := by rw [← HN.out]; exact hlt
      obtain ⟨ad, rfl, p0, p1, p2, p3⟩ := (HU.out.ext HP.out.ext).at hil
      have hm := getU_mem hil
      obtain ⟨x, hx⟩ : ∃ x, L.getD i Ud.zero = x := ⟨_, rfl⟩
      rw [hx] at p0 p1 p2 p3 hm
      obtain ⟨nx, hnx⟩ : ∃ nx, nx = x.l.length := ⟨_, rfl⟩
      obtain ⟨tx, htx⟩ : ∃ tx, tx = x.t.l.length := ⟨_, rfl⟩
      rw [← hnx] at p0
      rw [← htx] at p2
      have HNX := Lib.hid hnx
      have HTX := Lib.hid htx
      have HX := Lib.hid hx
      have HIL := Lib.hid hil
      have XA : Ext wr (wr.alloc (.cells #[.slice x.A nx x.c, .int .u64 x.t.e, .slice x.t.A tx x.t.c, .int .i64 x.d] 95)) := (Ext.refl wr).alloc _
      have HR1 : Hid (Rw (wr.alloc (.cells #[.slice x.A nx x.c, .int .u64 x.t.e, .slice x.t.A tx x.t.c, .int .i64 x.d] 95)) x.A x.c x.l) := Lib.hid ((HU.out.ls x hm).r.ext (HP.out.ext.trans XA))
      have HR2 : Hid (Rw (wr.alloc (.cells #[.slice x.A nx x.c, .int .u64 x.t.e, .slice x.t.A tx x.t.c, .int .i64 x.d] 95)) rA rc r) := Lib.hid (hr.out.ext (X1.out.trans (HP.out.ext.trans XA)))
      have BX : Hid (Bk (wr.alloc (.cells #[.slice x.A nx x.c, .int .u64 x.t.e, .slice x.t.A tx x.t.c, .int .i64 x.d] 95)) wr.heap.size 95 #[.slice x.A nx x.c, .int .u64 x.t.e, .slice x.t.A tx x.t.c, .int .i64 x.d]) := Lib.hid (Bk.new _ _ _)
      obtain ⟨b, hb⟩ : ∃ b, cmpR x.l r = b := ⟨_, rfl⟩
      have HB := Lib.hid hb
      clear hil hm hx hnx htx hb
      have m1 : True := trivial
      by_cases hb0 : b = 0
      · subst hb0
        go_wp2_with (first
          | (go_at_call 164; have mk := m1; clear m1 mk; go_loud (refine (srowCmp_lit x.A rA x.c rc nx rn x.l r _ HB HNX hrn HR1 HR2).mono ?_); rintro r_ w2 ⟨rfl, x2⟩; have q1 := (BX.out.ext x2).cell 1; have q2 := (BX.out.ext x2).cell 2; have q3 := (BX.out.ext x2).cell 3; have X2 := Lib.hid (XA.trans x2); have hw2 : w1.heap.size ≤ w2.heap.size := (HP.out.ext.trans X2.out).size; clear x2; have m2 : True := trivial)
          | (at_builtin; have mk := m2; clear m2 mk; go_loud (refine wpList_append_two _ elemChg w1.heap.size _ _ rfl rfl A3 k c3 (cgsC (chgU (L.take i) r)) rfl ((HP.out.own.ext X2.out).alloc _) (some ⟨w2.heap.size, 0, none⟩) 1 1 [.int .u64 x.t.e, .slice x.t.A tx x.t.c, .int .i64 x.d] rfl (sl_cg _ _ _ _ _ _) (by intro u hu; simp at hu; rcases hu with rfl | rfl | rfl <;> rfl) (by omega) (by decide) (by simp; omega) ?_); intro A6 c6 w6 o6 g6 h6; clear h6; have HQ6 : Hid (SpRowI w1 w6 L r (i + 1) A6 (k + 1) c6) := Lib.hid (HP.out.more HIL.out HX.out HB.out rfl (by have := o6; rwa [HTX.out] at this) (((HP.out.ext.trans X2.out).alloc _).grown g6 (fun k e => (HP.out.own.lt k e).1))); clear o6 g6)
          | fail)
        go_roundg (n - (i + 1))
        case measure => omega
        case rel => exact ⟨i + 1, k + 1, c6, A6, rfl, by omega, by omega, rfl, by go_num, HQ6⟩
      · have hbz : (b == 0) = false := by simp [hb0]
        go_wp2_with (first
          | (go_at_call 164; have mk := m1; clear m1 mk; go_loud (refine (srowCmp_lit x.A rA x.c rc nx rn x.l r _ HB HNX hrn HR1 HR2).mono ?_); rintro r_ w2 ⟨rfl, x2⟩; have HQ6 : Hid (SpRowI w1 w2 L r (i + 1) A3 k c3) := Lib.hid (HP.out.skip HIL.out HX.out (by rw [HB.out]; exact hb0) (XA.trans x2)); clear x2)
          | fail)
        go_roundg (n - (i + 1))
        case measure => omega
        case rel => exact ⟨i + 1, k, c3, A3, rfl, by omega, by omega, rfl, by go_num, HQ6⟩
    · obtain rfl : i = n := by omega
      have ea : chgU (L.take i) r = chgU L r := by rw [List.take_of_length_le (by rw [← HN.out]; exact Nat.le_refl _)]
      have HEA := Lib.hid ea
      clear ea
      go_wp2
      go_ret
      have h1 := HP.out.len
      have h2 := HP.out.own
      rw [HEA.out] at h1 h2
      exact ⟨_, _, _, _, rfl, h1, h2.mono X1.out.size, fun y hy => by
        obtain ⟨x, hx, rfl⟩ := List.mem_map.1 hy
        exact (HU.out.ls x (List.mem_filter.1 hx).1).t.ext HP.out.ext, by rw [chgU_val, HE.out], X1.out.trans HP.out.ext⟩
end Go.Proofs.YtdgbkpoickbidaaGreatDoor
namespace Go.Proofs.YtdgbkpoickbidaaGreatDoor
open Go.RowKit

/-- what Work leaves, whatever its fuel -/
def SpWorkG (w : World) (R : Nat → Prop) (gs : Nat) (s : SV) (z : Int) (e : Ending) (w' : World) : Prop := ∃ (m' : SpM) (r : Nat), e = .returned (.int .i64 r) ∧ SpR w' (Rg R w w') gs m' ∧ ((m'.v = s ∧ r = 0 ∧ z < 1) ∨ ∃ n : Nat, z = n ∧ 0 < n ∧ WorkR s n m'.v r) ∧ OkV m'.v ∧ Upd R w w'
set_option maxRecDepth 100000 in
set_option maxHeartbeats 400000 in
theorem work_low (gs : Nat) (z : Int) (w : World) (hz : z < 1) : Calls Tryz.prog 47 #[.pointer (some ⟨gs, 0, none⟩), .int .i64 z] w fun e w' => e = .returned (.int .i64 0) ∧ Ext w w' := by
  go_enter Tryz.func47, Tryz.ntmps47
  go_wp2
  go_ret
  exact ⟨rfl, Ext.refl w⟩
theorem work_gen (gs : Nat) (z : Int) (m : SpM) (R : Nat → Prop) (w : World) (HM : Hid (SpR w R gs m)) (ok : Hid (OkV m.v)) (hz : z ≤ 9223372036854775807) (hR : Hid (∀ k, R k → k < w.heap.size)) : Calls Tryz.prog 47 #[.pointer (some ⟨gs, 0, none⟩), .int .i64 z] w (SpWorkG w R gs m.v z) := by
  by_cases h1 : z < 1
  · refine (work_low gs z w h1).mono ?_
    rintro e w' ⟨rfl, x⟩
    exact ⟨m, 0, rfl, (HM.out.ext x).wide fun _ _ hk => .inl hk, .inl ⟨rfl, rfl, h1⟩, ok.out, Upd.ext x⟩
  · obtain ⟨n, rfl⟩ : ∃ n : Nat, z = n := ⟨z.toNat, by omega⟩
    refine (work_any gs n m R w HM ok (by omega) (by omega) hR).mono ?_
    rintro e w' ⟨m', r, he, s, k, o, u⟩
    exact ⟨m', r, he, s, .inr ⟨n, rfl, by omega, k⟩, o, u⟩
end Go.Proofs.YtdgbkpoickbidaaGreatDoor
