/- What was inserted in several pieces is what is inserted in one: the plain side, and what lies in memory meanwhile. penstockref00.SameTimes: what it answers. penstocklaw11.changes: it says so of two lists of the same changes. penstockref01.sign, Cmp: they answer what datum's answer. penstockref02.Cmp: what it answers of any two rows. penstockref02.Cmp, its answer a name. SpineSplit: the walk. Conditions: each theorem states its own. -/
import Derived.Test.YtdgbkpoickbidaaGreatDoorSq13
import Derived.Test.YtdgbkpoickbidaaGreatDoorSq2
import Derived.Test.YtdgbkpoickbidaaGreatDoorSq1
import Derived.Deep.LoopGhost
import Derived.Test.YtdgbkpoickbidaaGreatDoorSq3
namespace Go.Proofs.YtdgbkpoickbidaaGreatDoor
open Go.RowKit

/-- a spine that has taken updates in, from the first time on, and let nothing go -/
structure SplitV (s : SV) (all : List UV) (B : Nat) : Prop where
  t : Tells s all B
  S : s.S = [(0, [])]
  late : ∀ u ∈ all, beyondV s.U u.1.2 = false
theorem split_new : SplitV newV [] 0 := ⟨tells_new, rfl, fun u hu => (nomatch hu)⟩
theorem SplitV.up {s : SV} {all : List UV} {B C : Nat} (h : SplitV s all B) (k : B ≤ C) : SplitV s all C := ⟨h.t.up k, h.S, h.late⟩
theorem split_ins {s : SV} {all l : List UV} {X : List TV} {B : Nat} (h : SplitV s all B) (hl : ∀ u ∈ l, InUV u) (hX : ∀ t ∈ X, 0 ≤ t.1 ∧ t.1 ≤ 18446744073709551615) (hB : B + l.length + 1 ≤ 1000000) :
    ((insV s l X).2 = s ∧ (insV s l X).1 ≠ 0) ∨ ((insV s l X).1 = 0 ∧ SplitV (insV s l X).2 (all ++ l) (B + l.length + 1) ∧ X = (insV s l X).2.U) := by
  have k := tells_ins h.t hl hX hB
  rcases ins_cases s l X with q | ⟨h1, h2, h3, h4, e⟩
  · exact .inl q
  · rcases k with q | ⟨k1, k2⟩
    · exact .inl q
    · refine .inr ⟨k1, ⟨k2, ?_, fun u hu => ?_⟩, ?_⟩
      · rw [e]; exact h.S
      · rw [e]
        show beyondV (ofV X) u.1.2 = false
        rw [of_flat h1]
        rcases List.mem_append.1 hu with hu | hu
        · have q := h.late u hu
          rw [Bool.eq_false_iff] at q ⊢
          intro b
          obtain ⟨x, hx, hb⟩ := beyond_iff.1 b
          obtain ⟨y, hy, hb2⟩ := beyond_iff.1 (leqV_iff.1 h4 x hx)
          exact q (beyond_iff.2 ⟨y, hy, tleq_trans hb2 hb⟩)
        · have q := List.any_eq_false.1 h3 u hu
          unfold earlyV at q
          simp only [Bool.or_eq_true, not_or, Bool.not_eq_true] at q
          exact q.2
      · rw [e]; exact (of_flat h1).symm
theorem split_work {s t : SV} {all : List UV} {B n r : Nat} (h : SplitV s all B) (w : WorkR s n t r) : SplitV t all B ∧ t.U = s.U := by
  have k := work_stay w h.t.ok
  exact ⟨⟨tells_work w h.t, by rw [k.S]; exact h.S, by rw [k.U]; exact h.late⟩, k.U⟩
/-- all of it in one piece -/
theorem split_all {s : SV} {all : List UV} {B : Nat} (h : SplitV s all B) (hn : all.length + 1 ≤ 1000000) : ∃ sb, insV newV all s.U = (0, sb) ∧ Tells sb all (all.length + 1) ∧ sb.U = s.U ∧ allV sb = allV s := by
  have hp : ∀ e : Int, 0 ≤ e → beyondV [(0, [])] (e, []) = true := fun e he => beyond_iff.2 ⟨(0, []), List.mem_singleton.2 rfl, (leq_iff _ _ _ _).2 ⟨rfl, he, fun k hk => absurd hk (Nat.not_lt_zero k)⟩⟩
  have h2 : all.any formV = false := List.any_eq_false.2 fun u hu => by
    obtain ⟨_, b, c⟩ := h.t.good u hu
    unfold formV
    rw [b, c]
    simp
  have h3 : all.any (earlyV newV.U s.U) = false := List.any_eq_false.2 fun u hu => by
    obtain ⟨a, b, _⟩ := h.t.good u hu
    have e : u.1.2 = (u.1.2.1, []) := by rw [← b]
    have q1 : beyondV newV.U u.1.2 = true := by rw [e]; exact hp _ a.te.1
    unfold earlyV
    rw [q1, h.late u hu]
    simp
  have h4 : leqV newV.U s.U = true := leqV_iff.2 fun t ht => by
    have hf := flat_form h.t.ok.fu
    rcases hf with q | ⟨e, q⟩
    · rw [q] at ht; cases ht
    · rw [q] at ht
      have he := h.t.ok.eu t (by rw [q]; exact ht)
      rw [List.mem_singleton.1 ht] at he ⊢
      exact hp _ he.1
  have e := insV_5 (s := newV) h.t.ok.fu h2 h3 h4
  have k := tells_ins tells_new (fun u hu => (h.t.good u hu).1) h.t.ok.eu (X := s.U) (l := all) (by omega)
  rcases k with ⟨_, q⟩ | ⟨_, q⟩
  · rw [e] at q; exact absurd rfl q
  · rw [List.nil_append, Nat.zero_add] at q
    refine ⟨_, Prod.ext (by rw [e]) rfl, q, ?_, ?_⟩
    · rw [e]; exact of_flat h.t.ok.fu
    · rw [tells_all q, tells_all h.t, h.S, e]
      rfl
theorem few_flat {T : List Tm} (h : flatV (T.map Tm.v) = true) : Few1 T := by
  obtain ⟨f, n⟩ := fine_flat h
  exact ⟨Nat.le_trans n (by decide), fun x hx => Nat.le_trans (f x hx).2 (by decide)⟩
/-! ### a row's changes, one by one -/
theorem chgU_append (L M : List Ud) (r : List Dat) : chgU (L ++ M) r = chgU L r ++ chgU M r := by
  unfold chgU
  rw [List.filter_append, List.map_append]
theorem chg_nth {L : List Ud} {C : List Cg} {r : List Dat} (h : C.map Cg.cv = (chgU L r).map Cg.cv) {i n : Nat} {x : Ud} (hi : i < L.length) (hx : L.getD i Ud.zero = x) (hc : cmpR x.l r = 0) (hn : n = (chgU (L.take i) r).length) : n < C.length ∧ (C.getD n Cg.zero).cv = (x.t.v, x.d) := by
  have e : chgU L r = chgU (L.take i) r ++ ⟨x.t, x.d⟩ :: chgU (L.drop (i + 1)) r := by
    have q : L = L.take (i + 1) ++ L.drop (i + 1) := (List.take_append_drop _ _).symm
    rw [show chgU L r = chgU (L.take (i + 1) ++ L.drop (i + 1)) r by rw [← q], chgU_append, chgU_step hi hx, if_pos hc, List.append_assoc]
    rfl
  have hl := congrArg List.length h
  rw [List.length_map, List.length_map, e, List.length_append, List.length_cons] at hl
  have hn' : n < C.length := by omega
  refine ⟨hn', ?_⟩
  have h1 : (C.map Cg.cv)[n]? = some (C.getD n Cg.zero).cv := by
    rw [List.getElem?_map, List.getD_eq_getElem?_getD, List.getElem?_eq_getElem hn']
    rfl
  rw [h, e, List.map_append, List.getElem?_append_right (by rw [List.length_map]; omega), List.length_map, ← hn, Nat.sub_self] at h1
  injection h1 with h1
  exact h1.symm
/-! ### in memory -/
/-- where the law's loop stands: one spine takes pieces in, the other one nothing yet; the last time told lies apart -/
structure SplI (w0 wr : World) (M : List Sop) (i ga gb n c : Nat) (A : Option Addr) (AT : Option Addr) (cT : Nat) (T : List Tm) (ma mb : SpM) (Ra Rb : Nat → Prop) (L : List Ud) : Prop where
  d : Duo w0 wr ga gb ma mb Ra Rb A n c L
  v : SplitV ma.v (L.map Ud.uv) (opsLen M i)
  b : mb.v = newV
  u : ∀ x ∈ L, InU x
  n : L.length ≤ opsLen M i
  up : T.map Tm.v = ma.v.U
  tm : ∀ W, Upd (fun k => Ra k ∨ Rb k) wr W → Tin W AT cT T
section
variable {w0 wr w' : World} {M : List Sop} {i ga gb n c cT : Nat} {A AT : Option Addr} {T : List Tm} {ma mb m' : SpM} {Ra Rb : Nat → Prop} {L : List Ud}
theorem SplI.grow (h : SplI w0 wr M i ga gb n c A AT cT T ma mb Ra Rb L) (x : Ext wr w') : SplI w0 w' M i ga gb n c A AT cT T ma mb Ra Rb L :=
  ⟨h.d.grow x, h.v, h.b, h.u, h.n, h.up, fun W u => h.tm W ((Upd.ext x).trans u)⟩
theorem SplI.next (h : SplI w0 wr M i ga gb n c A AT cT T ma mb Ra Rb L) (hi : i < M.length) : SplI w0 wr M (i + 1) ga gb n c A AT cT T ma mb Ra Rb L := by
  have e := opsLen_succ hi
  exact ⟨h.d, h.v.up (by omega), h.b, h.u, by have := h.n; omega, h.up, h.tm⟩
theorem tm_step (h : ∀ W, Upd (fun k => Ra k ∨ Rb k) wr W → Tin W AT cT T) (u : Upd Ra wr w') : ∀ W, Upd (fun k => Rg Ra wr w' k ∨ Rb k) w' W → Tin W AT cT T := fun W q =>
  h W (upd_more (u.mono fun k _ hk => .inl hk) q fun k hk e => by
    rcases e with (e | e) | e
    · exact .inl e
    · have := e.1; omega
    · exact .inr e)
/-- nothing has come of an Insert -/
theorem SplI.keep {m1 : SpM} (h : SplI w0 wr M i ga gb n c A AT cT T ma mb Ra Rb L) (u1 : Upd Ra wr w') (s1 : SpR w' (Rg Ra wr w') ga m1) (v1 : m1.v = ma.v) : SplI w0 w' M i ga gb n c A AT cT T m1 mb (Rg Ra wr w') Rb L :=
  ⟨h.d.stepA u1 s1, by rw [v1]; exact h.v, h.b, h.u, h.n, by rw [v1]; exact h.up, tm_step h.tm u1⟩
theorem SplI.work {z : Int} {e : Ending} (h : SplI w0 wr M i ga gb n c A AT cT T ma mb Ra Rb L) (k : SpWorkG wr Ra ga ma.v z e w') : ∃ m' r, e = .returned (.int .i64 (r : Nat)) ∧ SplI w0 w' M i ga gb n c A AT cT T m' mb (Rg Ra wr w') Rb L := by
  obtain ⟨m1, r, he, s, v, o, u⟩ := k
  refine ⟨m1, r, he, ?_⟩
  rcases v with ⟨v, _⟩ | ⟨n, _, _, v⟩
  · exact h.keep u s v
  · obtain ⟨k1, k2⟩ := split_work h.v v
    exact ⟨h.d.stepA u s, k1, h.b, h.u, h.n, by rw [k2]; exact h.up, tm_step h.tm u⟩
/-- a piece has been taken in -/
theorem SplI.ins {w1 : World} {m1 : SpM} {x : Sop} {s1' : SV} (h : SplI w0 wr M i ga gb n c A AT cT T ma mb Ra Rb L) (hi : i < M.length) (hx : M.getD i Sop.zero = x) (hr : ∀ y ∈ x.L, UdR w0 y ∧ InU y) {tA : Option Addr} {tc : Nat} (hT : Tin w0 tA tc x.T) (u1 : Upd Ra wr w1) (s1 : SpR w1 (Rg Ra wr w1) ga m1) (v1 : m1.v = s1')
    (t : SplitV s1' (L.map Ud.uv ++ x.L.map Ud.uv) (opsLen M i + (x.L.map Ud.uv).length + 1)) (hto : x.T.map Tm.v = s1'.U) {w3 : World} {A3 : Option Addr} {c3 k : Nat} (hk : k = x.L.length) (o : Own w3 w0.heap.size 95 4 A3 (n + k) c3 (udsC L ++ udsC x.L)) (g : w1.grownBy w3 (blk A c)) (q : (A3 = A ∧ c3 = c) ∨ (blk A3 c3 = some w1.heap.size ∧ Ext w1 w3)) :
    SplI w0 w3 M (i + 1) ga gb (n + k) c3 A3 tA tc x.T m1 mb (Rg Ra wr w1) Rb (L ++ x.L) := by
  have e := opsLen_succ hi
  rw [hx] at e
  rw [List.length_map] at t
  have d := (h.d.stepA u1 s1).app hk (fun y hy => (hr y hy).1) o g q
  refine ⟨d, ?_, h.b, fun y hy => (List.mem_append.1 hy).elim (h.u y) fun hy => (hr y hy).2, by rw [List.length_append]; have := h.n; omega, by rw [v1]; exact hto, fun W u => hT.ext (ext_updS d.ext u fun k hk => hk.elim (fun a => (d.la k a).1) fun b => (d.lb k b).1)⟩
  rw [v1, List.map_append, e, ← Nat.add_assoc]
  exact t
/-- the beginning -/
theorem SplI.start {w w1 w2 w3 : World} (x0 : Ext w0 w) (ha : SpR w1 (fun k => w.heap.size ≤ k ∧ k < w1.heap.size) ga ma) (va : ma.v = newV) (x1 : Ext w w1) (hb : SpR w2 (fun k => w1.heap.size ≤ k ∧ k < w2.heap.size) gb mb) (vb : mb.v = newV) (x2 : Ext w1 w2) (t : Tout w3 w2.heap.size AT cT T) (hT : T.map Tm.v = newV.U) (x3 : Ext w2 w3) :
    SplI w0 w3 M 0 ga gb 0 0 none AT cT T ma mb (fun k => w.heap.size ≤ k ∧ k < w1.heap.size) (fun k => w1.heap.size ≤ k ∧ k < w2.heap.size) [] := by
  have z1 := x1.size
  have z2 := x2.size
  exact ⟨(Duo.start x0 ha x1 hb x2).grow x3, by rw [va, opsLen_zero]; exact split_new, vb, fun x hx => (nomatch hx), Nat.zero_le _, by rw [hT, va], fun W u => (t.updB u fun k hk q => by
    have := (t.lt hk).1
    rcases q with q | q <;> omega).tin⟩
end
end Go.Proofs.YtdgbkpoickbidaaGreatDoor
namespace Go.Proofs.YtdgbkpoickbidaaGreatDoor
open Go.RowKit

def IfSame (b : Bool) (x y : TV) : Prop := x = y ↔ b = true
theorem tv_ext {L M : List Tm} (hl : L.length = M.length) : (∀ k, k < L.length → (L.getD k Tm.zero).v = (M.getD k Tm.zero).v) ↔ L.map Tm.v = M.map Tm.v := by
  constructor
  · intro h
    refine List.ext_getElem (by simpa using hl) fun k h1 h2 => ?_
    rw [List.length_map] at h1 h2
    have := h k h1
    rw [getT_v h1, getT_v h2, this]
  · intro h k hk
    rw [← getT_v hk, ← getT_v (hl ▸ hk)]
    simp only [h]
theorem sameTime_at {b : Bool} (e1 e2 : Int) (A1 A2 : Option Addr) (n1 n2 c1 c2 : Nat) (l1 l2 : List Int) (w : World) (hb : Hid (decide (e1 = e2 ∧ l1 = l2) = b)) (h1 : Hid (Sl w 1 A1 n1 c1 (wds l1))) (h2 : Hid (Sl w 1 A2 n2 c2 (wds l2))) :
    Calls Tryz.prog 54 #[.agg #[.int .u64 e1, .slice A1 n1 c1], .agg #[.int .u64 e2, .slice A2 n2 c2]] w fun e w' => e = .returned (.bool b) ∧ Ext w w' := hb.out ▸ sameTime_any e1 e2 A1 A2 n1 n2 c1 c2 l1 l2 w h1.out h2.out
set_option maxRecDepth 100000 in
set_option maxHeartbeats 400000 in
theorem sameTimes_diff (A1 A2 : Option Addr) (n1 n2 c1 c2 : Nat) (w : World) (hne : ((n1 : Int) != (n2 : Int)) = true) :
    Calls Tryz.prog 37 #[.slice A1 n1 c1, .slice A2 n2 c2] w fun e w' => e = .returned (.bool false) ∧ Ext w w' := by
  go_enter Tryz.func37, Tryz.ntmps37
  go_wp2
  go_ret
  exact ⟨rfl, Ext.refl _⟩
set_option maxRecDepth 100000 in
set_option maxHeartbeats 2000000 in
theorem sameTimes_same (A1 A2 : Option Addr) (n c1 c2 : Nat) (L M : List Tm) (w : World) (hn : Hid (n = L.length)) (hm : Hid (n = M.length)) (h1 : Hid (Tin w A1 c1 L)) (h2 : Hid (Tin w A2 c2 M)) :
    Calls Tryz.prog 37 #[.slice A1 n c1, .slice A2 n c2] w fun e w' => e = .returned (.bool (decide (L.map Tm.v = M.map Tm.v))) ∧ Ext w w' := by
  have hbig : n ≤ 9223372036854775807 := by rw [hn.out]; exact h1.out.sl.le
  have he : ((n : Int) != (n : Int)) = false := by simp
  go_enter Tryz.func37, Tryz.ntmps37
  go_wp2
  go_loopg [5] n (fun z v wr => ∃ k : Nat, z = n - k ∧ k ≤ n ∧ v = .int .i64 k ∧ Hid (∀ j, j < k → (L.getD j Tm.zero).v = (M.getD j Tm.zero).v) ∧ Hid (Ext w wr))
  case atStart => exact ⟨0, rfl, Nat.zero_le _, rfl, Lib.hid (fun j hj => absurd hj (by omega)), Lib.hid (Ext.refl _)⟩
  case round =>
    obtain ⟨k, rfl, hk, rfl, HA, HE⟩ := hrel
    by_cases hlt : k < n
    · have hkL : k < L.length := by rw [← hn.out]; exact hlt
      have hkM : k < M.length := by rw [← hm.out]; exact hlt
      obtain ⟨a1, rfl, p0, p1⟩ := (h1.out.ext HE.out).at (i := k) hkL
      obtain ⟨a2, rfl, q0, q1⟩ := (h2.out.ext HE.out).at (i := k) hkM
      have HX : Hid (Sl wr 1 (L.getD k Tm.zero).A (L.getD k Tm.zero).l.length (L.getD k Tm.zero).c (wds (L.getD k Tm.zero).l)) := Lib.hid ((h1.out.ext HE.out).ls _ (getT_mem hkL))
      have HY : Hid (Sl wr 1 (M.getD k Tm.zero).A (M.getD k Tm.zero).l.length (M.getD k Tm.zero).c (wds (M.getD k Tm.zero).l)) := Lib.hid ((h2.out.ext HE.out).ls _ (getT_mem hkM))
      obtain ⟨x, hx⟩ : ∃ x, L.getD k Tm.zero = x := ⟨_, rfl⟩
      obtain ⟨y, hy⟩ : ∃ y, M.getD k Tm.zero = y := ⟨_, rfl⟩
      rw [hx] at p0 p1 HX
      rw [hy] at q0 q1 HY
      obtain ⟨b, hb⟩ : ∃ b, decide (x.e = y.e ∧ x.l = y.l) = b := ⟨_, rfl⟩
      have HBb := Lib.hid hb
      have HXx := Lib.hid hx
      have HYy := Lib.hid hy
      have HV : Hid (IfSame b x.v y.v) := Lib.hid (by unfold IfSame; rw [← hb, decide_eq_true_iff]; exact ⟨fun h => ⟨congrArg Prod.fst h, congrArg Prod.snd h⟩, fun h => Prod.ext h.1 h.2⟩)
      clear hb hx hy hkL hkM
      obtain ⟨e, A, c, l⟩ := x
      obtain ⟨f, B, d, m⟩ := y
      go_wp2
      have X : Ext wr wr.drew := (Ext.refl wr).drew
      have y0 : ∀ y : Xt wr.drew, y.W.cell? (a1.add (k * 2)) = some (.int .u64 e) := fun y => y.x.cell (X.cell p0)
      have y1 : ∀ y : Xt wr.drew, y.W.cell? ⟨(a1.add (k * 2)).block, (a1.add (k * 2)).off + 1, none⟩ = some (.slice A l.length c) := fun y => y.x.cell (X.cell p1)
      have y2 : ∀ y : Xt wr.drew, y.W.cell? (a2.add (k * 2)) = some (.int .u64 f) := fun y => y.x.cell (X.cell q0)
      have y3 : ∀ y : Xt wr.drew, y.W.cell? ⟨(a2.add (k * 2)).block, (a2.add (k * 2)).off + 1, none⟩ = some (.slice B m.length d) := fun y => y.x.cell (X.cell q1)
      clear p0 p1 q0 q1
      refine wp_region_ord [0,0,3,7,0,0,48,112,255,511] (.flo [0,1,2,3,4,5,6,7] (.one 8 (.flo [9] (.fin)))) (by kernel_rfl) (by kernel_rfl) (by intro _ _ d _ _ h; cases d <;> exact h) ?_
      (refine ord_flo (pick_cons rfl (pick_cons rfl (pick_cons rfl (pick_cons rfl (pick_cons rfl (pick_cons rfl (pick_cons rfl (pick_cons rfl pick_nil)))))))) ?_; (repeat (go_big_quiet_step (fail))); refine wpQuiet_nil ?_; show ordWalk _ _ _ _ _ _ _)
      refine ord_one (pick_cons rfl pick_nil) ?_; intro K_ hK_
      go_wp2_with (go_at_call 54; go_loud (refine (sameTime_at e f A B l.length m.length c d l m _ HBb (Lib.hid (HX.out.ext X)) (Lib.hid (HY.out.ext X))).mono ?_); rintro r w1 ⟨rfl, x1⟩)
      (refine ord_flo (pick_cons rfl pick_nil) ?_; (repeat (go_big_quiet_step (fail))); refine wpQuiet_nil ?_; show ordWalk _ _ _ _ _ _ _)
      refine ord_fin ?_
      cases b with
      | true =>
        go_wp2
        go_roundg (n - (k + 1))
        case measure => omega
        case rel =>
          refine ⟨k + 1, by omega, by omega, by go_num, Lib.hid (fun j hj => ?_), Lib.hid ((HE.out.trans X).trans x1)⟩
          by_cases hjk : j < k
          · exact HA.out j hjk
          · obtain rfl : j = k := by omega
            rw [HXx.out, HYy.out]
            exact (show IfSame true _ _ from HV.out).2 rfl
      | false =>
        go_wp2
        go_ret
        refine ⟨ret_bool (Eq.symm (decide_eq_false fun h => ?_)), (HE.out.trans X).trans x1⟩
        have a := (tv_ext (by rw [← hn.out, ← hm.out])).2 h k (by rw [← hn.out]; exact hlt)
        rw [HXx.out, HYy.out] at a
        exact absurd ((show IfSame false _ _ from HV.out).1 a) (by decide)
    · obtain rfl : k = n := by omega
      go_wp2
      go_ret
      exact ⟨ret_bool (Eq.symm (decide_eq_true ((tv_ext (by rw [← hn.out, ← hm.out])).1 fun j hj => HA.out j (by rw [hn.out]; exact hj)))), HE.out⟩
theorem sameTimes_any (A1 A2 : Option Addr) (n m c1 c2 : Nat) (L M : List Tm) (w : World) (hn : Hid (n = L.length)) (hm : Hid (m = M.length)) (h1 : Hid (Tin w A1 c1 L)) (h2 : Hid (Tin w A2 c2 M)) :
    Calls Tryz.prog 37 #[.slice A1 n c1, .slice A2 m c2] w fun e w' => e = .returned (.bool (decide (L.map Tm.v = M.map Tm.v))) ∧ Ext w w' := by
  by_cases h : n = m
  · subst h
    exact sameTimes_same A1 A2 n c1 c2 L M w hn hm h1 h2
  · have hf : decide (L.map Tm.v = M.map Tm.v) = false := decide_eq_false fun e => h (by
      have := congrArg List.length e
      rw [List.length_map, List.length_map] at this
      rw [hn.out, hm.out, this])
    rw [hf]
    exact sameTimes_diff A1 A2 n m c1 c2 w (by simp; omega)
theorem sameTimes_yes (A1 A2 : Option Addr) (n m c1 c2 : Nat) (L M : List Tm) (w : World) (hn : Hid (n = L.length)) (hm : Hid (m = M.length)) (h1 : Hid (Tin w A1 c1 L)) (h2 : Hid (Tin w A2 c2 M)) (h : Hid (L.map Tm.v = M.map Tm.v)) :
    Calls Tryz.prog 37 #[.slice A1 n c1, .slice A2 m c2] w fun e w' => e = .returned (.bool true) ∧ Ext w w' := by
  have := sameTimes_any A1 A2 n m c1 c2 L M w hn hm h1 h2
  rwa [show decide (L.map Tm.v = M.map Tm.v) = true from decide_eq_true h.out] at this
end Go.Proofs.YtdgbkpoickbidaaGreatDoor
namespace Go.Proofs.YtdgbkpoickbidaaGreatDoor
open Go.RowKit

set_option maxRecDepth 100000 in
set_option maxHeartbeats 2000000 in
theorem changes11_yes (AL AM : Option Addr) (cL cM n : Nat) (L M : List Cg) (w : World) (hn : Hid (n = L.length)) (hL : Hid (Cin w AL cL L)) (hM : Hid (Cin w AM cM M)) (he : Hid (L.map Cg.cv = M.map Cg.cv)) :
    Calls Tryz.prog 52 #[.slice AL n cL, .slice AM n cM] w fun r w' => r = .returned (.bool true) ∧ Ext w w' := by
  have hmax : n ≤ 9223372036854775807 := by rw [hn.out]; exact hL.out.sl.le
  have HLM : Hid (M.length = L.length) := Lib.hid (by have := congrArg List.length he.out; simpa using this.symm)
  go_enter Tryz.func52, Tryz.ntmps52
  go_wp2
  go_loopg [5] n (fun z v wr => ∃ k : Nat, z = n - k ∧ k ≤ n ∧ v = .int .i64 k ∧ Hid (Ext w wr))
  case atStart => exact ⟨0, rfl, Nat.zero_le _, rfl, Lib.hid (Ext.refl _)⟩
  case round =>
    obtain ⟨k, rfl, hk, rfl, HE⟩ := hrel
    by_cases hlt : k < n
    · have hkL : k < L.length := by rw [← hn.out]; exact hlt
      have hkM : k < M.length := by rw [HLM.out]; exact hkL
      obtain ⟨f, Ax, nx, cx, lx, d, ad, T, hx, hnx⟩ := (hL.out.ext HE.out).cgAt hkL
      obtain ⟨g, Ay, ny, cy, ly, d2, am, S, hy, hny⟩ := (hM.out.ext HE.out).cgAt hkM
      obtain ⟨a1, a2⟩ := getG_cv hkL
      obtain ⟨b1, b2⟩ := getG_cv hkM
      have e9 : (⟨⟨f, Ax, cx, lx⟩, d⟩ : Cg).cv = (⟨⟨g, Ay, cy, ly⟩, d2⟩ : Cg).cv := by
        rw [← hx, ← hy, ← a2, ← b2]
        simp only [he.out]
      have e10 : f = g := congrArg (fun p : CV => p.1.1) e9
      have e11 : lx = ly := congrArg (fun p : CV => p.1.2) e9
      have e12 : d = d2 := congrArg (fun p : CV => p.2) e9
      subst e10
      subst e11
      subst e12
      obtain ⟨rfl, q0, q1, q2, HXS⟩ := T
      obtain ⟨rfl, p0, p1, p2, HYS⟩ := S
      have hdd : (d != d) = false := by simp
      clear hx hy hnx hny a1 a2 b1 b2 e9 hkL hkM
      go_wp2
      (refine wp_region_ext (by kernel_rfl) (by kernel_rfl) ?_; (repeat (go_big_quiet_step ((go_at_call 54; with_reducible exact call_ext (sameTime_at (b := true) f f Ax Ay nx ny cx cy lx lx _ (Lib.hid (by simp)) (HXS _) (HYS _)))))); refine wpQuiet_nil ?_; rintro _ ⟨y, rfl⟩)
      go_wp2
      go_roundg (n - (k + 1))
      case measure => omega
      case rel => exact ⟨k + 1, by omega, by omega, by go_num, Lib.hid (HE.out.trans y.x)⟩
    · obtain rfl : n = k := by omega
      go_wp2
      go_ret
      exact ⟨rfl, HE.out⟩
end Go.Proofs.YtdgbkpoickbidaaGreatDoor
namespace Go.Proofs.YtdgbkpoickbidaaGreatDoor
open Go.RowKit

def signI (l s : Bool) : Int := if l then -1 else if s then 0 else 1
set_option maxRecDepth 100000 in
set_option maxHeartbeats 400000 in
theorem sign_any (l s : Bool) (w : World) : Calls Tryz.prog 219 #[.bool l, .bool s] w fun e w' => e = .returned (.int .i64 (signI l s)) ∧ w = w' := by
  cases l <;> cases s
  all_goals
    go_enter Tryz.func219, Tryz.ntmps219
    go_wp2
    go_ret
    exact ⟨rfl, rfl⟩
set_option maxRecDepth 100000 in
set_option maxHeartbeats 800000 in
theorem rcmp_klt (ka na kb nb : Int) (ba bb : Bool) (sa sb : ByteArray) (w : World) (h : ka < kb) : Calls Tryz.prog 165 #[.agg #[.int .u8 (ka), .bool (ba), .int .i64 (na), .string (sa)], .agg #[.int .u8 (kb), .bool (bb), .int .i64 (nb), .string (sb)]] w fun e w' => e = .returned (.int .i64 (-1)) ∧ Ext w w' := by
  have z : (ka != kb) = true := by simp; omega
  go_enter Tryz.func165, Tryz.ntmps165
  go_wp2_with (go_at_call 219; refine (sign_any _ _ _).mono ?_; rintro e w1 ⟨rfl, rfl⟩)
  go_ret
  exact ⟨rfl, ((Ext.refl w).alloc _).alloc _⟩
set_option maxRecDepth 100000 in
set_option maxHeartbeats 800000 in
theorem rcmp_kgt (ka na kb nb : Int) (ba bb : Bool) (sa sb : ByteArray) (w : World) (h : kb < ka) : Calls Tryz.prog 165 #[.agg #[.int .u8 (ka), .bool (ba), .int .i64 (na), .string (sa)], .agg #[.int .u8 (kb), .bool (bb), .int .i64 (nb), .string (sb)]] w fun e w' => e = .returned (.int .i64 (1)) ∧ Ext w w' := by
  have z : (ka != kb) = true := by simp; omega
  have z2 : decide (ka < kb) = false := by simp; omega
  go_enter Tryz.func165, Tryz.ntmps165
  go_wp2_with (go_at_call 219; refine (sign_any _ _ _).mono ?_; rintro e w1 ⟨rfl, rfl⟩)
  go_ret
  exact ⟨rfl, ((Ext.refl w).alloc _).alloc _⟩
set_option maxRecDepth 100000 in
set_option maxHeartbeats 800000 in
theorem rcmp_b_false_false (na nb : Int) (sa sb : ByteArray) (w : World)  : Calls Tryz.prog 165 #[.agg #[.int .u8 (2), .bool (false), .int .i64 (na), .string (sa)], .agg #[.int .u8 (2), .bool (false), .int .i64 (nb), .string (sb)]] w fun e w' => e = .returned (.int .i64 (0)) ∧ Ext w w' := by
  go_enter Tryz.func165, Tryz.ntmps165
  go_wp2_with (go_at_call 219; refine (sign_any _ _ _).mono ?_; rintro e w1 ⟨rfl, rfl⟩)
  go_ret
  exact ⟨rfl, ((Ext.refl w).alloc _).alloc _⟩
set_option maxRecDepth 100000 in
set_option maxHeartbeats 800000 in
theorem rcmp_b_false_true (na nb : Int) (sa sb : ByteArray) (w : World)  : Calls Tryz.prog 165 #[.agg #[.int .u8 (2), .bool (false), .int .i64 (na), .string (sa)], .agg #[.int .u8 (2), .bool (true), .int .i64 (nb), .string (sb)]] w fun e w' => e = .returned (.int .i64 (-1)) ∧ Ext w w' := by
  go_enter Tryz.func165, Tryz.ntmps165
  go_wp2_with (go_at_call 219; refine (sign_any _ _ _).mono ?_; rintro e w1 ⟨rfl, rfl⟩)
  go_ret
  exact ⟨rfl, ((Ext.refl w).alloc _).alloc _⟩
set_option maxRecDepth 100000 in
set_option maxHeartbeats 800000 in
theorem rcmp_b_true_false (na nb : Int) (sa sb : ByteArray) (w : World)  : Calls Tryz.prog 165 #[.agg #[.int .u8 (2), .bool (true), .int .i64 (na), .string (sa)], .agg #[.int .u8 (2), .bool (false), .int .i64 (nb), .string (sb)]] w fun e w' => e = .returned (.int .i64 (1)) ∧ Ext w w' := by
  go_enter Tryz.func165, Tryz.ntmps165
  go_wp2_with (go_at_call 219; refine (sign_any _ _ _).mono ?_; rintro e w1 ⟨rfl, rfl⟩)
  go_ret
  exact ⟨rfl, ((Ext.refl w).alloc _).alloc _⟩
set_option maxRecDepth 100000 in
set_option maxHeartbeats 800000 in
theorem rcmp_b_true_true (na nb : Int) (sa sb : ByteArray) (w : World)  : Calls Tryz.prog 165 #[.agg #[.int .u8 (2), .bool (true), .int .i64 (na), .string (sa)], .agg #[.int .u8 (2), .bool (true), .int .i64 (nb), .string (sb)]] w fun e w' => e = .returned (.int .i64 (0)) ∧ Ext w w' := by
  go_enter Tryz.func165, Tryz.ntmps165
  go_wp2_with (go_at_call 219; refine (sign_any _ _ _).mono ?_; rintro e w1 ⟨rfl, rfl⟩)
  go_ret
  exact ⟨rfl, ((Ext.refl w).alloc _).alloc _⟩
set_option maxRecDepth 100000 in
set_option maxHeartbeats 800000 in
theorem rcmp_nlt (na nb : Int) (ba bb : Bool) (sa sb : ByteArray) (w : World) (h : na < nb) : Calls Tryz.prog 165 #[.agg #[.int .u8 (3), .bool (ba), .int .i64 (na), .string (sa)], .agg #[.int .u8 (3), .bool (bb), .int .i64 (nb), .string (sb)]] w fun e w' => e = .returned (.int .i64 (-1)) ∧ Ext w w' := by
  have z : (na == nb) = false := by simp; omega
  go_enter Tryz.func165, Tryz.ntmps165
  go_wp2_with (go_at_call 219; refine (sign_any _ _ _).mono ?_; rintro e w1 ⟨rfl, rfl⟩)
  go_ret
  exact ⟨rfl, ((Ext.refl w).alloc _).alloc _⟩
set_option maxRecDepth 100000 in
set_option maxHeartbeats 800000 in
theorem rcmp_neq (na : Int) (ba bb : Bool) (sa sb : ByteArray) (w : World)  : Calls Tryz.prog 165 #[.agg #[.int .u8 (3), .bool (ba), .int .i64 (na), .string (sa)], .agg #[.int .u8 (3), .bool (bb), .int .i64 (na), .string (sb)]] w fun e w' => e = .returned (.int .i64 (0)) ∧ Ext w w' := by
  have z2 : decide (na < na) = false := by simp
  go_enter Tryz.func165, Tryz.ntmps165
  go_wp2_with (go_at_call 219; refine (sign_any _ _ _).mono ?_; rintro e w1 ⟨rfl, rfl⟩)
  go_ret
  exact ⟨rfl, ((Ext.refl w).alloc _).alloc _⟩
set_option maxRecDepth 100000 in
set_option maxHeartbeats 800000 in
theorem rcmp_ngt (na nb : Int) (ba bb : Bool) (sa sb : ByteArray) (w : World) (h : nb < na) : Calls Tryz.prog 165 #[.agg #[.int .u8 (3), .bool (ba), .int .i64 (na), .string (sa)], .agg #[.int .u8 (3), .bool (bb), .int .i64 (nb), .string (sb)]] w fun e w' => e = .returned (.int .i64 (1)) ∧ Ext w w' := by
  have z : (na == nb) = false := by simp; omega
  have z2 : decide (na < nb) = false := by simp; omega
  go_enter Tryz.func165, Tryz.ntmps165
  go_wp2_with (go_at_call 219; refine (sign_any _ _ _).mono ?_; rintro e w1 ⟨rfl, rfl⟩)
  go_ret
  exact ⟨rfl, ((Ext.refl w).alloc _).alloc _⟩
set_option maxRecDepth 100000 in
set_option maxHeartbeats 800000 in
theorem rcmp_slt (na nb : Int) (ba bb : Bool) (sa sb : ByteArray) (w : World) (h : Op.bytesLess sa.toList sb.toList = true) : Calls Tryz.prog 165 #[.agg #[.int .u8 (4), .bool (ba), .int .i64 (na), .string (sa)], .agg #[.int .u8 (4), .bool (bb), .int .i64 (nb), .string (sb)]] w fun e w' => e = .returned (.int .i64 (-1)) ∧ Ext w w' := by
  go_enter Tryz.func165, Tryz.ntmps165
  go_wp2_with (go_at_call 219; refine (sign_any _ _ _).mono ?_; rintro e w1 ⟨rfl, rfl⟩)
  go_ret
  exact ⟨rfl, ((Ext.refl w).alloc _).alloc _⟩
set_option maxRecDepth 100000 in
set_option maxHeartbeats 800000 in
theorem rcmp_seq (na nb : Int) (ba bb : Bool) (sa sb : ByteArray) (w : World) (h : Op.bytesLess sa.toList sb.toList = false) (h2 : (sa.toList == sb.toList) = true) : Calls Tryz.prog 165 #[.agg #[.int .u8 (4), .bool (ba), .int .i64 (na), .string (sa)], .agg #[.int .u8 (4), .bool (bb), .int .i64 (nb), .string (sb)]] w fun e w' => e = .returned (.int .i64 (0)) ∧ Ext w w' := by
  go_enter Tryz.func165, Tryz.ntmps165
  go_wp2_with (go_at_call 219; refine (sign_any _ _ _).mono ?_; rintro e w1 ⟨rfl, rfl⟩)
  go_ret
  exact ⟨rfl, ((Ext.refl w).alloc _).alloc _⟩
set_option maxRecDepth 100000 in
set_option maxHeartbeats 800000 in
theorem rcmp_sgt (na nb : Int) (ba bb : Bool) (sa sb : ByteArray) (w : World) (h : Op.bytesLess sa.toList sb.toList = false) (h2 : (sa.toList == sb.toList) = false) : Calls Tryz.prog 165 #[.agg #[.int .u8 (4), .bool (ba), .int .i64 (na), .string (sa)], .agg #[.int .u8 (4), .bool (bb), .int .i64 (nb), .string (sb)]] w fun e w' => e = .returned (.int .i64 (1)) ∧ Ext w w' := by
  go_enter Tryz.func165, Tryz.ntmps165
  go_wp2_with (go_at_call 219; refine (sign_any _ _ _).mono ?_; rintro e w1 ⟨rfl, rfl⟩)
  go_ret
  exact ⟨rfl, ((Ext.refl w).alloc _).alloc _⟩
set_option maxRecDepth 100000 in
set_option maxHeartbeats 800000 in
theorem rcmp_oth (k : Int) (na nb : Int) (ba bb : Bool) (sa sb : ByteArray) (w : World) (h2 : ¬ k = 2) (h3 : ¬ k = 3) (h4 : ¬ k = 4) : Calls Tryz.prog 165 #[.agg #[.int .u8 (k), .bool (ba), .int .i64 (na), .string (sa)], .agg #[.int .u8 (k), .bool (bb), .int .i64 (nb), .string (sb)]] w fun e w' => e = .returned (.int .i64 (0)) ∧ Ext w w' := by
  have z : (k != k) = false := by simp
  have z2 : (k == 2) = false := by simpa using h2
  have z3 : (k == 3) = false := by simpa using h3
  have z4 : (k == 4) = false := by simpa using h4
  go_enter Tryz.func165, Tryz.ntmps165
  go_wp2
  go_ret
  exact ⟨rfl, ((Ext.refl w).alloc _).alloc _⟩
theorem rdcmp_any (ka na kb nb : Int) (ba bb : Bool) (sa sb : ByteArray) (w : World) : Calls Tryz.prog 165 #[.agg #[.int .u8 (ka), .bool (ba), .int .i64 (na), .string (sa)], .agg #[.int .u8 (kb), .bool (bb), .int .i64 (nb), .string (sb)]] w fun e w' => e = .returned (.int .i64 (cmpD ⟨ka, ba, na, sa⟩ ⟨kb, bb, nb, sb⟩)) ∧ Ext w w' := by
  unfold cmpD
  simp only
  by_cases h : ka = kb
  · subst h
    rw [if_pos rfl]
    by_cases h2 : ka = 2
    · subst h2
      rw [if_pos rfl]
      cases ba <;> cases bb
      · exact rcmp_b_false_false na nb sa sb w
      · exact rcmp_b_false_true na nb sa sb w
      · exact rcmp_b_true_false na nb sa sb w
      · exact rcmp_b_true_true na nb sa sb w
    rw [if_neg h2]
    by_cases h3 : ka = 3
    · subst h3
      rw [if_pos rfl]
      rcases Int.lt_trichotomy na nb with h | h | h
      · rw [cmpI_lt h]; exact rcmp_nlt na nb ba bb sa sb w h
      · subst h; rw [cmpI_self]; exact rcmp_neq na ba bb sa sb w
      · rw [cmpI_gt h]; exact rcmp_ngt na nb ba bb sa sb w h
    rw [if_neg h3]
    by_cases h4 : ka = 4
    · subst h4
      rw [if_pos rfl]
      unfold cmpS
      cases h1 : Op.bytesLess sa.toList sb.toList
      · cases h2 : (sa.toList == sb.toList)
        · exact rcmp_sgt na nb ba bb sa sb w h1 h2
        · exact rcmp_seq na nb ba bb sa sb w h1 h2
      · exact rcmp_slt na nb ba bb sa sb w h1
    rw [if_neg h4]
    exact rcmp_oth ka na nb ba bb sa sb w h2 h3 h4
  · rw [if_neg h]
    rcases Int.lt_or_gt_of_ne h with h | h
    · rw [cmpI_lt h]; exact rcmp_klt ka na kb nb ba bb sa sb w h
    · rw [cmpI_gt h]; exact rcmp_kgt ka na kb nb ba bb sa sb w h
theorem rcmp_at {c : Int} (ka na kb nb : Int) (ba bb : Bool) (sa sb : ByteArray) (w : World) (h : Hid (cmpD ⟨ka, ba, na, sa⟩ ⟨kb, bb, nb, sb⟩ = c)) : Calls Tryz.prog 165 #[.agg #[.int .u8 (ka), .bool (ba), .int .i64 (na), .string (sa)], .agg #[.int .u8 (kb), .bool (bb), .int .i64 (nb), .string (sb)]] w fun e w' => e = .returned (.int .i64 c) ∧ Ext w w' := h.out ▸ rdcmp_any ka na kb nb ba bb sa sb w
theorem rcmpD_lit {v : Int} (ka na kb nb : Int) (ba bb : Bool) (sa sb : ByteArray) (w : World) (h : Hid (cmpD ⟨ka, ba, na, sa⟩ ⟨kb, bb, nb, sb⟩ = v)) :
    Calls Tryz.prog 165 #[.agg #[.int .u8 ka, .bool ba, .int .i64 na, .string sa], .agg #[.int .u8 kb, .bool bb, .int .i64 nb, .string sb]] w fun e w' => e = .returned (.int .i64 v) ∧ Ext w w' := rcmp_at _ _ _ _ _ _ _ _ _ h
end Go.Proofs.YtdgbkpoickbidaaGreatDoor
namespace Go.Proofs.YtdgbkpoickbidaaGreatDoor
open Go.RowKit

set_option maxRecDepth 100000 in
set_option maxHeartbeats 4000000 in
theorem rowRCmp_any (A1 A2 : Option Addr) (c1 c2 n1 n2 : Nat) (l m : List Dat) (w : World) (e1 : n1 = l.length) (e2 : n2 = m.length) (h1 : Rw w A1 c1 l) (h2 : Rw w A2 c2 m) :
    Calls Tryz.prog 53 #[.slice A1 n1 c1, .slice A2 n2 c2] w fun e w' => e = .returned (.int .i64 (cmpR l m)) ∧ Ext w w' := by
  have E1 := Lib.hid e1
  have E2 := Lib.hid e2
  have hl1 := h1.le
  have hl2 := h2.le
  rw [← e1] at hl1
  rw [← e2] at hl2
  have H1 := Lib.hid h1
  have H2 := Lib.hid h2
  clear e1 e2 h1 h2
  go_enter Tryz.func53, Tryz.ntmps53
  go_wp2
  go_loopw [5] (fun v wr => ∃ i : Nat, i ≤ n1 ∧ v = .int .i64 i ∧ Hid (i ≤ m.length ∧ cmpR (l.drop i) (m.drop i) = cmpR l m) ∧ Ext w wr) (fun v _ => n1 - (intOf v).toNat)
  case atStart => exact ⟨0, Nat.zero_le _, rfl, Lib.hid ⟨Nat.zero_le _, rfl⟩, Ext.refl _⟩
  case round =>
    obtain ⟨i, hi, rfl, hr, er⟩ := hrel
    have hsz := er.size
    by_cases hlt : i < n1
    · by_cases hlt2 : i < n2
      · obtain ⟨a1, rfl, p0, p1, p2, p3⟩ := (H1.out.ext er).at (show i < l.length by rw [← E1.out]; exact hlt)
        obtain ⟨d, hd⟩ : ∃ d, l.getD i Dat.zero = d := ⟨_, rfl⟩
        rw [hd] at p0 p1 p2 p3
        obtain ⟨a2, rfl, q0, q1, q2, q3⟩ := (H2.out.ext er).at (show i < m.length by rw [← E2.out]; exact hlt2)
        obtain ⟨d2, hd2⟩ : ∃ d, m.getD i Dat.zero = d := ⟨_, rfl⟩
        rw [hd2] at q0 q1 q2 q3
        obtain ⟨v, hv⟩ : ∃ v, cmpD d d2 = v := ⟨_, rfl⟩
        have HS : Hid (cmpR l m = if v = 0 then cmpR (l.drop (i + 1)) (m.drop (i + 1)) else v) := Lib.hid (by rw [← hr.out.2, cmpR_drop (by rw [← E1.out]; exact hlt) (by rw [← E2.out]; exact hlt2), hd, hd2, hv])
        have HB : Hid (i + 1 ≤ m.length) := Lib.hid (by rw [← E2.out]; exact hlt2)
        clear hd hd2 hr
        obtain ⟨ka, ba, na, sa⟩ := d
        obtain ⟨kb, bb, nb, sb⟩ := d2
        simp only at p0 p1 p2 p3 q0 q1 q2 q3
        have HV := Lib.hid hv
        clear hv
        have X : Ext wr wr.drew := (Ext.refl wr).drew
        have P0 : ∀ y : Xt wr.drew, y.W.cell? (a1.add (i * 4)) = some (.int .u8 ka) := fun y => (X.trans y.x).cell p0
        have P1 : ∀ y : Xt wr.drew, y.W.cell? ⟨(a1.add (i * 4)).block, (a1.add (i * 4)).off + 1, none⟩ = some (.bool ba) := fun y => (X.trans y.x).cell p1
        have P2 : ∀ y : Xt wr.drew, y.W.cell? ⟨(a1.add (i * 4)).block, (a1.add (i * 4)).off + 2, none⟩ = some (.int .i64 na) := fun y => (X.trans y.x).cell p2
        have P3 : ∀ y : Xt wr.drew, y.W.cell? ⟨(a1.add (i * 4)).block, (a1.add (i * 4)).off + 3, none⟩ = some (.string sa) := fun y => (X.trans y.x).cell p3
        have Q0 : ∀ y : Xt wr.drew, y.W.cell? (a2.add (i * 4)) = some (.int .u8 kb) := fun y => (X.trans y.x).cell q0
        have Q1 : ∀ y : Xt wr.drew, y.W.cell? ⟨(a2.add (i * 4)).block, (a2.add (i * 4)).off + 1, none⟩ = some (.bool bb) := fun y => (X.trans y.x).cell q1
        have Q2 : ∀ y : Xt wr.drew, y.W.cell? ⟨(a2.add (i * 4)).block, (a2.add (i * 4)).off + 2, none⟩ = some (.int .i64 nb) := fun y => (X.trans y.x).cell q2
        have Q3 : ∀ y : Xt wr.drew, y.W.cell? ⟨(a2.add (i * 4)).block, (a2.add (i * 4)).off + 3, none⟩ = some (.string sb) := fun y => (X.trans y.x).cell q3
        by_cases hv0 : v = 0
        · subst hv0
          go_upto_region 4 with fail
          refine wp_region_ord [0,0,3,7,0,0,48,112,255,511] (.flo [0,1,2,3,4,5,6,7] (.one 8 (.flo [9] (.fin)))) (by kernel_rfl) (by kernel_rfl) (by intro _ _ d _ _ h; cases d <;> exact h) ?_
          (refine ord_flo (pick_cons rfl (pick_cons rfl (pick_cons rfl (pick_cons rfl (pick_cons rfl (pick_cons rfl (pick_cons rfl (pick_cons rfl pick_nil)))))))) ?_; (repeat (go_big_quiet_step (fail))); refine wpQuiet_nil ?_; show ordWalk _ _ _ _ _ _ _)
          refine ord_one (pick_cons rfl pick_nil) ?_; intro K_ hK_
          go_wp2_with (go_at_call 165; refine (rcmpD_lit _ _ _ _ _ _ _ _ _ HV).mono ?_; rintro e w1 ⟨rfl, x1⟩)
          (refine ord_flo (pick_cons rfl pick_nil) ?_; (repeat (go_big_quiet_step (fail))); refine wpQuiet_nil ?_; show ordWalk _ _ _ _ _ _ _)
          refine ord_fin ?_
          go_wp2
          go_roundw
          case rel => exact ⟨i + 1, by omega, by go_num, Lib.hid ⟨HB.out, by rw [HS.out]; simp⟩, er.trans (X.trans x1)⟩
          case measure => simp [intOf]; omega
        · have z : (v != 0) = true := by simpa using hv0
          have HZ := Lib.hid hv0
          clear hv0
          go_upto_region 4 with fail
          refine wp_region_ord [0,0,3,7,0,0,48,112,255,511] (.flo [0,1,2,3,4,5,6,7] (.one 8 (.flo [9] (.fin)))) (by kernel_rfl) (by kernel_rfl) (by intro _ _ d _ _ h; cases d <;> exact h) ?_
          (refine ord_flo (pick_cons rfl (pick_cons rfl (pick_cons rfl (pick_cons rfl (pick_cons rfl (pick_cons rfl (pick_cons rfl (pick_cons rfl pick_nil)))))))) ?_; (repeat (go_big_quiet_step (fail))); refine wpQuiet_nil ?_; show ordWalk _ _ _ _ _ _ _)
          refine ord_one (pick_cons rfl pick_nil) ?_; intro K_ hK_
          go_wp2_with (go_at_call 165; refine (rcmpD_lit _ _ _ _ _ _ _ _ _ HV).mono ?_; rintro e w1 ⟨rfl, x1⟩)
          (refine ord_flo (pick_cons rfl pick_nil) ?_; (repeat (go_big_quiet_step (fail))); refine wpQuiet_nil ?_; show ordWalk _ _ _ _ _ _ _)
          refine ord_fin ?_
          go_wp2
          go_ret
          exact ⟨(by rw [HS.out, if_neg HZ.out]; rfl), er.trans (X.trans x1)⟩
      · have HS : Hid (cmpR l m = 1) := Lib.hid (by rw [← hr.out.2]; exact cmpR_more (by rw [← E1.out]; exact hlt) (by rw [← E2.out]; omega))
        have h3 : n2 < n1 := by omega
        clear hr
        go_wp2
        go_ret
        exact ⟨(by rw [HS.out]; rfl), er⟩
    · have HS : Hid (cmpR l m = if i < m.length then -1 else 0) := Lib.hid (by rw [← hr.out.2]; exact cmpR_end (by rw [← E1.out]; omega))
      have HB : Hid (i ≤ m.length) := Lib.hid hr.out.1
      obtain rfl : i = n1 := by omega
      by_cases h2 : i < n2
      · have HT : Hid (cmpR l m = -1) := Lib.hid (by rw [HS.out, if_pos (by rw [← E2.out]; exact h2)])
        clear HS hr
        go_wp2
        go_ret
        exact ⟨(by rw [HT.out]; rfl), er⟩
      · have HT : Hid (cmpR l m = 0) := Lib.hid (by rw [HS.out, if_neg (by rw [← E2.out]; exact h2)])
        have h3 : ¬ n2 < i := by have := HB.out; rw [← E2.out] at this; omega
        clear HS hr
        go_wp2
        go_ret
        exact ⟨(by rw [HT.out]; rfl), er⟩
end Go.Proofs.YtdgbkpoickbidaaGreatDoor
namespace Go.Proofs.YtdgbkpoickbidaaGreatDoor
open Go.RowKit

theorem rowRCmp_lit {v : Int} (A1 A2 : Option Addr) (c1 c2 n1 n2 : Nat) (l m : List Dat) (w : World) (hv : Hid (cmpR l m = v)) (e1 : Hid (n1 = l.length)) (e2 : Hid (n2 = m.length)) (h1 : Hid (Rw w A1 c1 l)) (h2 : Hid (Rw w A2 c2 m)) :
    Calls Tryz.prog 53 #[.slice A1 n1 c1, .slice A2 n2 c2] w fun e w' => e = .returned (.int .i64 v) ∧ Ext w w' := hv.out ▸ rowRCmp_any A1 A2 c1 c2 n1 n2 l m w e1.out e2.out h1.out h2.out
end Go.Proofs.YtdgbkpoickbidaaGreatDoor
namespace Go.Proofs.YtdgbkpoickbidaaGreatDoor
open Go.RowKit

theorem stms_in {X : List Tm} (h : ∀ y ∈ X, TmIn y) : ∀ t ∈ X.map Tm.v, 0 ≤ t.1 ∧ t.1 ≤ 18446744073709551615 := fun t ht => by
  obtain ⟨y, hy, rfl⟩ := List.mem_map.1 ht
  exact (h y hy).e
theorem suds_in {L : List Ud} (h : ∀ y ∈ L, InU y) : ∀ u ∈ L.map Ud.uv, InUV u := fun u hu => by
  obtain ⟨y, hy, rfl⟩ := List.mem_map.1 hu
  exact (h y hy).uv
set_option maxRecDepth 100000 in
set_option maxHeartbeats 8000000 in
theorem split_much (A : Option Addr) (c n : Nat) (M : List Sop) (rA : Option Addr) (rc rn : Nat) (w : World) (G : Good w) (hn : Hid (n = M.length)) (hM : Hid (Oin w A c M)) (hb : Hid (∀ x ∈ M, x.L.length ≤ 1048576 ∧ x.T.length ≤ 1048576)) (h : muchO M = true ∨ (muchO M = false ∧ 100 < rn)) :
    Calls Tryz.prog 6 #[.slice A n c, .slice rA rn rc] w fun e w' => e = .returned (.bool true) ∧ Ext w w' := by
  have m1 : True := trivial
  rcases h with h1 | ⟨h1, h2⟩
  · have H1 := Lib.hid h1
    clear h1
    go_enter Tryz.func6, Tryz.ntmps6
    go_wp2_with (first
      | (go_at_call 41; have mk := m1; clear m1 mk; go_loud (refine (much11_at A c n M _ H1 hn hM hb).mono ?_); rintro r w1 ⟨rfl, x1⟩; have X1 := Lib.hid x1; clear x1; have m2 : True := trivial)
      | (go_at_call 42; have mk := m2; clear m2 mk; go_loud (refine (known11_any _ (G.ext X1.out)).mono ?_); rintro r w2 ⟨rfl, x2⟩)
      | fail)
    go_ret
    exact ⟨rfl, X1.out.trans x2⟩
  · have H1 := Lib.hid h1
    clear h1
    have h2z : (100 : Int) < (rn : Int) := by omega
    go_enter Tryz.func6, Tryz.ntmps6
    go_wp2_with (first
      | (go_at_call 41; have mk := m1; clear m1 mk; go_loud (refine (much11_at A c n M _ H1 hn hM hb).mono ?_); rintro r w1 ⟨rfl, x1⟩; have X1 := Lib.hid x1; clear x1; have m2 : True := trivial)
      | (go_at_call 42; have mk := m2; clear m2 mk; go_loud (refine (known11_any _ (G.ext X1.out)).mono ?_); rintro r w2 ⟨rfl, x2⟩)
      | fail)
    go_ret
    exact ⟨rfl, X1.out.trans x2⟩
set_option maxRecDepth 100000 in
set_option maxHeartbeats 64000000 in
theorem split_any (A : Option Addr) (c n : Nat) (M : List Sop) (rA : Option Addr) (rc rn : Nat) (r : List Dat) (w : World) (G : Good w) (hn : Hid (n = M.length)) (hM : Hid (Oin w A c M)) (hb : Hid (∀ x ∈ M, x.L.length ≤ 1048576 ∧ x.T.length ≤ 1048576)) (hI : Hid (∀ x ∈ M, SopIn x)) (h1 : Hid (muchO M = false)) (hrn : Hid (rn = r.length)) (hr : Hid (Rw w rA rc r)) (h100 : rn ≤ 100) :
    Calls Tryz.prog 6 #[.slice A n c, .slice rA rn rc] w fun e w' => e = .returned (.bool true) ∧ Ext w w' := by
  have HO := Lib.hid (ops_of h1.out)
  have hmax : n ≤ 9223372036854775807 := by rw [hn.out]; exact hM.out.sl.le
  have h100z : ¬ ((100 : Int) < (rn : Int)) := by omega
  have m1 : True := trivial
  go_enter Tryz.func6, Tryz.ntmps6
  go_wp2_with (first
    | (go_at_call 41; have mk := m1; clear m1 mk; go_loud (refine (much11_at A c n M _ h1 hn hM hb).mono ?_); rintro r_ w1 ⟨rfl, x1⟩; have X1 := Lib.hid x1; clear x1; have m2 : True := trivial)
    | (go_at_call 42; have mk := m2; clear m2 mk; go_loud (refine (known11_any _ (G.ext X1.out)).mono ?_); rintro r_ w2 ⟨rfl, x2⟩; have X2 := Lib.hid (X1.out.trans x2); clear x2; have m3 : True := trivial)
    | (go_at_call 43; have mk := m3; clear m3 mk; go_loud (refine (spNew_any _).mono ?_); rintro r_ w3 ⟨ga, ma0, rfl, s3, v3, x3⟩; have S3 := Lib.hid s3; have V3 := Lib.hid v3; have X3 := Lib.hid x3; clear s3 v3 x3; have m4 : True := trivial)
    | (go_at_call 43; have mk := m4; clear m4 mk; go_loud (refine (spNew_any _).mono ?_); rintro r_ w4 ⟨gb, mb0, rfl, s4, v4, x4⟩; have S4 := Lib.hid s4; have V4 := Lib.hid v4; have X4 := Lib.hid x4; clear s4 v4 x4; have m5 : True := trivial)
    | (go_at_call 50; have mk := m5; clear m5 mk; go_loud (refine (upper_any (V := newV.U) gb mb0 _ _ (Lib.hid (by rw [V4.out]; exact of_flat rfl)) S4 (Lib.hid (few_flat (T := mb0.U) (by show flatV mb0.v.U = true; rw [V4.out]; rfl)))).mono ?_); rintro r_ w5 ⟨A5, c5, n5, T5, rfl, hn5, t5, v5, x5⟩; have HN5 := Lib.hid hn5; have HI0 : Hid (SplI w w5 M 0 ga gb 0 0 none A5 c5 T5 ma0 mb0 _ _ []) := Lib.hid (SplI.start X2.out S3.out V3.out X3.out S4.out V4.out X4.out t5 v5 x5); clear hn5 t5 v5 x5)
    | fail)
  clear S3 V3 X1 X2 X3 S4 V4 X4
  go_loopg [7, 8, 9] n (fun z v7 v8 v9 wr => ∃ (i n7 c7 nT cT : Nat) (A7 AT : Option Addr) (T : List Tm) (ma mb : SpM) (Ra Rb : Nat → Prop) (L : List Ud), z = n - i ∧ i ≤ n ∧ v9 = .int .i64 i ∧ v7 = .slice A7 n7 c7 ∧ v8 = .slice AT nT cT ∧ Hid (nT = T.length) ∧ Hid (SplI w wr M i ga gb n7 c7 A7 AT cT T ma mb Ra Rb L))
  case atStart => exact ⟨0, 0, 0, n5, c5, none, A5, T5, ma0, mb0, _, _, [], rfl, Nat.zero_le _, rfl, rfl, rfl, HN5, HI0⟩
  case round =>
    clear HI0 HN5
    obtain ⟨i, n7, c7, nT, cT, A7, AT, T, ma, mb, Ra, Rb, L, rfl, hi, rfl, rfl, rfl, HNT, HI⟩ := hrel
    by_cases hlt : i < n
    · have hiM : i < M.length := by rw [← hn.out]; exact hlt
      have HIM := Lib.hid hiM
      obtain ⟨x, hx⟩ : ∃ x, M.getD i Sop.zero = x := ⟨_, rfl⟩
      have hxm : x ∈ M := hx ▸ getO_mem hiM
      obtain ⟨ad, eA, _⟩ := (hM.out.ext HI.out.d.ext).at hiM hx
      subst eA
      have HC0 : Hid (∀ W, Ext w W → W.cell? (ad.add (i * 7)) = some (.int .u8 x.k) ∧ W.cell? ⟨(ad.add (i * 7)).block, (ad.add (i * 7)).off + 1, none⟩ = some (.slice x.A x.L.length x.c) ∧ W.cell? ⟨(ad.add (i * 7)).block, (ad.add (i * 7)).off + 2, none⟩ = some (.slice x.tA x.T.length x.tc) ∧ W.cell? ⟨(ad.add (i * 7)).block, (ad.add (i * 7)).off + 3, none⟩ = some (.int .i64 x.n)) := Lib.hid (fun W q => by
        obtain ⟨ad', e, q0, q1, q2, q3, _⟩ := (hM.out.ext q).at hiM hx
        injection e with e
        subst e
        exact ⟨q0, q1, q2, q3⟩)
      have HXR : Hid (SopR w x) := Lib.hid (hM.out.ls x hxm)
      have HXI : Hid (SopIn x) := Lib.hid (hI.out x hxm)
      have HX := Lib.hid hx
      have hk := HXI.out.k
      have hz := HXI.out.n
      have hle := opsLen_le M (i + 1)
      rw [opsLen_succ hiM, hx] at hle
      have hlen := HO.out.len
      have hn7 : n7 ≤ 300 := by have a := HI.out.n; have b := HI.out.d.len; omega
      have hL3 : x.L.length ≤ 300 := by omega
      have HIN : Hid (∀ y ∈ x.L, InU y) := Lib.hid (HO.out.inU hxm HXI.out)
      have HF1 : Hid (Few1 x.T) := Lib.hid (HO.out.few1 hxm)
      obtain ⟨xk, hxk⟩ : ∃ k, x.k = k := ⟨_, rfl⟩
      obtain ⟨xz, hxz⟩ : ∃ k, x.n = k := ⟨_, rfl⟩
      obtain ⟨nL, hnL⟩ : ∃ k, k = x.L.length := ⟨_, rfl⟩
      obtain ⟨nX, hnX⟩ : ∃ k, k = x.T.length := ⟨_, rfl⟩
      obtain ⟨xA, hxA⟩ : ∃ k, x.A = k := ⟨_, rfl⟩
      obtain ⟨xc, hxc⟩ : ∃ k, x.c = k := ⟨_, rfl⟩
      obtain ⟨tA, htA⟩ : ∃ k, x.tA = k := ⟨_, rfl⟩
      obtain ⟨tc, htc⟩ : ∃ k, x.tc = k := ⟨_, rfl⟩
      have HCC : Hid (∀ W, Ext w W → W.cell? (ad.add (i * 7)) = some (.int .u8 xk) ∧ W.cell? ⟨(ad.add (i * 7)).block, (ad.add (i * 7)).off + 1, none⟩ = some (.slice xA nL xc) ∧ W.cell? ⟨(ad.add (i * 7)).block, (ad.add (i * 7)).off + 2, none⟩ = some (.slice tA nX tc) ∧ W.cell? ⟨(ad.add (i * 7)).block, (ad.add (i * 7)).off + 3, none⟩ = some (.int .i64 xz)) := Lib.hid (by rw [← hxk, ← hxz, hnL, hnX, ← hxA, ← hxc, ← htA, ← htc]; exact HC0.out)
      rw [hxk] at hk
      rw [hxz] at hz
      rw [← hnL] at hL3
      have HU : Hid (Uin w xA xc x.L) := Lib.hid (by rw [← hxA, ← hxc]; exact HXR.out.u)
      have HTT : Hid (Tin w tA tc x.T) := Lib.hid (by rw [← htA, ← htc]; exact HXR.out.t)
      have HNL := Lib.hid hnL
      have HNX := Lib.hid hnX
      clear hxA hxc htA htc hnL hnX hx hxm hiM hle hxk hxz HC0 hlen
      have hL9 : (x.L.map Ud.uv).length = nL := by rw [List.length_map]; exact HNL.out.symm
      have HTI := split_ins HI.out.v (l := x.L.map Ud.uv) (X := x.T.map Tm.v) (suds_in HIN.out) (stms_in HXI.out.t) (by rw [hL9]; have a := opsLen_le M i; have b := HO.out.len; omega)
      obtain ⟨ia, hia⟩ : ∃ v, insV ma.v (x.L.map Ud.uv) (x.T.map Tm.v) = v := ⟨_, rfl⟩
      rw [hia] at HTI
      have HIA := Lib.hid hia
      have HTI2 := Lib.hid HTI
      clear hia HTI hL9
      obtain ⟨ra, sa⟩ := ia
      have XW : Ext wr wr.drew := (Ext.refl wr).drew
      have HI2 := Lib.hid (HI.out.grow XW)
      have Q1 : ∀ y : Xt wr.drew, y.W.cell? ⟨(ad.add (i * 7)).block, (ad.add (i * 7)).off + 1, none⟩ = some (.slice xA nL xc) := fun y => (HCC.out _ (HI2.out.d.ext.trans y.x)).2.1
      have Q2 : ∀ y : Xt wr.drew, y.W.cell? ⟨(ad.add (i * 7)).block, (ad.add (i * 7)).off + 2, none⟩ = some (.slice tA nX tc) := fun y => (HCC.out _ (HI2.out.d.ext.trans y.x)).2.2.1
      go_upto_region 12 with fail
      refine wp_region_ord [0,0,0,6,14,30,0,0,192,448,960,2047,4095] (.flo [0,1,2,3,4,5,6,7,8,9,10] (.one 11 (.flo [12] (.fin)))) (by kernel_rfl) (by kernel_rfl) (by intro _ _ d _ _ h; cases d <;> exact h) ?_
      (refine ord_flo (pick_cons rfl (pick_cons rfl (pick_cons rfl (pick_cons rfl (pick_cons rfl (pick_cons rfl (pick_cons rfl (pick_cons rfl (pick_cons rfl (pick_cons rfl (pick_cons rfl pick_nil))))))))))) ?_; (repeat (go_big_quiet_step (fail))); refine wpQuiet_nil ?_; show ordWalk _ _ _ _ _ _ _)
      refine ord_one (pick_cons rfl pick_nil) ?_; intro K_ hK_
      go_wp2_with (go_at_call 44; go_loud (refine (spIns_any (q := (ra, sa)) ga ma Ra xA xc nL x.L tA tc nX x.T _ HIA (Lib.hid HI2.out.d.a) HNL (Lib.hid (HU.out.ext HI2.out.d.ext)) (by omega) HIN HNX (Lib.hid (fun W q => HTT.out.ext (ext_updS HI2.out.d.ext q fun k hk => (HI2.out.d.la k hk).1))) HF1 HI.out.v.t.ok.sp.nb (Lib.hid (G.ext HI2.out.d.ext))).mono ?_); rintro r_ w1 ⟨ma1, rfl, s1, v1, u1⟩; have S1 := Lib.hid s1; have V1 := Lib.hid v1; have U1 := Lib.hid u1; clear s1 v1 u1)
      (refine ord_flo (pick_cons rfl pick_nil) ?_; (repeat (go_big_quiet_step (fail))); refine wpQuiet_nil ?_; show ordWalk _ _ _ _ _ _ _)
      refine ord_fin ?_
      clear Q1 Q2 XW
      obtain ⟨xq, hxq⟩ : ∃ q, xk % 2 = q := ⟨_, rfl⟩
      have HXQ := Lib.hid hxq
      clear hxq
      rcases HTI2.out with ⟨e1, e2⟩ | ⟨e1, e2, e3⟩
      · subst e1
        have hrz : (ra == 0) = false := by simp [e2]
        clear e2
        have HJ := Lib.hid ((HI2.out.keep U1.out S1.out V1.out).next HIM.out)
        obtain ⟨q0, q1, q2, q3⟩ := HCC.out _ HJ.out.d.ext
        have p1 : True := trivial
        by_cases hq : xq = 0
        · subst hq
          have h2m : xk % 2 = 0 := HXQ.out
          have h2b : (xk % 2 == 0) = true := by simp [h2m]
          go_wp2_with (first
            | (go_at_call 47; have mk := p1; clear p1 mk; go_loud (refine (work_gen ga xz ma1 _ _ (Lib.hid HJ.out.d.a) (Lib.hid HJ.out.v.t.ok) hz.2 (Lib.hid (fun k hk => (HJ.out.d.la k hk).2))).mono ?_); rintro r_ w8 hres; obtain ⟨mw, rr, rfl, HK_⟩ := HJ.out.work hres; have HK := Lib.hid HK_; clear hres HK_)
            | fail)
          go_roundg (n - (i + 1))
          case measure => omega
          case rel => exact ⟨i + 1, _, _, _, _, _, _, _, _, _, _, _, _, by omega, by omega, by go_num, rfl, rfl, HNT, HK⟩
        · have h2m : ¬ xk % 2 = 0 := fun e => hq (HXQ.out.symm.trans e)
          have h2b : (xk % 2 == 0) = false := by simp [h2m]
          go_wp2
          go_roundg (n - (i + 1))
          case measure => omega
          case rel => exact ⟨i + 1, _, _, _, _, _, _, _, _, _, _, _, _, by omega, by omega, by go_num, rfl, rfl, HNT, HJ⟩
      · subst e1
        have HSV := Lib.hid e2
        have HSU := Lib.hid e3
        clear e2 e3
        have D1 := Lib.hid (HI2.out.d.stepA U1.out S1.out)
        obtain ⟨q0_, q1_, q2_, q3_⟩ := HCC.out _ D1.out.ext
        go_upto_region 14 with (first
          | (at_builtin; go_loud (refine wpList_append_two _ elem_ud w.heap.size _ _ rfl rfl A7 n7 c7 (udsC L) rfl (D1.out.own) xA nL xc (udsC x.L) rfl (by have q := (HU.out.ext D1.out.ext).sl; rwa [← HNL.out] at q) (udsC_one _) (by omega) (by decide) D1.out.ext.size ?_); intro A6 c6 w6 o6 g6 h6; have HJ_ := HI2.out.ins HIM.out HX.out (fun y hy => ⟨HU.out.ls y hy, HIN.out y hy⟩) HTT.out U1.out S1.out V1.out HSV.out HSU.out HNL.out o6 g6 h6; have HJ := Lib.hid HJ_; clear o6 g6 h6 HJ_)
          | fail)
        clear q0_ q1_ q2_ q3_
        obtain ⟨q0, q1, q2, q3⟩ := HCC.out _ HJ.out.d.ext
        have p1 : True := trivial
        by_cases hq : xq = 0
        · subst hq
          have h2m : xk % 2 = 0 := HXQ.out
          have h2b : (xk % 2 == 0) = true := by simp [h2m]
          go_wp2_with (first
            | (go_at_call 47; have mk := p1; clear p1 mk; go_loud (refine (work_gen ga xz ma1 _ _ (Lib.hid HJ.out.d.a) (Lib.hid HJ.out.v.t.ok) hz.2 (Lib.hid (fun k hk => (HJ.out.d.la k hk).2))).mono ?_); rintro r_ w8 hres; obtain ⟨mw, rr, rfl, HK_⟩ := HJ.out.work hres; have HK := Lib.hid HK_; clear hres HK_)
            | fail)
          go_roundg (n - (i + 1))
          case measure => omega
          case rel => exact ⟨i + 1, _, _, _, _, _, _, _, _, _, _, _, _, by omega, by omega, by go_num, rfl, rfl, HNX, HK⟩
        · have h2m : ¬ xk % 2 = 0 := fun e => hq (HXQ.out.symm.trans e)
          have h2b : (xk % 2 == 0) = false := by simp [h2m]
          go_wp2
          go_roundg (n - (i + 1))
          case measure => omega
          case rel => exact ⟨i + 1, _, _, _, _, _, _, _, _, _, _, _, _, by omega, by omega, by go_num, rfl, rfl, HNX, HJ⟩
    · obtain rfl : i = n := by omega
      have HBN : Hid (mb.v.bs.length ≤ 1000000) := Lib.hid (by rw [HI.out.b]; decide)
      have HLN : (L.map Ud.uv).length + 1 ≤ 1000000 := by rw [List.length_map]; have a := HI.out.n; have b := opsLen_le M i; have c := HO.out.len; omega
      have hn7 : n7 ≤ 300 := by have a := HI.out.n; have b := HI.out.d.len; have c := opsLen_le M i; have d := HO.out.len; omega
      obtain ⟨sb, hs1, hs2, hs3, hs4⟩ := split_all HI.out.v HLN
      have HS1 : Hid (insV mb.v (L.map Ud.uv) (T.map Tm.v) = (0, sb)) := Lib.hid (by rw [HI.out.b, HI.out.up]; exact hs1)
      have HS2 := Lib.hid hs2
      have HS3 := Lib.hid hs3
      have HS4 := Lib.hid hs4
      have HFT : Hid (Few1 T) := Lib.hid (few_flat (by rw [HI.out.up]; exact HI.out.v.t.ok.fu))
      have HVL : Hid ((allV ma.v).length ≤ 1000000) := Lib.hid (by rw [← HS4.out, tells_all HS2.out]; split; (exact Nat.zero_le _); (exact Nat.le_trans (usumV_len _) (by rw [List.length_map]; omega)))
      clear hs1 hs2 hs3 hs4 HLN
      have m1 : True := trivial
      go_wp2_with (first
        | (go_at_call 44; have mk := m1; clear m1 mk; go_loud (refine (spIns_any (q := (0, sb)) gb mb Rb A7 c7 n7 L AT cT nT T _ HS1 (Lib.hid HI.out.d.b) (Lib.hid HI.out.d.len) (Lib.hid HI.out.d.uin) (by omega) (Lib.hid HI.out.u) HNT (Lib.hid (fun W q => HI.out.tm W (q.mono fun k _ hk => .inr hk))) HFT (by have := HBN.out; unfold SpM.v at this; simpa using this) (Lib.hid (G.ext HI.out.d.ext))).mono ?_); rintro r_ w1 ⟨mb1, rfl, s1, v1, u1⟩; have D1 := Lib.hid (HI.out.d.stepB u1 s1); have V1 : Hid (mb1.v = sb) := Lib.hid v1; have OB : Hid (OkV mb1.v) := Lib.hid (by rw [v1]; exact HS2.out.ok); have AB : Hid (allV mb1.v = allV ma.v) := Lib.hid (by rw [v1]; exact HS4.out); clear s1 v1 u1; have m2 : True := trivial)
        | (go_at_call 48; have mk := m2; clear m2 mk; go_loud (refine (spAll_any (V := allV ma.v) ga ma _ _ (Lib.hid rfl) (Lib.hid D1.out.a) (Lib.hid HI.out.v.t.ok.sp)).mono ?_); rintro r_ w3 ⟨A3, n3, R3, rfl, h3, u3, e3, x3⟩; have HN3 := Lib.hid h3; have HU3 := Lib.hid u3.uin; have HE3 := Lib.hid e3; have D2 := Lib.hid (D1.out.grow x3); clear h3 u3 e3 x3; have m3 : True := trivial)
        | (go_at_call 48; have mk := m3; clear m3 mk; go_loud (refine (spAll_any (V := allV ma.v) gb mb1 _ _ AB (Lib.hid D2.out.b) (Lib.hid OB.out.sp)).mono ?_); rintro r_ w4 ⟨A4, n4, R4, rfl, h4, u4, e4, x4⟩; have HN4 := Lib.hid h4; have HU4 := Lib.hid u4.uin; have HE4 := Lib.hid e4; have X4 := Lib.hid x4; have D3 := Lib.hid (D2.out.grow x4); clear h4 u4 e4 x4; have m4 : True := trivial)
        | (go_at_call 23; have mk := m4; clear m4 mk; go_loud (refine (sameUps_any A3 A4 n3 n4 n3 n4 R3 R4 _ HN3 HN4 (Lib.hid (HU3.out.ext X4.out)) HU4 (Lib.hid (HE3.out.trans HE4.out.symm))).mono ?_); rintro r_ w5 ⟨rfl, x5⟩; have D4 := Lib.hid (D3.out.grow x5); clear x5; have m5 : True := trivial)
        | (go_at_call 50; have mk := m5; clear m5 mk; go_loud (refine (upper_any (V := ma.v.U) ga ma _ _ (Lib.hid (of_flat HI.out.v.t.ok.fu)) (Lib.hid D4.out.a) (Lib.hid (few_flat (T := ma.U) HI.out.v.t.ok.fu))).mono ?_); rintro r_ w6 ⟨A6, c6, n6, T6, rfl, h6, t6, v6, x6⟩; have HN6 := Lib.hid h6; have HT6 := Lib.hid t6.tin; have HV6 := Lib.hid v6; have D5 := Lib.hid (D4.out.grow x6); clear h6 t6 v6 x6; have m6 : True := trivial)
        | (go_at_call 50; have mk := m6; clear m6 mk; go_loud (refine (upper_any (V := ma.v.U) gb mb1 _ _ (Lib.hid (by rw [V1.out, HS3.out]; exact of_flat HI.out.v.t.ok.fu)) (Lib.hid D5.out.b) (Lib.hid (few_flat (T := mb1.U) OB.out.fu))).mono ?_); rintro r_ w7 ⟨A8, c8, n8, T8, rfl, h8, t8, v8, x8⟩; have HN8 := Lib.hid h8; have HT8 := Lib.hid t8.tin; have HV8 := Lib.hid v8; have X8 := Lib.hid x8; have D6 := Lib.hid (D5.out.grow x8); clear h8 t8 v8 x8; have m7 : True := trivial)
        | (go_at_call 37; have mk := m7; clear m7 mk; go_loud (refine (sameTimes_yes A6 A8 n6 n8 c6 c8 T6 T8 _ HN6 HN8 (Lib.hid (HT6.out.ext X8.out)) HT8 (Lib.hid (HV6.out.trans HV8.out.symm))).mono ?_); rintro r_ w9 ⟨rfl, x9⟩; have D7 := Lib.hid (D6.out.grow x9); clear x9; have m8 : True := trivial)
        | (go_at_call 51; have mk := m8; clear m8 mk; go_loud (refine (spRow_any (V := allV ma.v) ga ma _ rA rc rn r _ (Lib.hid rfl) (Lib.hid D7.out.a) (Lib.hid HI.out.v.t.ok) hrn (Lib.hid (hr.out.ext D7.out.ext)) HVL.out).mono ?_); rintro r_ w10 hres; obtain ⟨A10, n10, c10, C10, rfl, h10, i10, v10, x10⟩ := hres.cin; have HN10 := Lib.hid h10; have HC10 := Lib.hid i10; have HV10 := Lib.hid v10; have D8 := Lib.hid (D7.out.grow x10); clear h10 i10 v10 x10 hres; have m9 : True := trivial)
        | (go_at_call 51; have mk := m9; clear m9 mk; go_loud (refine (spRow_any (V := allV ma.v) gb mb1 _ rA rc rn r _ AB (Lib.hid D8.out.b) OB hrn (Lib.hid (hr.out.ext D8.out.ext)) HVL.out).mono ?_); rintro r_ w11 hres; obtain ⟨A11, n11, c11, C11, rfl, h11, i11, v11, x11⟩ := hres.cin; have HN11 := Lib.hid h11; have HC11 := Lib.hid i11; have HV11 := Lib.hid v11; have X11 := Lib.hid x11; have D9 := Lib.hid (D8.out.grow x11); clear h11 i11 v11 x11 hres; have hn11 : n11 = n10 := (by rw [HN11.out, HN10.out]; have a := congrArg List.length HV11.out; have b := congrArg List.length HV10.out; rw [List.length_map] at a b; omega); subst hn11; have m10 : True := trivial)
        | (go_at_call 52; have mk := m10; clear m10 mk; go_loud (refine (changes11_yes A10 A11 c10 c11 n11 C10 C11 _ HN10 (Lib.hid (HC10.out.ext X11.out)) HC11 (Lib.hid (HV10.out.trans HV11.out.symm))).mono ?_); rintro r_ w12 ⟨rfl, x12⟩; have X12 := Lib.hid x12; have D10 := Lib.hid (D9.out.grow x12); clear x12; have m11 : True := trivial)
        | (go_at_call 48; have mk := m11; clear m11 mk; go_loud (refine (spAll_any (V := allV ma.v) gb mb1 _ _ AB (Lib.hid D10.out.b) (Lib.hid OB.out.sp)).mono ?_); rintro r_ w13 ⟨A13, n13, R13, rfl, h13, u13, e13, x13⟩; have HN13 := Lib.hid h13; have HU13 := Lib.hid u13.uin; have HE13 := Lib.hid e13; have X13 := Lib.hid (X12.out.trans x13); have D11 := Lib.hid (D10.out.grow x13); clear h13 u13 e13 x13)
        | fail)
      have hn13 : n13 ≤ 1000000 := by rw [HN13.out]; have a := congrArg List.length HE13.out; rw [List.length_map] at a; rw [a]; exact HVL.out
      have HCY : Hid (Cin w13 A11 c11 C11) := Lib.hid (HC11.out.ext X13.out)
      have HCV : Hid (C11.map Cg.cv = (chgU R13 r).map Cg.cv) := Lib.hid (by rw [HV11.out, chgU_val, HE13.out])
      have hnk : n11 ≤ 1000000 := by rw [HN11.out]; have a := congrArg List.length HCV.out; rw [List.length_map, List.length_map] at a; have b := chgU_len R13 r; have d := HN13.out; omega
      have HRW : Hid (Rw w13 rA rc r) := Lib.hid (hr.out.ext D11.out.ext)
      clear HBN HS1 HS2 HS3 HS4 HFT HVL D1 V1 OB AB D2 D3 D4 D5 D6 D7 D8 D9 D10 HN3 HU3 HE3 HN4 HU4 HE4 X4 HN6 HT6 HV6 HN8 HT8 HV8 X8 HN10 HC10 HV10 HC11 X11 X12 X13 HI HNT hn7 HO
      obtain ⟨wz, hwz⟩ : ∃ wz : World, wz = w13 := ⟨_, rfl⟩
      rw [← hwz] at HU13 HCY HRW D11 ⊢
      clear hwz
      go_loopg [12, 14] n13 (fun z v12 v14 wq => ∃ (j k : Nat), z = n13 - j ∧ j ≤ n13 ∧ k ≤ j ∧ v14 = .int .i64 j ∧ v12 = .int .i64 k ∧ Hid (k = (chgU (R13.take j) r).length) ∧ Hid (Ext wz wq))
      case atStart => exact ⟨0, 0, rfl, Nat.zero_le _, Nat.le_refl _, rfl, rfl, Lib.hid rfl, Lib.hid (Ext.refl _)⟩
      case round =>
        obtain ⟨j, k, rfl, hj, hkj, rfl, rfl, HK, HQ⟩ := hrel
        by_cases hjn : j < n13
        · have hjL : j < R13.length := by rw [← HN13.out]; exact hjn
          obtain ⟨ad, rfl, p0, p1, p2, p3⟩ := (HU13.out.ext HQ.out).at hjL
          have hm := getU_mem hjL
          obtain ⟨x, hx⟩ : ∃ x, R13.getD j Ud.zero = x := ⟨_, rfl⟩
          rw [hx] at p0 p1 p2 p3 hm
          obtain ⟨nx, hnx⟩ : ∃ nx, nx = x.l.length := ⟨_, rfl⟩
          obtain ⟨tx, htx⟩ : ∃ tx, tx = x.t.l.length := ⟨_, rfl⟩
          rw [← hnx] at p0
          rw [← htx] at p2
          have HNX := Lib.hid hnx
          have HXX := Lib.hid hx
          have HJL := Lib.hid hjL
          have HXU : Hid (UdR wr x) := Lib.hid ((HU13.out.ls x hm).ext HQ.out)
          have HTX : Hid (∀ W, Ext wr W → Sl W 1 x.t.A tx x.t.c (wds x.t.l)) := Lib.hid (fun W q => by rw [htx]; exact HXU.out.t.ext q)
          obtain ⟨b, hb⟩ : ∃ b, cmpR x.l r = b := ⟨_, rfl⟩
          have HB := Lib.hid hb
          have P1 : Hid (∀ W, Ext wr W → W.cell? ⟨(ad.add (j * 4)).block, (ad.add (j * 4)).off + 1, none⟩ = some (.int .u64 x.t.e) ∧ W.cell? ⟨(ad.add (j * 4)).block, (ad.add (j * 4)).off + 2, none⟩ = some (.slice x.t.A tx x.t.c) ∧ W.cell? ⟨(ad.add (j * 4)).block, (ad.add (j * 4)).off + 3, none⟩ = some (.int .i64 x.d)) := Lib.hid (fun W q => ⟨q.cell p1, q.cell p2, q.cell p3⟩)
          clear hm hx hnx htx hb hjL p1 p2 p3
          have q1 : True := trivial
          by_cases hb0 : b = 0
          · subst hb0
            obtain ⟨hkC, hcv⟩ := chg_nth HCV.out HJL.out HXX.out HB.out HK.out
            have hkn : k < n11 := by rw [HN11.out]; exact hkC
            have HKC := Lib.hid hkC
            have HCVK := Lib.hid hcv
            clear hkC hcv
            go_upto_region 29 with (first
              | (go_at_call 53; have mk := q1; clear q1 mk; go_loud (refine (rowRCmp_lit x.A rA x.c rc nx rn x.l r _ HB HNX hrn (Lib.hid HXU.out.r) (Lib.hid (HRW.out.ext HQ.out))).mono ?_); rintro r_ w2 ⟨rfl, x2⟩; have X2 := Lib.hid x2; clear x2)
              | fail)
            obtain ⟨f, By, ny, cy, ly, d2, ay, S, hy, hny⟩ := (HCY.out.ext (HQ.out.trans X2.out)).cgAt HKC.out
            have e9 := HCVK.out
            rw [hy] at e9
            have e10 : f = x.t.e := congrArg (fun p : CV => p.1.1) e9
            have e11 : ly = x.t.l := congrArg (fun p : CV => p.1.2) e9
            have e12 : d2 = x.d := congrArg (fun p : CV => p.2) e9
            subst e10 e11 e12
            obtain ⟨rfl, s0, s1, s2, HSY⟩ := S
            have hdd : (x.d != x.d) = false := by simp
            have p1 : ∀ y : Xt w2, y.W.cell? ⟨(ad.add (j * 4)).block, (ad.add (j * 4)).off + 1, none⟩ = some (.int .u64 x.t.e) := fun y => (P1.out _ (X2.out.trans y.x)).1
            have p2 : ∀ y : Xt w2, y.W.cell? ⟨(ad.add (j * 4)).block, (ad.add (j * 4)).off + 2, none⟩ = some (.slice x.t.A tx x.t.c) := fun y => (P1.out _ (X2.out.trans y.x)).2.1
            have p3 : ∀ y : Xt w2, y.W.cell? ⟨(ad.add (j * 4)).block, (ad.add (j * 4)).off + 3, none⟩ = some (.int .i64 x.d) := fun y => (P1.out _ (X2.out.trans y.x)).2.2
            have hge : ¬ ((n11 : Int) ≤ (k : Int)) := by omega
            clear hy hny e9 p0
            (refine wp_region_ext (by kernel_rfl) (by kernel_rfl) ?_; (repeat (go_big_quiet_step ((go_at_call 54; with_reducible exact call_ext (sameTime_at (b := true) x.t.e x.t.e By x.t.A ny tx cy x.t.c x.t.l x.t.l _ (Lib.hid (by simp)) (HSY _) (Lib.hid (HTX.out _ (X2.out.trans (by exact Xt.x _))))))))); refine wpQuiet_nil ?_; rintro _ ⟨y, rfl⟩)
            go_wp2
            go_roundg (n13 - (j + 1))
            case measure => omega
            case rel => exact ⟨j + 1, k + 1, by omega, by omega, by omega, by go_num, by go_num, Lib.hid (by rw [chgU_step HJL.out HXX.out, if_pos HB.out, List.length_append, ← HK.out]; rfl), Lib.hid ((HQ.out.trans X2.out).trans y.x)⟩
          · have hbz : (b == 0) = false := by simp [hb0]
            go_wp2_with (first
              | (go_at_call 53; have mk := q1; clear q1 mk; go_loud (refine (rowRCmp_lit x.A rA x.c rc nx rn x.l r _ HB HNX hrn (Lib.hid HXU.out.r) (Lib.hid (HRW.out.ext HQ.out))).mono ?_); rintro r_ w2 ⟨rfl, x2⟩; have X2 := Lib.hid x2; clear x2)
              | fail)
            go_roundg (n13 - (j + 1))
            case measure => omega
            case rel => exact ⟨j + 1, k, by omega, by omega, by omega, by go_num, rfl, Lib.hid (by rw [chgU_step HJL.out HXX.out, if_neg (by rw [HB.out]; exact hb0), List.append_nil]; exact HK.out), Lib.hid (HQ.out.trans X2.out)⟩
        · obtain rfl : j = n13 := by omega
          have hkk : k = n11 := by
            have a := HK.out
            rw [show R13.take j = R13 from List.take_of_length_le (by rw [← HN13.out]; exact Nat.le_refl _)] at a
            have b := congrArg List.length HCV.out
            rw [List.length_map, List.length_map] at b
            rw [a, HN11.out, b]
          subst hkk
          go_wp2
          go_ret
          exact ⟨by simp, D11.out.ext.trans HQ.out⟩
theorem spineSplit_any (A : Option Addr) (c n : Nat) (M : List Sop) (rA : Option Addr) (rc rn : Nat) (r : List Dat) (w : World) (G : Good w) (hn : Hid (n = M.length)) (hM : Hid (Oin w A c M)) (hb : Hid (∀ x ∈ M, x.L.length ≤ 1048576 ∧ x.T.length ≤ 1048576)) (hI : Hid (∀ x ∈ M, SopIn x)) (hrn : Hid (rn = r.length)) (hr : Hid (Rw w rA rc r)) :
    Calls Tryz.prog 6 #[.slice A n c, .slice rA rn rc] w fun e w' => e = .returned (.bool true) ∧ Ext w w' := by
  cases h1 : muchO M with
  | true => exact split_much A c n M rA rc rn w G hn hM hb (.inl h1)
  | false =>
    by_cases h2 : 100 < rn
    · exact split_much A c n M rA rc rn w G hn hM hb (.inr ⟨h1, h2⟩)
    · exact split_any A c n M rA rc rn r w G hn hM hb hI (Lib.hid h1) hrn hr (by omega)
end Go.Proofs.YtdgbkpoickbidaaGreatDoor
