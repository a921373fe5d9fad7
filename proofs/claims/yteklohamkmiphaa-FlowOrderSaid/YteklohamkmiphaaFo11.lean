/- FlowOrder, plainly: a graph turned about is alike. penstockref00.SamePath, SamePaths: of what is the same they say so. penstocklaw06.known: what the chapter's examples fix holds. penstocklaw06.FlowOrder: the order of a graph's edges and inner ways makes no difference. What comes in: a small number. Conditions: each theorem states its own. -/
import Derived.Test.YteklohamkmiphaaFo10
import Derived.Test.YteklohamkmiphaaFo6
import Derived.Test.YteklohamkmiphaaFo2
import Derived.Test.YteklohamkmiphaaFo4
import Derived.Deep.LoopGhost
namespace Go.Proofs.Yteklohamkmiphaa
open Go.RowKit

def revN (x : Nd) : Nd := ⟨x.ins, x.outs, x.depth, x.inner.reverse⟩
theorem like_turn {g h : Gr} (hn : h.nodes = g.nodes.map revN) (he : ∀ e, e ∈ g.edges ↔ e ∈ h.edges) : Like g h :=
  ⟨by rw [hn, List.length_map], fun n a b ha hb => by
    rw [hn, List.getElem?_map, ha] at hb
    injection hb with hb
    subst hb
    exact ⟨rfl, rfl, rfl, by unfold revN; rw [List.length_reverse], fun x => by unfold revN; rw [List.mem_reverse]⟩, he⟩
/-- the edges, from one on -/
def rot (E : List (Pt × Pt)) (t i : Nat) : List (Pt × Pt) := (List.range i).map fun j => E.getD ((j + t) % E.length) edZ
theorem rot_succ (E : List (Pt × Pt)) (t i : Nat) : rot E t (i + 1) = rot E t i ++ [E.getD ((i + t) % E.length) edZ] := by
  unfold rot; rw [List.range_succ, List.map_append]; rfl
theorem rot_len (E : List (Pt × Pt)) (t i : Nat) : (rot E t i).length = i := by unfold rot; simp
theorem rot_at {n t q : Nat} (hq : q < n) : ∃ j, j < n ∧ (j + t) % n = q := by
  have n0 : 0 < n := by omega
  refine ⟨(q + (n - t % n)) % n, Nat.mod_lt _ n0, ?_⟩
  have ht := Nat.mod_lt t n0
  rw [Nat.mod_add_mod]
  have e : q + (n - t % n) + t = q + n * (t / n + 1) := by
    have h := Nat.div_add_mod t n
    rw [Nat.mul_add, Nat.mul_one]
    omega
  rw [e, Nat.add_mul_mod_self_left, Nat.mod_eq_of_lt hq]
theorem rot_mem {E : List (Pt × Pt)} {t : Nat} (e : Pt × Pt) : e ∈ E ↔ e ∈ rot E t E.length := by
  constructor
  · intro h
    obtain ⟨q, hq, rfl⟩ := List.getElem_of_mem h
    obtain ⟨j, hj, he⟩ := rot_at (t := t) hq
    refine List.mem_map.2 ⟨j, List.mem_range.2 hj, ?_⟩
    rw [he, List.getD_eq_getElem?_getD, List.getElem?_eq_getElem hq]
    rfl
  · intro h
    obtain ⟨j, hj, rfl⟩ := List.mem_map.1 h
    have hj := List.mem_range.1 hj
    exact getD_mem' edZ (Nat.mod_lt _ (by omega))
/-- all of them, one of them once more -/
def turnE (E : List (Pt × Pt)) (t tw : Nat) : List (Pt × Pt) := if E.length = 0 then [] else rot E t E.length ++ [E.getD (tw % E.length) edZ]
theorem turnE_mem {E : List (Pt × Pt)} {t tw : Nat} (e : Pt × Pt) : e ∈ E ↔ e ∈ turnE E t tw := by
  unfold turnE
  by_cases h : E.length = 0
  · rw [if_pos h, List.eq_nil_of_length_eq_zero h]
  · rw [if_neg h, List.mem_append, ← rot_mem, List.mem_singleton]
    exact ⟨.inl, fun q => by
      rcases q with q | rfl
      · exact q
      · exact getD_mem' edZ (Nat.mod_lt _ (by omega))⟩
theorem turnE_len (E : List (Pt × Pt)) (t tw : Nat) : (turnE E t tw).length ≤ E.length + 1 := by
  unfold turnE
  by_cases h : E.length = 0
  · rw [if_pos h]; exact Nat.zero_le _
  · rw [if_neg h, List.length_append, rot_len]; exact Nat.le_refl _
/-- what is known of a graph turned about -/
structure Turned (w : World) (g : Gm) (t tw : Nat) (h : Gm) : Prop where
  gm : GmR w h
  nv : h.nodes.map Nm.v = g.nodes.map fun x => revN x.v
  ev : h.edges = turnE g.edges t tw
theorem Turned.like {w : World} {g h : Gm} {t tw : Nat} (T : Turned w g t tw h) : Like g.v h.v :=
  like_turn (by show h.nodes.map Nm.v = (g.nodes.map Nm.v).map revN; rw [T.nv, List.map_map]; rfl) (fun e => by show e ∈ g.edges ↔ e ∈ h.edges; rw [T.ev]; exact turnE_mem e)
theorem Turned.ok {w : World} {NA : Option Addr} {Nc : Nat} {nodes : List Nm} {EA : Option Addr} {Ec : Nat} {edges : List (Pt × Pt)} {HA : Option Addr} {Hc : Nat} {hn : List Nm} {FA : Option Addr} {Fc : Nat} {he : List (Pt × Pt)} {t tw nl el : Nat} (T : Turned w ⟨NA, Nc, nodes, EA, Ec, edges⟩ t tw ⟨HA, Hc, hn, FA, Fc, he⟩) (h6 : G64 ⟨NA, Nc, nodes, EA, Ec, edges⟩) (hw : wtG nodes edges ≤ 60) (hl : nl = hn.length) (hel : el = he.length) : GrOk w HA Hc hn FA Fc he nl el := by
  have h1 := wt_inner nodes
  have h2 := hw
  unfold wtG at h2
  have e1 : hn.length = nodes.length := by have := congrArg List.length T.nv; rwa [List.length_map, List.length_map] at this
  have e2 : he = turnE edges t tw := T.ev
  have e3 : sumOn (fun n => n.inner.length) (hn.map Nm.v) = sumOn (fun n => n.inner.length) (nodes.map Nm.v) := by
    have q : hn.map Nm.v = nodes.map fun x => revN x.v := T.nv
    rw [q]
    unfold sumOn
    rw [List.map_map, List.map_map]
    refine congrArg List.sum (List.map_congr_left fun x _ => ?_)
    show (x.v.inner.reverse).length = _
    rw [List.length_reverse]
    rfl
  have e4 : he.length ≤ edges.length + 1 := by rw [e2]; exact turnE_len _ _ _
  refine grok_v hl hel T.gm (g64_v (fun n hn2 => ?_) (fun e hm => ?_)) edges (fun e hm => by rw [e2] at hm; exact (turnE_mem e).2 hm) (by rw [e1, e3]; omega) (by omega)
  · have q : n ∈ nodes.map fun x => revN x.v := by have q2 : hn.map Nm.v = nodes.map fun x => revN x.v := T.nv; rw [← q2]; exact hn2
    obtain ⟨x, hx, rfl⟩ := List.mem_map.1 q
    have hn := h6.nd x hx
    refine ⟨hn.ins, hn.outs, hn.depth, fun y hy => ?_⟩
    have hy : y ∈ x.inner.map Im.v := List.mem_reverse.1 hy
    obtain ⟨z, hz, rfl⟩ := List.mem_map.1 hy
    exact hn.inn z hz
  · have hm : e ∈ he := hm
    rw [e2] at hm
    exact h6.ed e ((turnE_mem e).2 hm)
end Go.Proofs.Yteklohamkmiphaa
namespace Go.Proofs.Yteklohamkmiphaa
open Go.RowKit

set_option maxRecDepth 100000 in
set_option maxHeartbeats 400000 in
theorem samePath_yes (L1 a1 : Int) (A1 A2 : Option Addr) (n1 n2 c1 c2 : Nat) (l1 : List Int) (w : World) (h1 : Hid (Sl w 1 A1 n1 c1 (wds l1))) (h2 : Hid (Sl w 1 A2 n2 c2 (wds l1))) :
    Calls Try.prog 34 #[.agg #[.int .i64 L1, .int .u32 a1, .slice A1 n1 c1], .agg #[.int .i64 L1, .int .u32 a1, .slice A2 n2 c2]] w fun e w' => e = .returned (.bool true) ∧ Ext w w' := by
  go_enter Try.func34, Try.ntmps34
  go_wp2_with (go_at_call 59; refine (sameWords_any A1 A2 n1 n2 c1 c2 l1 l1 _ (h1.out.ext (((Ext.refl w).alloc _).alloc _)) (h2.out.ext (((Ext.refl w).alloc _).alloc _))).mono ?_; rintro r w1 ⟨rfl, x1⟩)
  refine bodyPost_ret (v := .bool (decide (l1 = l1))) (by simp only [results, Try.results34]; go_simp) rfl ?_
  exact ⟨by simp, (((Ext.refl w).alloc _).alloc _).trans x1⟩
theorem pms_at {L M : List Pm} (h : L.map Pm.w = M.map Pm.w) {i : Nat} (hi : i < L.length) : (M.getD i Pm.zero).w = (L.getD i Pm.zero).w := by
  have hl := congrArg List.length h
  rw [List.length_map, List.length_map] at hl
  have e := congrArg (fun l : List Way => l[i]?) h
  simp only [List.getElem?_map] at e
  rw [List.getElem?_eq_getElem hi, List.getElem?_eq_getElem (by omega)] at e
  simp only [Option.map_some, Option.some.injEq] at e
  rw [List.getD_eq_getElem?_getD, List.getD_eq_getElem?_getD, List.getElem?_eq_getElem hi, List.getElem?_eq_getElem (by omega)]
  exact e.symm
set_option maxRecDepth 100000 in
set_option maxHeartbeats 4000000 in
theorem samePaths_yes (A1 A2 : Option Addr) (n m c1 c2 : Nat) (L M : List Pm) (w : World) (hn : Hid (n = L.length)) (hm : Hid (m = M.length)) (h1 : Hid (Sl w 3 A1 n c1 (L.flatMap pmC))) (h2 : Hid (Sl w 3 A2 m c2 (M.flatMap pmC))) (r1 : Hid (∀ x ∈ L, PmR w x)) (r2 : Hid (∀ x ∈ M, PmR w x)) (he : Hid (L.map Pm.w = M.map Pm.w)) :
    Calls Try.prog 14 #[.slice A1 n c1, .slice A2 m c2] w fun e w' => e = .returned (.bool true) ∧ Ext w w' := by
  have hl := congrArg List.length he.out
  rw [List.length_map, List.length_map] at hl
  obtain rfl : m = n := by rw [hn.out, hm.out, hl]
  have hbig : m ≤ 9223372036854775807 := h1.out.le
  clear hl
  go_enter Try.func14, Try.ntmps14
  go_wp2
  go_loopg [5] m (fun z v wr => ∃ k : Nat, z = m - k ∧ k ≤ m ∧ v = .int .i64 k ∧ Hid (Ext w wr))
  case atStart => exact ⟨0, rfl, Nat.zero_le _, rfl, Lib.hid (Ext.refl _)⟩
  case round =>
    obtain ⟨k, rfl, hk, rfl, HE⟩ := hrel
    by_cases hlt : k < m
    · have hkL : k < L.length := by rw [← hn.out]; exact hlt
      have hkM : k < M.length := by rw [← hm.out]; exact hlt
      obtain ⟨a1, rfl, p0, pp⟩ := els_at pmC 3 pmC_len Pm.zero (h1.out.ext HE.out) hn.out hkL (by omega)
      obtain ⟨a2, rfl, q0, qq⟩ := els_at pmC 3 pmC_len Pm.zero (h2.out.ext HE.out) hm.out hkM (by omega)
      have HX : Hid (PmR wr (L.getD k Pm.zero)) := Lib.hid ((r1.out _ (getD_mem' Pm.zero hkL)).ext HE.out)
      have HY : Hid (PmR wr (M.getD k Pm.zero)) := Lib.hid ((r2.out _ (getD_mem' Pm.zero hkM)).ext HE.out)
      have hw := pms_at he.out hkL
      obtain ⟨x, hx⟩ : ∃ x, L.getD k Pm.zero = x := ⟨_, rfl⟩
      obtain ⟨y, hy⟩ : ∃ y, M.getD k Pm.zero = y := ⟨_, rfl⟩
      rw [hx] at p0 pp HX hw
      rw [hy] at q0 qq HY hw
      obtain ⟨xA, xc, ⟨xl, xa, xe⟩⟩ := x
      obtain ⟨yA, yc, yw⟩ := y
      simp only at hw
      subst hw
      have p0 := p0 _ rfl
      have p1 := pp 0 _ rfl
      have p2 := pp 1 _ rfl
      have q0 := q0 _ rfl
      have q1 := qq 0 _ rfl
      have q2 := qq 1 _ rfl
      simp only at p0 p1 p2 q0 q1 q2
      obtain ⟨nx, hnx⟩ : ∃ nx, nx = xe.length := ⟨_, rfl⟩
      rw [← hnx] at p2 q2
      have HX : Hid (Sl wr 1 xA nx xc (wds xe)) := Lib.hid (by rw [hnx]; exact HX.out)
      have HY : Hid (Sl wr 1 yA nx yc (wds xe)) := Lib.hid (by rw [hnx]; exact HY.out)
      clear hx hy hkL hkM pp qq hnx
      go_wp2
      have X : Ext wr wr.drew := (Ext.refl wr).drew
      have y0 : ∀ y : Xt wr.drew, y.W.cell? (a1.add (k * 3)) = some (.int .i64 xl) := fun y => y.x.cell (X.cell p0)
      have y1 : ∀ y : Xt wr.drew, y.W.cell? ⟨(a1.add (k * 3)).block, (a1.add (k * 3)).off + 1, none⟩ = some (.int .u32 xa) := fun y => y.x.cell (X.cell p1)
      have y2 : ∀ y : Xt wr.drew, y.W.cell? ⟨(a1.add (k * 3)).block, (a1.add (k * 3)).off + 2, none⟩ = some (.slice xA nx xc) := fun y => y.x.cell (X.cell p2)
      have z0 : ∀ y : Xt wr.drew, y.W.cell? (a2.add (k * 3)) = some (.int .i64 xl) := fun y => y.x.cell (X.cell q0)
      have z1 : ∀ y : Xt wr.drew, y.W.cell? ⟨(a2.add (k * 3)).block, (a2.add (k * 3)).off + 1, none⟩ = some (.int .u32 xa) := fun y => y.x.cell (X.cell q1)
      have z2 : ∀ y : Xt wr.drew, y.W.cell? ⟨(a2.add (k * 3)).block, (a2.add (k * 3)).off + 2, none⟩ = some (.slice yA nx yc) := fun y => y.x.cell (X.cell q2)
      clear p0 p1 p2 q0 q1 q2
      refine wp_region_ord [0,0,3,7,0,0,48,112,255,511] (.flo [0,1,2,3,4,5,6,7] (.one 8 (.flo [9] (.fin)))) (by kernel_rfl) (by kernel_rfl) (by intro _ _ d _ _ h; cases d <;> exact h) ?_
      (refine ord_flo (pick_cons rfl (pick_cons rfl (pick_cons rfl (pick_cons rfl (pick_cons rfl (pick_cons rfl (pick_cons rfl (pick_cons rfl pick_nil)))))))) ?_; (repeat (go_big_quiet_step (fail))); refine wpQuiet_nil ?_; show ordWalk _ _ _ _ _ _ _)
      refine ord_one (pick_cons rfl pick_nil) ?_; intro K_ hK_
      go_wp2_with (go_at_call 34; go_loud (refine (samePath_yes xl xa xA yA nx nx xc yc xe _ (Lib.hid (HX.out.ext X)) (Lib.hid (HY.out.ext X))).mono ?_); rintro r w1 ⟨rfl, x1⟩)
      (refine ord_flo (pick_cons rfl pick_nil) ?_; (repeat (go_big_quiet_step (fail))); refine wpQuiet_nil ?_; show ordWalk _ _ _ _ _ _ _)
      refine ord_fin ?_
      go_wp2
      go_roundg (m - (k + 1))
      case measure => omega
      case rel => exact ⟨k + 1, by omega, by omega, by go_num, Lib.hid ((HE.out.trans X).trans x1)⟩
    · obtain rfl : k = m := by omega
      go_wp2
      go_ret
      exact ⟨rfl, HE.out⟩
end Go.Proofs.Yteklohamkmiphaa
namespace Go.Proofs.Yteklohamkmiphaa
open Go.RowKit

def WaysLit (w : World) (l : List Way) (e : Ending) (w' : World) : Prop := ∃ (A : Option Addr) (c n : Nat) (M : List Pm), e = .returned (.tuple #[.slice A n c, .int .u16 0]) ∧ n = M.length ∧ M.map Pm.w = l ∧ Sl w' 3 A n c (M.flatMap pmC) ∧ (∀ x ∈ M, PmR w' x) ∧ Ext w w'
section
variable {w : World} {NA : Option Addr} {Nc : Nat} {nodes : List Nm} {EA : Option Addr} {Ec : Nat} {edges : List (Pt × Pt)}
theorem ways_lit {fn : Int} {fo : Bool} {fp tn : Int} {too : Bool} {tp : Int} {l : List Way} (G : GmR w ⟨NA, Nc, nodes, EA, Ec, edges⟩) (h : Gm.v ⟨NA, Nc, nodes, EA, Ec, edges⟩ = exG 1) (key : ∀ l' e', WaysIs (exG 1) ⟨fn, fo, fp⟩ ⟨tn, too, tp⟩ l' e' → l' = l ∧ e' = 0) :
    Calls Try.prog 12 #[.agg #[.slice NA 6 Nc, .slice EA 6 Ec], .agg #[.int .i64 fn, .bool fo, .int .i64 fp], .agg #[.int .i64 tn, .bool too, .int .i64 tp]] w (WaysLit w l) := by
  refine (fways_any NA Nc nodes EA Ec edges 6 6 fn fo fp tn too tp w (Lib.hid (ex_ok G h (by decide) (by decide)))).mono ?_
  rintro e w' ⟨A, c, n, M, z, rfl, h1, h2, h3, h4, _, h6⟩
  rw [h] at h2
  obtain ⟨e1, rfl⟩ := key _ _ h2
  exact ⟨A, c, n, M, rfl, h1, e1, h3, h4, h6⟩
theorem excheck_lit {a c : Int} (G : GmR w ⟨NA, Nc, nodes, EA, Ec, edges⟩) (h : Gm.v ⟨NA, Nc, nodes, EA, Ec, edges⟩ = exG a) (h0 : 0 ≤ a) (h1 : a ≤ 4294967295) (hc : CheckIs (exG a) c) :
    Calls Try.prog 8 #[.agg #[.slice NA 6 Nc, .slice EA 6 Ec]] w fun e w' => e = .returned (.int .u16 c) ∧ Ext w w' := check_lit (ex_ok G h h0 h1) (by rw [h]; exact hc)
end
set_option maxRecDepth 100000 in
set_option maxHeartbeats 4000000 in
theorem known6_any (w : World) : Calls Try.prog 7 #[] w fun e w' => e = .returned (.bool true) ∧ Ext w w' := by
  go_enter Try.func7, Try.ntmps7
  go_upto_region 2 with (first
    | (go_at_call 17; go_loud (refine (graph_any 1 _).mono ?_); rintro e w1 ⟨NA, Nc, nodes, EA, Ec, edges, rfl, gm, gv, x1⟩; have X1 := Lib.hid x1; have HC := Lib.hid (ways_lit gm gv (fun _ _ h => exG1_ways1 h)); clear gm gv x1)
    | (go_at_call 12; go_loud (refine HC.out.mono ?_); rintro e w2 ⟨A1, c1, n1, M1, rfl, a1, a2, a3, a4, x2⟩; have X2 := Lib.hid (X1.out.trans x2); have HN1 := Lib.hid a1; have HM1 := Lib.hid a2; have HS1 := Lib.hid a3; have HR1 := Lib.hid a4; clear a1 a2 a3 a4 x2))
  clear HC
  go_upto_region 3 with (first
    | (go_at_call 17; go_loud (refine (graph_any 1 _).mono ?_); rintro e w3 ⟨NA, Nc, nodes, EA, Ec, edges, rfl, gm, gv, x1⟩; have X3 := Lib.hid x1; have HC := Lib.hid (ways_lit gm gv (fun _ _ h => exG1_ways2 h)); clear gm gv x1)
    | (go_at_call 12; go_loud (refine HC.out.mono ?_); rintro e w4 ⟨A2, c2, n2, M2, rfl, a1, a2, a3, a4, x2⟩; have X4 := Lib.hid (X3.out.trans x2); have HN2 := Lib.hid a1; have HM2 := Lib.hid a2; have HS2 := Lib.hid a3; have HR2 := Lib.hid a4; clear a1 a2 a3 a4 x2))
  clear HC
  go_upto_region 4 with (first
    | (go_at_call 8; have mk := X7; go_loud (refine HC7.out.mono ?_); rintro e w8 ⟨rfl, x8⟩; have X8W4 := Lib.hid (X5.out.trans (X6.out.trans (X7.out.trans x8))); have X8 := Lib.hid (X4.out.trans X8W4.out); clear x8)
    | (go_at_call 17; have mk := X6; go_loud (refine (graph_any 1 _).mono ?_); rintro e w7 ⟨NA, Nc, nodes, EA, Ec, edges, rfl, gm, gv, x1⟩; have X7 := Lib.hid x1; have HC7 := Lib.hid (excheck_lit gm gv (by decide) (by decide) exG1_check); clear gm gv x1)
    | (go_at_call 17; go_loud (refine (graph_any 0 _).mono ?_); rintro e w5 ⟨NA, Nc, nodes, EA, Ec, edges, rfl, gm, gv, x1⟩; have X5 := Lib.hid x1; have HC5 := Lib.hid (excheck_lit gm gv (by decide) (by decide) exG0_check); clear gm gv x1)
    | (go_at_call 8; go_loud (refine HC5.out.mono ?_); rintro e w6 ⟨rfl, x6⟩; have X6 := Lib.hid x6; clear x6))
  clear HC5 HC7
  have one : ∀ (W : World) (v : Way), v.enter = [] → Sl (W.alloc (.cells #[.int .i64 v.leave, .int .u32 v.add, .slice none 0 0] 47)) 3 (some ⟨W.heap.size, 0, none⟩) 1 1 ([(⟨none, 0, v⟩ : Pm)].flatMap pmC) := fun W v hv => by
    have e : [(⟨none, 0, v⟩ : Pm)].flatMap pmC = [.int .i64 v.leave, .int .u32 v.add, .slice none 0 0] := by
      show pmC ⟨none, 0, v⟩ ++ [] = _
      unfold pmC
      rw [hv]; rfl
    rw [e]
    exact Sl.one W #[.int .i64 v.leave, .int .u32 v.add, .slice none 0 0] 47 3 rfl
  have ONE := Lib.hid one
  have P1 : Hid (Calls Try.prog 14 #[.slice A1 n1 c1, .slice (some ⟨w8.heap.size, 0, none⟩) 1 1] (w8.alloc (.cells #[.int .i64 0, .int .u32 0, .slice none 0 0] 47)) fun e w' => e = .returned (.bool true) ∧ Ext (w8.alloc (.cells #[.int .i64 0, .int .u32 0, .slice none 0 0] 47)) w') := Lib.hid (by
    have x9 : Ext w2 (w8.alloc (.cells #[.int .i64 0, .int .u32 0, .slice none 0 0] 47)) := X8.out.alloc _
    exact samePaths_yes A1 _ n1 1 c1 1 M1 [⟨none, 0, idW⟩] _ HN1 (Lib.hid rfl) (Lib.hid (HS1.out.ext x9)) (Lib.hid (one w8 idW rfl)) (Lib.hid (fun x hx => (HR1.out x hx).ext x9)) (Lib.hid (fun x hx => by simp only [List.mem_cons, List.not_mem_nil, or_false] at hx; subst hx; exact Sl.nil _ _)) (Lib.hid (by rw [HM1.out]; rfl)))
  clear one
  go_wp2_with (first
    | (go_at_call 14; have mk := X10; have x11 : Ext w4 (w10.alloc (.cells #[.int .i64 0, .int .u32 1, .slice none 0 0] 47)) := (X10.out.alloc _); go_loud (refine (samePaths_yes A2 _ n2 1 c2 1 M2 [⟨none, 0, ⟨0, 1, []⟩⟩] _ HN2 (Lib.hid rfl) (Lib.hid (HS2.out.ext x11)) (Lib.hid (ONE.out w10 ⟨0, 1, []⟩ rfl)) (Lib.hid (fun x hx => (HR2.out x hx).ext x11)) (Lib.hid (fun x hx => by simp only [List.mem_cons, List.not_mem_nil, or_false] at hx; subst hx; exact Sl.nil _ _)) (Lib.hid (by rw [HM2.out]; rfl))).mono ?_); rintro e w12 ⟨rfl, x12⟩; have X12 := Lib.hid (X4.out.trans (x11.trans x12)); clear x12 x11)
    | (go_at_call 14; go_loud (refine P1.out.mono ?_); rintro e w10 ⟨rfl, x10⟩; have X10 := Lib.hid (X8W4.out.trans ((Ext.refl w8).alloc (.cells #[.int .i64 0, .int .u32 0, .slice none 0 0] 47) |>.trans x10)); clear x10))
  go_ret
  exact ⟨rfl, X2.out.trans X12.out⟩
end Go.Proofs.Yteklohamkmiphaa
namespace Go.Proofs.Yteklohamkmiphaa
open Go.RowKit

set_option maxRecDepth 100000 in
set_option maxHeartbeats 4000000 in
theorem order6_any (NA : Option Addr) (Nc : Nat) (nodes : List Nm) (EA : Option Addr) (Ec : Nat) (edges : List (Pt × Pt)) (nl el t tw : Nat) (fn : Int) (fo : Bool) (fp tn : Int) (too : Bool) (tp : Int) (w : World) (hl : Hid (nl = nodes.length)) (he : Hid (el = edges.length)) (hG : Hid (GmR w ⟨NA, Nc, nodes, EA, Ec, edges⟩)) (hI : Hid (GIn ⟨NA, Nc, nodes, EA, Ec, edges⟩)) (hB : Hid (GmB ⟨NA, Nc, nodes, EA, Ec, edges⟩)) (ht : t ≤ 255) (htw : tw ≤ 255) :
    Calls Try.prog 4 #[.agg #[.slice NA nl Nc, .slice EA el Ec], .int .u8 t, .int .u8 tw, .agg #[.int .i64 fn, .bool fo, .int .i64 fp], .agg #[.int .i64 tn, .bool too, .int .i64 tp]] w fun e w' => e = .returned (.bool true) ∧ Ext w w' := by
  obtain ⟨w0, hw0⟩ : ∃ w0, w0 = ((w.alloc (.cells #[.slice NA nl Nc, .slice EA el Ec] 25)).alloc (.cells #[.int .i64 fn, .bool fo, .int .i64 fp] 27)).alloc (.cells #[.int .i64 tn, .bool too, .int .i64 tp] 27) := ⟨_, rfl⟩
  obtain ⟨b, hb⟩ : ∃ b, b = w.heap.size := ⟨_, rfl⟩
  have X0 : Hid (Ext w w0) := Lib.hid (by rw [hw0]; exact (((Ext.refl w).alloc _).alloc _).alloc _)
  have BG : Hid (Bk w0 b 25 #[.slice NA nl Nc, .slice EA el Ec]) := Lib.hid (by rw [hw0, hb]; exact ((Bk.new _ _ _).alloc _).alloc _)
  have BF : Hid (Bk w0 (b + 1) 27 #[.int .i64 fn, .bool fo, .int .i64 fp]) := Lib.hid (by rw [hw0, hb]; exact (Bk.at (by simp)).alloc _)
  have BT : Hid (Bk w0 (b + 1 + 1) 27 #[.int .i64 tn, .bool too, .int .i64 tp]) := Lib.hid (by rw [hw0, hb]; exact Bk.at (by simp))
  have g0 := BG.out.cell 0
  have g1 := BG.out.cell 1
  have HM := Lib.hid (much6_any NA Nc nodes EA Ec edges nl el w0 hl he (Lib.hid (hG.out.ext X0.out)) hB)
  go_enter Try.func4, Try.ntmps4
  go_upto_region 1 with fail
  rw [← hw0, ← hb]
  clear hw0 hb
  go_wp2_with (first
    | (go_at_call 6; go_loud (refine HM.out.mono ?_); rintro e w1 ⟨bb, rfl, hsm, x1⟩; have X1 := Lib.hid x1; have HSM := Lib.hid hsm; clear x1 hsm)
    | (go_at_call 7; go_loud (refine (known6_any _).mono ?_); rintro e w2 ⟨rfl, x2⟩; have X2 := Lib.hid (X1.out.trans x2); have XW := Lib.hid (X2.out.alloc (.cells #[.slice none 0 0, .slice none 0 0] 25)); have c1 := (BG.out.ext XW.out).cell 1; clear x2))
  · go_ret
    exact ⟨rfl, X0.out.trans X2.out⟩
  have hbb : bb = false := Bool.eq_false_iff.2 (by assumption)
  have hw60 : wtG nodes edges ≤ 60 := HSM.out hbb
  have HW60 := Lib.hid hw60
  clear hbb HSM hw60
  obtain ⟨w3, hw3⟩ : ∃ x, x = w2.alloc (.cells #[.slice none 0 0, .slice none 0 0] 25) := ⟨_, rfl⟩
  obtain ⟨hb, hhb⟩ : ∃ x, x = w2.heap.size := ⟨_, rfl⟩
  have GB0 : Hid (GrB w.heap.size w2 w3 hb none 0 [] none 0 []) := Lib.hid ⟨(X0.out.trans X2.out).size, by rw [hw3, hhb]; exact Bk.new _ _ _, by omega, Own.nil _ _ _ _, Own.nil _ _ _ _, fun x hx => (nomatch hx), by rw [hw3]; exact (Ext.refl _).alloc _⟩
  rw [← hw3] at XW c1 ⊢
  rw [← hhb]
  clear hw3 hhb
  have hsz : nl ≤ 60 ∧ el ≤ 60 := by have := HW60.out; unfold wtG at this; have := hl.out; have := he.out; omega
  obtain ⟨hnl, hel⟩ := hsz
  have hg3 := GB0.out.bk.cell 1
  have E33 := Lib.hid (Ext.refl w3)
  go_loopg [13] el (fun z v wr => ∃ (i Fc : Nat) (FA : Option Addr), v = .int .i64 i ∧ i ≤ el ∧ z = el - i ∧ Hid (GrB w.heap.size w2 wr hb none 0 [] FA Fc (rot edges t i)))
  case atStart => exact ⟨0, 0, none, rfl, Nat.zero_le _, rfl, GB0⟩
  case round =>
    clear GB0 hg3
    obtain ⟨i, Fc, FA, rfl, hi, rfl, HG⟩ := hrel
    by_cases hlt : i < el
    · have hlz : (i : Int) < (el : Int) := by omega
      have hq : (i + t) % el < edges.length := by rw [← he.out]; exact Nat.mod_lt _ (by omega)
      have XR : Hid (Ext w wr) := Lib.hid (X0.out.trans (X2.out.trans HG.out.ex))
      obtain ⟨ad, hEA, h0, h1, h2, h3, h4, h5⟩ := (hG.out.ext XR.out).eat hq
      simp only at hEA
      subst hEA
      have hrs := rot_succ edges t i
      rw [← he.out] at hrs
      obtain ⟨⟨⟨en, eo, ep⟩, ⟨dn, d_, dp⟩⟩, hee⟩ : ∃ e, edges.getD ((i + t) % el) edZ = e := ⟨_, rfl⟩
      simp only at h0 h1 h2 h3 h4 h5
      rw [hee] at h0 h1 h2 h3 h4 h5 hrs
      simp only at h0 h1 h2 h3 h4 h5
      obtain ⟨q, hqq⟩ : ∃ q, (i + t) % el = q := ⟨_, rfl⟩
      rw [hqq] at h0 h1 h2 h3 h4 h5 hq
      have hqel : (q : Int) < (el : Int) := by rw [← he.out] at hq; omega
      have hr1 : Int.tmod ((i : Int) + (t : Int)) (el : Int) = (q : Int) := by rw [← hqq]; exact IntWalk.up_tmod rfl rfl
      have hr2 : ((i : Int) + (t : Int)) % (el : Int) = (q : Int) := by rw [← hqq]; rfl
      have bgd := BG.out.ext (X2.out.trans HG.out.ex)
      have bk := HG.out.bk
      rw [rot_len] at bk
      have xd : Ext wr wr.drew := (Ext.refl wr).drew
      have P0 : ∀ y : Zt Ext wr.drew, y.W.cell? (ad.add (q * 6)) = some (.int .i64 en) := fun y => (xd.trans y.x).cell h0
      have P1 : ∀ y : Zt Ext wr.drew, y.W.cell? ⟨(ad.add (q * 6)).block, (ad.add (q * 6)).off + 1, none⟩ = some (.bool eo) := fun y => (xd.trans y.x).cell h1
      have P2 : ∀ y : Zt Ext wr.drew, y.W.cell? ⟨(ad.add (q * 6)).block, (ad.add (q * 6)).off + 2, none⟩ = some (.int .i64 ep) := fun y => (xd.trans y.x).cell h2
      have P3 : ∀ y : Zt Ext wr.drew, y.W.cell? ⟨(ad.add (q * 6)).block, (ad.add (q * 6)).off + 3, none⟩ = some (.int .i64 dn) := fun y => (xd.trans y.x).cell h3
      have P4 : ∀ y : Zt Ext wr.drew, y.W.cell? ⟨(ad.add (q * 6)).block, (ad.add (q * 6)).off + 4, none⟩ = some (.bool d_) := fun y => (xd.trans y.x).cell h4
      have P5 : ∀ y : Zt Ext wr.drew, y.W.cell? ⟨(ad.add (q * 6)).block, (ad.add (q * 6)).off + 5, none⟩ = some (.int .i64 dp) := fun y => (xd.trans y.x).cell h5
      have B1 : ∀ y : Zt Ext wr.drew, y.W.cell? ⟨b, 1, none⟩ = some (.slice (some ad) el Ec) := fun y => (bgd.ext (xd.trans y.x)).cell 1
      have B2 : ∀ y : Zt Ext wr.drew, y.W.cell? ⟨hb, 1, none⟩ = some (.slice FA i Fc) := fun y => (bk.ext (xd.trans y.x)).cell 1
      have HRS := Lib.hid hrs
      clear h0 h1 h2 h3 h4 h5 hee hrs hq bk bgd
      go_upto_region 8 with fail
      refine wp_region_ordS (R := Ext) [0,1,0,4,0,0,32,112,0,496,1020,2044,4092,8191,16383,32767] (.flo [0,1,2,3,4,5,6,7,8,9,10,11] (.ext 12 (.one 13 (.flo [14] (.one 15 (.fin)))))) (by kernel_rfl) (by kernel_rfl) (by intro _ _ d _ _ h; cases d <;> exact h) ?_
      (refine ord_floS (pick_cons rfl (pick_cons rfl (pick_cons rfl (pick_cons rfl (pick_cons rfl (pick_cons rfl (pick_cons rfl (pick_cons rfl (pick_cons rfl (pick_cons rfl (pick_cons rfl (pick_cons rfl pick_nil)))))))))))) ?_; (repeat (go_big_quiet_step (fail))); refine wpQuiet_nil ?_; show ordWalkS _ _ _ _ _ _ _ _)
      refine ord_extS (pick_cons rfl pick_nil) ?_; intro K_ hK_
      clear P0 P1 P2 P3 P4 P5 B1 B2
      go_wp2
      refine ordNextS.mk ((Ext.refl _).alloc _) ?_
      obtain ⟨wE, hwE⟩ : ∃ x, x = (wr.alloc (.cells #[.int .i64 en, .bool eo, .int .i64 ep, .int .i64 dn, .bool d_, .int .i64 dp] 44)).drew := ⟨_, rfl⟩
      have xE : Ext wr wE := by rw [hwE]; exact ((Ext.refl _).alloc _).drew
      have GE := Lib.hid (HG.out.ext xE)
      have XE := Lib.hid xE
      have HOE : Hid (Own wE w2.heap.size 44 6 FA i Fc ((rot edges t i).flatMap edC)) := Lib.hid (by have q := GE.out.eo; rwa [rot_len] at q)
      have SE : Hid (Sl wE 6 (some ⟨wr.heap.size, 0, none⟩) 1 1 [.int .i64 en, .bool eo, .int .i64 ep, .int .i64 dn, .bool d_, .int .i64 dp]) := Lib.hid (by rw [hwE]; exact (Sl.one wr #[.int .i64 en, .bool eo, .int .i64 ep, .int .i64 dn, .bool d_, .int .i64 dp] 44 6 rfl).ext (Ext.refl _).drew)
      have hbE : w2.heap.size ≤ wE.heap.size := GE.out.ex.size
      rw [← hwE]
      clear hwE xE xd
      refine ord_oneS (pick_cons rfl pick_nil) ?_; intro K_ hK_
      go_wp2_with (at_builtin; go_loud (refine wpList_append_two _ elem_ed w2.heap.size _ _ rfl rfl FA i Fc ((rot edges t i).flatMap edC) rfl HOE.out (some ⟨wr.heap.size, 0, none⟩) 1 1 [.int .i64 en, .bool eo, .int .i64 ep, .int .i64 dn, .bool d_, .int .i64 dp] rfl SE.out (by intro u hu; simp only [List.mem_cons, List.not_mem_nil, or_false] at hu; rcases hu with rfl | rfl | rfl | rfl | rfl | rfl <;> rfl) (by omega) (by decide) hbE ?_); intro A5 c5 w5 o5 g5 x5; have BK := GE.out.bk.grown g5 GE.out.eG; have k0 := BK.cell 1; have f0 := BK.free 1; have O5 := Lib.hid o5; have X5 := Lib.hid g5; clear o5 g5 x5 BK)
      go_simp
      (refine ord_floS (pick_cons rfl pick_nil) ?_; (repeat (go_big_quiet_step (fail))); refine wpQuiet_nil ?_; show ordWalkS _ _ _ _ _ _ _ _)
      refine ord_oneS (pick_cons rfl pick_nil) ?_; intro K_ hK_
      go_wp2
      refine ord_finS ?_
      clear k0 f0
      have HG5 := Lib.hid (GE.out.pushE (xs := [(⟨en, eo, ep⟩, ⟨dn, d_, dp⟩)]) X5.out (by rw [rot_len]; rfl) O5.out)
      rw [← HRS.out] at HG5
      clear hr1 hr2 hqel hqq
      go_wp2
      go_roundg (el - (i + 1))
      case measure => omega
      case rel => exact ⟨i + 1, c5, A5, by go_num, by omega, rfl, HG5⟩
    · obtain rfl : el = i := by omega
      clear hlt hi
      go_upto_if 54 with fail
      go_cut [] (fun wx => Hid (∃ Fc FA es, es = turnE edges t tw ∧ GrB w.heap.size w2 wx hb none 0 [] FA Fc es))
      case first =>
        by_cases he0 : el = 0
        · have hz : ¬ (0 : Int) < (el : Int) := by omega
          have HE0 : Hid (GrB w.heap.size w2 wr hb none 0 [] FA Fc (turnE edges t tw)) := Lib.hid (by
            have q := HG.out
            have e1 : turnE edges t tw = rot edges t el := by unfold turnE; rw [← he.out, if_pos he0, he0]; rfl
            rw [e1]; exact q)
          clear he0
          go_wp2
          go_meet
          case rel => exact Lib.hid ⟨Fc, FA, _, rfl, HE0.out⟩
        · have hz : (0 : Int) < (el : Int) := by omega
          have hq : (tw) % el < edges.length := by rw [← he.out]; exact Nat.mod_lt _ (by omega)
          have XR : Hid (Ext w wr) := Lib.hid (X0.out.trans (X2.out.trans HG.out.ex))
          obtain ⟨ad, hEA, h0, h1, h2, h3, h4, h5⟩ := (hG.out.ext XR.out).eat hq
          simp only at hEA
          subst hEA
          have hrs : turnE edges t tw = rot edges t el ++ [edges.getD (tw % el) edZ] := by unfold turnE; rw [← he.out, if_neg he0]
          obtain ⟨⟨⟨en, eo, ep⟩, ⟨dn, d_, dp⟩⟩, hee⟩ : ∃ e, edges.getD ((tw) % el) edZ = e := ⟨_, rfl⟩
          simp only at h0 h1 h2 h3 h4 h5
          rw [hee] at h0 h1 h2 h3 h4 h5 hrs
          simp only at h0 h1 h2 h3 h4 h5
          obtain ⟨q, hqq⟩ : ∃ q, (tw) % el = q := ⟨_, rfl⟩
          rw [hqq] at h0 h1 h2 h3 h4 h5 hq
          have hqel : (q : Int) < (el : Int) := by rw [← he.out] at hq; omega
          have hr1 : Int.tmod (tw : Int) (el : Int) = (q : Int) := by rw [← hqq]; exact IntWalk.up_tmod rfl rfl
          have hr2 : (tw : Int) % (el : Int) = (q : Int) := by rw [← hqq]; rfl
          have bgd := BG.out.ext (X2.out.trans HG.out.ex)
          have bk := HG.out.bk
          rw [rot_len] at bk
          have xd : Ext wr wr.drew := (Ext.refl wr).drew
          have P0 : ∀ y : Zt Ext wr.drew, y.W.cell? (ad.add (q * 6)) = some (.int .i64 en) := fun y => (xd.trans y.x).cell h0
          have P1 : ∀ y : Zt Ext wr.drew, y.W.cell? ⟨(ad.add (q * 6)).block, (ad.add (q * 6)).off + 1, none⟩ = some (.bool eo) := fun y => (xd.trans y.x).cell h1
          have P2 : ∀ y : Zt Ext wr.drew, y.W.cell? ⟨(ad.add (q * 6)).block, (ad.add (q * 6)).off + 2, none⟩ = some (.int .i64 ep) := fun y => (xd.trans y.x).cell h2
          have P3 : ∀ y : Zt Ext wr.drew, y.W.cell? ⟨(ad.add (q * 6)).block, (ad.add (q * 6)).off + 3, none⟩ = some (.int .i64 dn) := fun y => (xd.trans y.x).cell h3
          have P4 : ∀ y : Zt Ext wr.drew, y.W.cell? ⟨(ad.add (q * 6)).block, (ad.add (q * 6)).off + 4, none⟩ = some (.bool d_) := fun y => (xd.trans y.x).cell h4
          have P5 : ∀ y : Zt Ext wr.drew, y.W.cell? ⟨(ad.add (q * 6)).block, (ad.add (q * 6)).off + 5, none⟩ = some (.int .i64 dp) := fun y => (xd.trans y.x).cell h5
          have B1 : ∀ y : Zt Ext wr.drew, y.W.cell? ⟨b, 1, none⟩ = some (.slice (some ad) el Ec) := fun y => (bgd.ext (xd.trans y.x)).cell 1
          have B2 : ∀ y : Zt Ext wr.drew, y.W.cell? ⟨hb, 1, none⟩ = some (.slice FA el Fc) := fun y => (bk.ext (xd.trans y.x)).cell 1
          have HRS := Lib.hid hrs
          clear h0 h1 h2 h3 h4 h5 hee hrs hq bk bgd
          go_upto_region 10 with fail
          refine wp_region_ordS (R := Ext) [0,1,0,4,0,16,0,112,252,508,1020,2047,4095,8191] (.flo [0,1,2,3,4,5,6,7,8,9] (.ext 10 (.one 11 (.flo [12] (.one 13 (.fin)))))) (by kernel_rfl) (by kernel_rfl) (by intro _ _ d _ _ h; cases d <;> exact h) ?_
          (refine ord_floS (pick_cons rfl (pick_cons rfl (pick_cons rfl (pick_cons rfl (pick_cons rfl (pick_cons rfl (pick_cons rfl (pick_cons rfl (pick_cons rfl (pick_cons rfl pick_nil)))))))))) ?_; (repeat (go_big_quiet_step (fail))); refine wpQuiet_nil ?_; show ordWalkS _ _ _ _ _ _ _ _)
          refine ord_extS (pick_cons rfl pick_nil) ?_; intro K_ hK_
          clear P0 P1 P2 P3 P4 P5 B1 B2
          go_wp2
          refine ordNextS.mk ((Ext.refl _).alloc _) ?_
          obtain ⟨wE, hwE⟩ : ∃ x, x = (wr.alloc (.cells #[.int .i64 en, .bool eo, .int .i64 ep, .int .i64 dn, .bool d_, .int .i64 dp] 44)).drew := ⟨_, rfl⟩
          have xE : Ext wr wE := by rw [hwE]; exact ((Ext.refl _).alloc _).drew
          have GE := Lib.hid (HG.out.ext xE)
          have XE := Lib.hid xE
          have HOE : Hid (Own wE w2.heap.size 44 6 FA el Fc ((rot edges t el).flatMap edC)) := Lib.hid (by have q := GE.out.eo; rwa [rot_len] at q)
          have SE : Hid (Sl wE 6 (some ⟨wr.heap.size, 0, none⟩) 1 1 [.int .i64 en, .bool eo, .int .i64 ep, .int .i64 dn, .bool d_, .int .i64 dp]) := Lib.hid (by rw [hwE]; exact (Sl.one wr #[.int .i64 en, .bool eo, .int .i64 ep, .int .i64 dn, .bool d_, .int .i64 dp] 44 6 rfl).ext (Ext.refl _).drew)
          have hbE : w2.heap.size ≤ wE.heap.size := GE.out.ex.size
          rw [← hwE]
          clear hwE xE xd
          refine ord_oneS (pick_cons rfl pick_nil) ?_; intro K_ hK_
          go_wp2_with (at_builtin; go_loud (refine wpList_append_two _ elem_ed w2.heap.size _ _ rfl rfl FA el Fc ((rot edges t el).flatMap edC) rfl HOE.out (some ⟨wr.heap.size, 0, none⟩) 1 1 [.int .i64 en, .bool eo, .int .i64 ep, .int .i64 dn, .bool d_, .int .i64 dp] rfl SE.out (by intro u hu; simp only [List.mem_cons, List.not_mem_nil, or_false] at hu; rcases hu with rfl | rfl | rfl | rfl | rfl | rfl <;> rfl) (by omega) (by decide) hbE ?_); intro A5 c5 w5 o5 g5 x5; have BK := GE.out.bk.grown g5 GE.out.eG; have k0 := BK.cell 1; have f0 := BK.free 1; have O5 := Lib.hid o5; have X5 := Lib.hid g5; clear o5 g5 x5 BK)
          go_simp
          (refine ord_floS (pick_cons rfl pick_nil) ?_; (repeat (go_big_quiet_step (fail))); refine wpQuiet_nil ?_; show ordWalkS _ _ _ _ _ _ _ _)
          refine ord_oneS (pick_cons rfl pick_nil) ?_; intro K_ hK_
          go_wp2
          refine ord_finS ?_
          clear k0 f0
          have HG5 := Lib.hid (GE.out.pushE (xs := [(⟨en, eo, ep⟩, ⟨dn, d_, dp⟩)]) X5.out (by rw [rot_len]; rfl) O5.out)
          rw [← HRS.out] at HG5
          clear hr1 hr2 hqel hqq
          go_wp2
          go_meet
          case rel => exact Lib.hid ⟨c5, A5, _, rfl, HG5.out⟩
      case rest =>
        clear HG
        obtain ⟨Fc, FA, es, hes, hg⟩ := hcut.out
        have HES := Lib.hid hes
        have GB1 := Lib.hid hg
        have c0 := (BG.out.ext (X2.out.trans hg.ex)).cell 0
        clear hcut hes hg c1
        go_wp2
        go_loopg [14, 15, 16, 17] nl (fun z v _ _ _ wr => ∃ (i Hc : Nat) (HA : Option Addr) (hn : List Nm), v = .int .i64 i ∧ i ≤ nl ∧ z = nl - i ∧ Hid (hn.map Nm.v = (nodes.take i).map fun x => revN x.v) ∧ Hid (GrB w.heap.size w2 wr hb HA Hc hn FA Fc es))
        case atStart => exact ⟨0, 0, none, [], rfl, Nat.zero_le _, rfl, Lib.hid rfl, GB1⟩
        case round =>
          clear GB1 c0
          obtain ⟨i, Hc, HA, hn, rfl, hi, rfl, HV, HG⟩ := hrel
          obtain ⟨wo, hwo⟩ : ∃ wo : World, wo = wr := ⟨_, rfl⟩
          rw [← hwo] at HG ⊢
          clear hwo
          have c0 := (BG.out.ext (X2.out.trans HG.out.ex)).cell 0
          by_cases hlt : i < nl
          · have hil : i < nodes.length := by rw [← hl.out]; exact hlt
            have hltz : (i : Int) < (nl : Int) := by omega
            have XR : Hid (Ext w wo) := Lib.hid (X0.out.trans (X2.out.trans HG.out.ex))
            obtain ⟨ad, hNA, h0, h1, h2, h3⟩ := (hG.out.ext XR.out).nat hil
            simp only at hNA
            subst hNA
            have hnm := getD_mem' Nm.zero hil
            have htk := takeE Nm.zero hil
            have hNR := hG.out.nd _ hnm
            have hw1 := sum_mem wtN hnm
            obtain ⟨⟨nin, nou, nde, iA, ic, inner⟩, hnn2⟩ : ∃ e, nodes.getD i Nm.zero = e := ⟨_, rfl⟩
            simp only at h0 h1 h2 h3 hNR
            rw [hnn2] at h0 h1 h2 h3 htk hNR hw1
            simp only at h0 h1 h2 h3
            obtain ⟨ni, hni⟩ : ∃ n, n = inner.length := ⟨_, rfl⟩
            rw [← hni] at h3
            have hni60 : ni ≤ 60 := by
              have e1 : wtN ⟨nin, nou, nde, iA, ic, inner⟩ = inner.length + (inner.map wtP).sum := rfl
              have := HW60.out
              unfold wtG at this
              omega
            have HNR := Lib.hid hNR
            have HNI := Lib.hid hni
            have HTK := Lib.hid htk
            obtain ⟨wX, hwX⟩ : ∃ x, x = wo.alloc (.cells #[.int .i64 nin, .int .i64 nou, .int .i64 nde, .slice iA ni ic] 50) := ⟨_, rfl⟩
            obtain ⟨xb, hxb⟩ : ∃ x, x = wo.heap.size := ⟨_, rfl⟩
            have BX : Hid (Bk wX xb 50 #[.int .i64 nin, .int .i64 nou, .int .i64 nde, .slice iA ni ic]) := Lib.hid (by rw [hwX, hxb]; exact Bk.new _ _ _)
            have EX : Hid (Ext wo wX) := Lib.hid (by rw [hwX]; exact (Ext.refl _).alloc _)
            have hxlt : xb < wX.heap.size := BX.out.lt
            have HXB := Lib.hid hxb
            have b3 := BX.out.cell 3
            have EXX := Lib.hid (Ext.refl wX)
            have O0 := Lib.hid (Own.nil wX wX.heap.size 52 5)
            have HWX := Lib.hid hwX
            rw [hwX, hxb] at b3
            clear hnm htk hNR hnn2 hni hil hw1 hwX hxb
            go_wp2
            rw [← HWX.out, ← HXB.out]
            clear b3 h0 h1 h2 h3 c0
            go_loopg [16, 17] ni (fun z v16 v17 wq => ∃ (j c : Nat) (A : Option Addr), v16 = .slice A j c ∧ v17 = .int .i64 ((ni : Int) - 1 - (j : Int)) ∧ j ≤ ni ∧ z = ni - j ∧ Hid (Own wq wX.heap.size 52 5 A j c ((inner.drop (ni - j)).reverse.flatMap imC)) ∧ Hid (Ext wX wq))
            case atStart => exact ⟨0, 0, none, rfl, by simp, Nat.zero_le _, rfl, by rw [HNI.out, Nat.sub_zero, List.drop_length]; exact O0, EXX⟩
            case round =>
              clear O0 EXX
              obtain ⟨j, c, A, rfl, rfl, hj, rfl, HO, HE⟩ := hrel
              by_cases hjl : j < ni
              · obtain ⟨kk, hkk⟩ : ∃ kk : Nat, (ni : Int) - 1 - (j : Int) = kk := ⟨ni - 1 - j, by omega⟩
                have hkz : (0 : Int) ≤ (kk : Int) := by omega
                have hkn : (kk : Int) < (ni : Int) := by omega
                have hkL : kk < inner.length := by rw [← HNI.out]; omega
                obtain ⟨a2, ha2, g0, g1, g2, g3, g4⟩ := (HNR.out.ext (XR.out.trans (EX.out.trans HE.out))).at hkL
                simp only at ha2
                subst ha2
                have htk : (inner.drop (ni - (j + 1))).reverse = (inner.drop (ni - j)).reverse ++ [inner.getD kk Im.zero] := by
                  have e1 : ni - (j + 1) = kk := by omega
                  have e2 : ni - j = kk + 1 := by omega
                  rw [e1, e2, List.drop_eq_getElem_cons hkL, List.reverse_cons, List.getD_eq_getElem?_getD, List.getElem?_eq_getElem hkL]
                  rfl
                simp only at g0 g1 g2 g3 g4
                obtain ⟨⟨xi, xo, ⟨pA, pc, ⟨pl_, pa, pe⟩⟩⟩, hx⟩ : ∃ e, inner.getD kk Im.zero = e := ⟨_, rfl⟩
                rw [hx] at g0 g1 g2 g3 g4 htk
                simp only at g0 g1 g2 g3 g4
                obtain ⟨np, hnp⟩ : ∃ n, n = pe.length := ⟨_, rfl⟩
                rw [← hnp] at g4
                have b3 := (BX.out.ext HE.out).cell 3
                have SI : Hid (Sl (wr.alloc (.cells #[.int .i64 xi, .int .i64 xo, .int .i64 pl_, .int .u32 pa, .slice pA np pc] 52)) 5 (some ⟨wr.heap.size, 0, none⟩) 1 1 [.int .i64 xi, .int .i64 xo, .int .i64 pl_, .int .u32 pa, .slice pA np pc]) := Lib.hid (Sl.one wr #[.int .i64 xi, .int .i64 xo, .int .i64 pl_, .int .u32 pa, .slice pA np pc] 52 5 rfl)
                have HO1 : Hid (Own (wr.alloc (.cells #[.int .i64 xi, .int .i64 xo, .int .i64 pl_, .int .u32 pa, .slice pA np pc] 52)) wX.heap.size 52 5 A j c ((inner.drop (ni - j)).reverse.flatMap imC)) := Lib.hid (HO.out.alloc _)
                have hb1 : wX.heap.size ≤ (wr.alloc (.cells #[.int .i64 xi, .int .i64 xo, .int .i64 pl_, .int .u32 pa, .slice pA np pc] 52)).heap.size := (HE.out.alloc _).size
                have HKK := Lib.hid hkk
                have HTK2 := Lib.hid htk
                have HNP := Lib.hid hnp
                rw [hkk]
                clear hkk htk hnp hx hkL
                go_wp2_with (at_builtin; go_loud (refine wpList_append_two _ elem_im wX.heap.size _ _ rfl rfl A j c ((inner.drop (ni - j)).reverse.flatMap imC) rfl HO1.out (some ⟨wr.heap.size, 0, none⟩) 1 1 [.int .i64 xi, .int .i64 xo, .int .i64 pl_, .int .u32 pa, .slice pA np pc] rfl SI.out (by intro u hu; simp only [List.mem_cons, List.not_mem_nil, or_false] at hu; rcases hu with rfl | rfl | rfl | rfl | rfl <;> rfl) (by omega) (by decide) hb1 ?_); intro A3 c3 w4 o4 g4_ x4; have O4 := Lib.hid o4; have X4 : Hid (Ext wX w4) := Lib.hid ((HE.out.alloc _).grown g4_ (fun k hk => (HO.out.lt k hk).1)); clear o4 g4_ x4)
                go_roundg (ni - (j + 1))
                case measure => omega
                case rel =>
                  refine ⟨j + 1, c3, A3, rfl, ?_, by omega, rfl, Lib.hid ?_, X4⟩
                  · have := HKK.out
                    go_num
                  · have q := O4.out
                    rw [HNP.out] at q
                    rw [HTK2.out, List.flatMap_append, List.flatMap_singleton]
                    exact q
              · obtain rfl : ni = j := by omega
                have hz1 : (ni : Int) - 1 - (ni : Int) = -1 := by omega
                have b3 := (BX.out.ext HE.out).cell 3
                have f3 := (BX.out.ext HE.out).free 3
                rw [hz1]
                clear hz1 hjl hj
                go_upto_region 21 with fail
                clear b3 f3
                obtain ⟨wS, hwS⟩ : ∃ x, x = wr.setCell ⟨xb, 3, none⟩ (.slice A ni c) := ⟨_, rfl⟩
                have BS : Bk wS xb 50 #[.int .i64 nin, .int .i64 nou, .int .i64 nde, .slice A ni c] := by rw [hwS]; exact (BX.out.ext HE.out).set 3 _
                have XS : Ext wo wS := by rw [hwS]; exact (EX.out.trans HE.out).set (by rw [HXB.out]; exact Nat.le_refl _) _
                have OS : Own wS wX.heap.size 52 5 A ni c (inner.reverse.flatMap imC) := by
                  rw [hwS]
                  have q := HO.out.far (p := ⟨xb, 3, none⟩) (HO.out.ne hxlt) (.slice A ni c)
                  rw [Nat.sub_self, List.drop_zero] at q
                  exact q
                have GS := HG.out.ext XS
                rw [← hwS]
                have s0 := BS.cell 0
                have s1 := BS.cell 1
                have s2 := BS.cell 2
                have s3 := BS.cell 3
                have k0 := GS.bk.cell 0
                obtain ⟨m, hm⟩ : ∃ m, m = hn.length := ⟨_, rfl⟩
                rw [← hm] at k0
                have hm60 : m ≤ 60 := by
                  have q := congrArg List.length HV.out
                  rw [List.length_map, List.length_map, List.length_take] at q
                  omega
                have EN : Ext wS (wS.alloc (.cells #[.int .i64 nin, .int .i64 nou, .int .i64 nde, .slice A ni c] 50)) := (Ext.refl _).alloc _
                have GN := Lib.hid (GS.ext EN)
                have hlr : inner.reverse.length = ni := by rw [List.length_reverse, HNI.out]
                have SN : Hid (SafeN w.heap.size (wS.alloc (.cells #[.int .i64 nin, .int .i64 nou, .int .i64 nde, .slice A ni c] 50)) ⟨nin, nou, nde, A, c, inner.reverse⟩) := Lib.hid ⟨SafeS.own (by show Own _ wX.heap.size _ _ A inner.reverse.length c _; rw [hlr]; exact OS.ext EN) (.inl rfl), fun y hy => SafeS.old (HNR.out.ls y (List.mem_reverse.1 hy)) (by decide) (XR.out.trans (XS.trans EN))⟩
                have SE : Hid (Sl (wS.alloc (.cells #[.int .i64 nin, .int .i64 nou, .int .i64 nde, .slice A ni c] 50)) 4 (some ⟨wS.heap.size, 0, none⟩) 1 1 [.int .i64 nin, .int .i64 nou, .int .i64 nde, .slice A ni c]) := Lib.hid (Sl.one wS #[.int .i64 nin, .int .i64 nou, .int .i64 nde, .slice A ni c] 50 4 rfl)
                have HON : Hid (Own (wS.alloc (.cells #[.int .i64 nin, .int .i64 nou, .int .i64 nde, .slice A ni c] 50)) w2.heap.size 50 4 HA m Hc (hn.flatMap nmC)) := Lib.hid (by rw [hm]; exact GN.out.no)
                have hbN : w2.heap.size ≤ (wS.alloc (.cells #[.int .i64 nin, .int .i64 nou, .int .i64 nde, .slice A ni c] 50)).heap.size := GN.out.ex.size
                have HMM := Lib.hid hm
                have HLR := Lib.hid hlr
                clear BS XS OS GS EN hwS hm hlr
                go_wp2_with (at_builtin; go_loud (refine wpList_append_two _ elem_nm w2.heap.size _ _ rfl rfl HA m Hc (hn.flatMap nmC) rfl HON.out (some ⟨wS.heap.size, 0, none⟩) 1 1 [.int .i64 nin, .int .i64 nou, .int .i64 nde, .slice A ni c] rfl SE.out (by intro u hu; simp only [List.mem_cons, List.not_mem_nil, or_false] at hu; rcases hu with rfl | rfl | rfl | rfl <;> rfl) (by omega) (by decide) hbN ?_); intro A5 c5 w5 o5 g5 x5; have BK := GN.out.bk.grown g5 GN.out.nG; have k5 := BK.cell 0; have f5 := BK.free 0; have O5 := Lib.hid o5; have X5 := Lib.hid g5; clear o5 g5 x5 BK)
                clear s0 s1 s2 s3 k0 k5 f5
                have HG5 := Lib.hid (GN.out.pushN (xs := [⟨nin, nou, nde, A, c, inner.reverse⟩]) (fun x hx => by simp only [List.mem_cons, List.not_mem_nil, or_false] at hx; subst hx; exact SN.out) X5.out (m := m + 1) (by rw [HMM.out]; rfl) (by rw [List.flatMap_singleton]; show Own _ _ _ _ _ _ _ (_ ++ [Value.int .i64 nin, .int .i64 nou, .int .i64 nde, .slice A inner.reverse.length c]); rw [HLR.out]; exact O5.out))
                go_roundg (nl - (i + 1))
                case measure => omega
                case rel =>
                  refine ⟨i + 1, c5, A5, _, by go_num, by omega, rfl, Lib.hid ?_, HG5⟩
                  rw [HTK.out, List.map_append, List.map_append, HV.out]
                  show _ ++ [Nd.mk nin nou nde (inner.reverse.map Im.v)] = _ ++ [Nd.mk nin nou nde (inner.map Im.v).reverse]
                  rw [List.map_reverse]
          · obtain rfl : nl = i := by omega
            clear hlt hi
            have hT : Turned wo ⟨NA, Nc, nodes, EA, Ec, edges⟩ t tw ⟨HA, Hc, hn, FA, Fc, es⟩ := ⟨HG.out.gm, by
              have q := HV.out
              rw [hl.out, List.take_length] at q
              exact q, HES.out⟩
            obtain ⟨nh, hnh⟩ : ∃ x, x = hn.length := ⟨_, rfl⟩
            obtain ⟨eh, heh⟩ : ∃ x, x = es.length := ⟨_, rfl⟩
            have h6 := small_64 hI.out HW60.out
            have KH := hT.ok h6 HW60.out hnh heh
            have XR : Ext w wo := X0.out.trans (X2.out.trans HG.out.ex)
            have K0 := small_ok (nl := nl) (el := el) hl.out he.out (hG.out.ext XR) hI.out HW60.out
            have L := hT.like
            have hck : ∃ c, CheckIs (Gm.v ⟨NA, Nc, nodes, EA, Ec, edges⟩) c := by
              rcases check_ex (Gm.v ⟨NA, Nc, nodes, EA, Ec, edges⟩) with (h | h) | h
              · exact ⟨_, h⟩
              · exact ⟨_, h⟩
              · exact ⟨_, h⟩
            obtain ⟨c, hc⟩ := hck
            have hc2 := L.check hc
            have xd : Ext wo wo.drew := (Ext.refl wo).drew
            have HC1 := Lib.hid (check_lit (K0.ext xd) hc)
            have HC2 : Hid (∀ w9, Ext wo w9 → Calls Try.prog 8 #[.agg #[.slice HA nh Hc, .slice FA eh Fc]] w9 fun e w' => e = .returned (.int .u16 c) ∧ Ext w9 w') := Lib.hid (fun w9 e => check_lit (KH.ext e) hc2)
            have UNQ : Hid (∀ l a m b', WaysIs (Gm.v ⟨NA, Nc, nodes, EA, Ec, edges⟩) ⟨fn, fo, fp⟩ ⟨tn, too, tp⟩ l a → WaysIs (Gm.v ⟨HA, Hc, hn, FA, Fc, es⟩) ⟨fn, fo, fp⟩ ⟨tn, too, tp⟩ m b' → l = m ∧ a = b') := Lib.hid (fun l a m b' h1 h2 => WaysIs.unique KH.h6.g32 (L.ways h1) h2)
            have W1 : Hid (∀ w9, Ext wo w9 → Calls Try.prog 12 #[.agg #[.slice NA nl Nc, .slice EA el Ec], .agg #[.int .i64 fn, .bool fo, .int .i64 fp], .agg #[.int .i64 tn, .bool too, .int .i64 tp]] w9 (FWaysOut w9 ⟨NA, Nc, nodes, EA, Ec, edges⟩ ⟨fn, fo, fp⟩ ⟨tn, too, tp⟩)) := Lib.hid (fun w9 e => fways_any NA Nc nodes EA Ec edges nl el fn fo fp tn too tp w9 (Lib.hid (K0.ext e)))
            have W2 : Hid (∀ w9, Ext wo w9 → Calls Try.prog 12 #[.agg #[.slice HA nh Hc, .slice FA eh Fc], .agg #[.int .i64 fn, .bool fo, .int .i64 fp], .agg #[.int .i64 tn, .bool too, .int .i64 tp]] w9 (FWaysOut w9 ⟨HA, Hc, hn, FA, Fc, es⟩ ⟨fn, fo, fp⟩ ⟨tn, too, tp⟩)) := Lib.hid (fun w9 e => fways_any HA Hc hn FA Fc es nh eh fn fo fp tn too tp w9 (Lib.hid (KH.ext e)))
            have B1 : Bk wo b 25 #[.slice NA nl Nc, .slice EA el Ec] := BG.out.ext (X2.out.trans HG.out.ex)
            have B2 : Bk wo hb 25 #[.slice HA nh Hc, .slice FA eh Fc] := by rw [hnh, heh]; exact HG.out.bk
            have B3 : Bk wo (b + 1) 27 #[.int .i64 fn, .bool fo, .int .i64 fp] := BF.out.ext (X2.out.trans HG.out.ex)
            have B4 : Bk wo (b + 1 + 1) 27 #[.int .i64 tn, .bool too, .int .i64 tp] := BT.out.ext (X2.out.trans HG.out.ex)
            have Q1 : ∀ y : Zt Ext wo.drew, y.W.cell? ⟨b, 0, none⟩ = some (.slice NA nl Nc) := fun y => (B1.ext (xd.trans y.x)).cell 0
            have Q2 : ∀ y : Zt Ext wo.drew, y.W.cell? ⟨b, 1, none⟩ = some (.slice EA el Ec) := fun y => (B1.ext (xd.trans y.x)).cell 1
            have Q3 : ∀ y : Zt Ext wo.drew, y.W.cell? ⟨hb, 0, none⟩ = some (.slice HA nh Hc) := fun y => (B2.ext (xd.trans y.x)).cell 0
            have Q4 : ∀ y : Zt Ext wo.drew, y.W.cell? ⟨hb, 1, none⟩ = some (.slice FA eh Fc) := fun y => (B2.ext (xd.trans y.x)).cell 1
            have HB1 := Lib.hid B1
            have HB2 := Lib.hid B2
            have HB3 := Lib.hid B3
            have HB4 := Lib.hid B4
            have XD := Lib.hid xd
            have XRR := Lib.hid XR
            clear hT h6 KH XR K0 L hc hc2 B1 B2 B3 B4 xd hnh heh
            go_upto_region 22 with fail
            refine wp_region_ordS (R := Ext) [0,1,0,7,15] (.flo [0,2] (.ext 1 (.one 3 (.flo [4] (.fin))))) (by kernel_rfl) (by kernel_rfl) (by intro _ _ d _ _ h; cases d <;> exact h) ?_
            (refine ord_floS (pick_cons rfl (pick_cons rfl pick_nil)) ?_; (repeat (go_big_quiet_step (fail))); refine wpQuiet_nil ?_; show ordWalkS _ _ _ _ _ _ _ _)
            refine ord_extS (pick_cons rfl pick_nil) ?_; intro K_ hK_
            clear Q1 Q2 Q3 Q4
            go_wp2_with (go_at_call 8; go_loud (refine HC1.out.mono ?_); rintro e w5 ⟨rfl, x5⟩; have X5 := Lib.hid (XD.out.trans x5); have Y5 := Lib.hid x5; clear x5)
            refine ordNextS.mk Y5.out ?_
            refine ord_oneS (pick_cons rfl pick_nil) ?_; intro K_ hK_
            go_wp2_with (go_at_call 8; go_loud (refine (HC2.out _ X5.out).mono ?_); rintro e w6 ⟨rfl, x6⟩; have X6 := Lib.hid (X5.out.trans x6); clear x6)
            (refine ord_floS (pick_cons rfl pick_nil) ?_; (repeat (go_big_quiet_step (fail))); refine wpQuiet_nil ?_; show ordWalkS _ _ _ _ _ _ _ _)
            refine ord_finS ?_
            have d0 := (HB1.out.ext X6.out).cell 0
            have d1 := (HB1.out.ext X6.out).cell 1
            have d2 := (HB3.out.ext X6.out).cell 0
            have d3 := (HB3.out.ext X6.out).cell 1
            have d4 := (HB3.out.ext X6.out).cell 2
            have d5 := (HB4.out.ext X6.out).cell 0
            have d6 := (HB4.out.ext X6.out).cell 1
            have d7 := (HB4.out.ext X6.out).cell 2
            go_upto_region 25 with (go_at_call 12; go_loud (refine (W1.out _ X6.out).mono ?_); rintro e w7 ⟨A1, c1, n1, M1, z1, rfl, a1, a2, a3, a4, _, x7⟩; have X7 := Lib.hid (X6.out.trans x7); have HN1 := Lib.hid a1; have HW1 := Lib.hid a2; have HS1 := Lib.hid a3; have HR1 := Lib.hid a4; clear a1 a2 a3 a4 x7)
            clear d0 d1 d2 d3 d4 d5 d6 d7
            have d0 := (HB2.out.ext X7.out).cell 0
            have d1 := (HB2.out.ext X7.out).cell 1
            have d2 := (HB3.out.ext X7.out).cell 0
            have d3 := (HB3.out.ext X7.out).cell 1
            have d4 := (HB3.out.ext X7.out).cell 2
            have d5 := (HB4.out.ext X7.out).cell 0
            have d6 := (HB4.out.ext X7.out).cell 1
            have d7 := (HB4.out.ext X7.out).cell 2
            go_wp2_with (first
              | (go_at_call 12; go_loud (refine (W2.out _ X7.out).mono ?_); rintro e w8 ⟨A2, c2, n2, M2, z2, rfl, a1, a2, a3, a4, _, x8⟩; obtain ⟨hm, hz⟩ := UNQ.out _ _ _ _ HW1.out a2; subst hz; have HMM := Lib.hid hm; have X8 := Lib.hid (X7.out.trans x8); have HN2 := Lib.hid a1; have HS2 := Lib.hid a3; have HR2 := Lib.hid a4; have HS18 := Lib.hid (HS1.out.ext x8); have HR18 := Lib.hid (fun x hx => (HR1.out x hx).ext x8); clear a1 a2 a3 a4 x8 hm)
              | (go_at_call 14; go_loud (refine (samePaths_yes A1 A2 n1 n2 c1 c2 M1 M2 _ HN1 HN2 HS18 HS2 HR18 HR2 HMM).mono ?_); rintro e w9 ⟨rfl, x9⟩; have X9 := Lib.hid (X8.out.trans x9); clear x9))
            go_ret
            exact ⟨rfl, XRR.out.trans X9.out⟩
end Go.Proofs.Yteklohamkmiphaa
namespace Go.Proofs.Yteklohamkmiphaa
open Go.ChangeShapes Go.WideShapes Go.ChangeAt Go.RowKit Go.WideElems

section
variable {H : Type} {enc : TypeId × Value → H} {W : World}
theorem wf_u8n {n : Int} (h : (Lit.int .u8 n).wf = true) : 0 ≤ n ∧ n ≤ 255 := by
  simpa [Lit.wf, IntKind.min, IntKind.max, IntKind.signed, IntKind.bits] using h
set_option maxRecDepth 100000 in
theorem come_u8n {base : Nat} {v : Value} {d : DataW H} {p : List MemPlace} (hv : Value.okWide Try.prog W .any base 5 v) (h : DataW.Trod enc Try.prog W 0 (fun _ => true) true 5 v d p) :
    ∃ n : Nat, v = .int .u8 n ∧ n ≤ 255 := by
  obtain ⟨n, rfl, _, _, hw⟩ := open_int Try.underlying5 hv h
  have := wf_u8n hw
  obtain ⟨m, rfl⟩ : ∃ m : Nat, n = m := ⟨n.toNat, by omega⟩
  exact ⟨m, rfl, by omega⟩
end
end Go.Proofs.Yteklohamkmiphaa
