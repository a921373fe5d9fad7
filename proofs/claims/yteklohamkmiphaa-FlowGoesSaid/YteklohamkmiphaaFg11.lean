/- penstockref00.SamePath, SamePaths: of what is the same they say so. penstocklaw06.known: what the chapter's examples fix holds. penstockref06.Depth: whether there is a place, and of what depth. penstockref04.Leq, Cmp: what they answer. penstockref04.Check: what it answers. The form in which times are answered, with an error's number. penstockref04.Apply: what it answers. Conditions: each theorem states its own. -/
import Derived.Test.YteklohamkmiphaaFg2
import Derived.Test.YteklohamkmiphaaFg5
import Derived.Deep.LoopGhost
import Derived.Test.YteklohamkmiphaaFg10
import Derived.Test.YteklohamkmiphaaFg8
import Derived.Test.YteklohamkmiphaaFg3
import Derived.Test.YteklohamkmiphaaFg1
import Derived.Test.YteklohamkmiphaaFg4
namespace Go.Proofs.Yteklohamkmiphaa
open Go.RowKit

set_option maxRecDepth 100000 in
set_option maxHeartbeats 400000 in
theorem samePath_yes (L1 a1 : Int) (A1 A2 : Option Addr) (n1 n2 c1 c2 : Nat) (l1 : List Int) (w : World) (h1 : Hid (Sl w 1 A1 n1 c1 (wds l1))) (h2 : Hid (Sl w 1 A2 n2 c2 (wds l1))) :
    Calls Try.prog 34 #[.agg #[.int .i64 L1, .int .u32 a1, .slice A1 n1 c1], .agg #[.int .i64 L1, .int .u32 a1, .slice A2 n2 c2]] w fun e w' => e = .returned (.bool true) ∧ Ext w w' := by
  go_enter Try.func34, Try.ntmps34
  go_wp2_with (go_at_call 59; refine (sameWords_any A1 A2 n1 n2 c1 c2 l1 l1 _ (h1.out.ext (((Ext.refl w).alloc _).alloc _)) (h2.out.ext (((Ext.refl w).alloc _).alloc _))).mono ?_; rintro r w1 ⟨rfl, x1⟩)
  refine bodyPost_ret (v := .bool (decide (l1 = l1))) (by simp only [results, Try.results34]; go_simp) rfl ?_
  exact ⟨by simp, (((Ext.refl w).alloc _).alloc _).trans x1⟩
theorem pms_at {L M : List Pm} (h : L.map Pm.w = M.map Pm.w) {i : Nat} (hi : i < L.length) : (M.getD i Pm.zero).w = (L.getD i Pm.zero).w := by
  have hl := congrArg List.length h
  rw [List.length_map, List.length_map] at hl
  have e := congrArg (fun l : List Way => l[i]?) h
  simp only [List.getElem?_map] at e
  rw [List.getElem?_eq_getElem hi, List.getElem?_eq_getElem (by omega)] at e
  simp only [Option.map_some, Option.some.injEq] at e
  rw [List.getD_eq_getElem?_getD, List.getD_eq_getElem?_getD, List.getElem?_eq_getElem hi, List.getElem?_eq_getElem (by omega)]
  exact e.symm
set_option maxRecDepth 100000 in
set_option maxHeartbeats 4000000 in
theorem samePaths_yes (A1 A2 : Option Addr) (n m c1 c2 : Nat) (L M : List Pm) (w : World) (hn : Hid (n = L.length)) (hm : Hid (m = M.length)) (h1 : Hid (Sl w 3 A1 n c1 (L.flatMap pmC))) (h2 : Hid (Sl w 3 A2 m c2 (M.flatMap pmC))) (r1 : Hid (∀ x ∈ L, PmR w x)) (r2 : Hid (∀ x ∈ M, PmR w x)) (he : Hid (L.map Pm.w = M.map Pm.w)) :
    Calls Try.prog 14 #[.slice A1 n c1, .slice A2 m c2] w fun e w' => e = .returned (.bool true) ∧ Ext w w' := by
  have hl := congrArg List.length he.out
  rw [List.length_map, List.length_map] at hl
  obtain rfl : m = n := by rw [hn.out, hm.out, hl]
  have hbig : m ≤ 9223372036854775807 := h1.out.le
  clear hl
  go_enter Try.func14, Try.ntmps14
  go_wp2
  go_loopg [5] m (fun z v wr => ∃ k : Nat, z = m - k ∧ k ≤ m ∧ v = .int .i64 k ∧ Hid (Ext w wr))
  case atStart => exact ⟨0, rfl, Nat.zero_le _, rfl, Lib.hid (Ext.refl _)⟩
  case round =>
    obtain ⟨k, rfl, hk, rfl, HE⟩ := hrel
    by_cases hlt : k < m
    · have hkL : k < L.length := by rw [← hn.out]; exact hlt
      have hkM : k < M.length := by rw [← hm.out]; exact hlt
      obtain ⟨a1, rfl, p0, pp⟩ := els_at pmC 3 pmC_len Pm.zero (h1.out.ext HE.out) hn.out hkL (by omega)
      obtain ⟨a2, rfl, q0, qq⟩ := els_at pmC 3 pmC_len Pm.zero (h2.out.ext HE.out) hm.out hkM (by omega)
      have HX : Hid (PmR wr (L.getD k Pm.zero)) := Lib.hid ((r1.out _ (getD_mem' Pm.zero hkL)).ext HE.out)
      have HY : Hid (PmR wr (M.getD k Pm.zero)) := Lib.hid ((r2.out _ (getD_mem' Pm.zero hkM)).ext HE.out)
      have hw := pms_at he.out hkL
      obtain ⟨x, hx⟩ : ∃ x, L.getD k Pm.zero = x := ⟨_, rfl⟩
      obtain ⟨y, hy⟩ : ∃ y, M.getD k Pm.zero = y := ⟨_, rfl⟩
      rw [hx] at p0 pp HX hw
      rw [hy] at q0 qq HY hw
      obtain ⟨xA, xc, ⟨xl, xa, xe⟩⟩ := x
      obtain ⟨yA, yc, yw⟩ := y
      simp only at hw
      subst hw
      have p0 := p0 _ rfl
      have p1 := pp 0 _ rfl
      have p2 := pp 1 _ rfl
      have q0 := q0 _ rfl
      have q1 := qq 0 _ rfl
      have q2 := qq 1 _ rfl
      simp only at p0 p1 p2 q0 q1 q2
      obtain ⟨nx, hnx⟩ : ∃ nx, nx = xe.length := ⟨_, rfl⟩
      rw [← hnx] at p2 q2
      have HX : Hid (Sl wr 1 xA nx xc (wds xe)) := Lib.hid (by rw [hnx]; exact HX.out)
      have HY : Hid (Sl wr 1 yA nx yc (wds xe)) := Lib.hid (by rw [hnx]; exact HY.out)
      clear hx hy hkL hkM pp qq hnx
      go_wp2
      have X : Ext wr wr.drew := (Ext.refl wr).drew
      have y0 : ∀ y : Xt wr.drew, y.W.cell? (a1.add (k * 3)) = some (.int .i64 xl) := fun y => y.x.cell (X.cell p0)
      have y1 : ∀ y : Xt wr.drew, y.W.cell? ⟨(a1.add (k * 3)).block, (a1.add (k * 3)).off + 1, none⟩ = some (.int .u32 xa) := fun y => y.x.cell (X.cell p1)
      have y2 : ∀ y : Xt wr.drew, y.W.cell? ⟨(a1.add (k * 3)).block, (a1.add (k * 3)).off + 2, none⟩ = some (.slice xA nx xc) := fun y => y.x.cell (X.cell p2)
      have z0 : ∀ y : Xt wr.drew, y.W.cell? (a2.add (k * 3)) = some (.int .i64 xl) := fun y => y.x.cell (X.cell q0)
      have z1 : ∀ y : Xt wr.drew, y.W.cell? ⟨(a2.add (k * 3)).block, (a2.add (k * 3)).off + 1, none⟩ = some (.int .u32 xa) := fun y => y.x.cell (X.cell q1)
      have z2 : ∀ y : Xt wr.drew, y.W.cell? ⟨(a2.add (k * 3)).block, (a2.add (k * 3)).off + 2, none⟩ = some (.slice yA nx yc) := fun y => y.x.cell (X.cell q2)
      clear p0 p1 p2 q0 q1 q2
      refine wp_region_ord [0,0,3,7,0,0,48,112,255,511] (.flo [0,1,2,3,4,5,6,7] (.one 8 (.flo [9] (.fin)))) (by kernel_rfl) (by kernel_rfl) (by intro _ _ d _ _ h; cases d <;> exact h) ?_
      (refine ord_flo (pick_cons rfl (pick_cons rfl (pick_cons rfl (pick_cons rfl (pick_cons rfl (pick_cons rfl (pick_cons rfl (pick_cons rfl pick_nil)))))))) ?_; (repeat (go_big_quiet_step (fail))); refine wpQuiet_nil ?_; show ordWalk _ _ _ _ _ _ _)
      refine ord_one (pick_cons rfl pick_nil) ?_; intro K_ hK_
      go_wp2_with (go_at_call 34; go_loud (refine (samePath_yes xl xa xA yA nx nx xc yc xe _ (Lib.hid (HX.out.ext X)) (Lib.hid (HY.out.ext X))).mono ?_); rintro r w1 ⟨rfl, x1⟩)
      (refine ord_flo (pick_cons rfl pick_nil) ?_; (repeat (go_big_quiet_step (fail))); refine wpQuiet_nil ?_; show ordWalk _ _ _ _ _ _ _)
      refine ord_fin ?_
      go_wp2
      go_roundg (m - (k + 1))
      case measure => omega
      case rel => exact ⟨k + 1, by omega, by omega, by go_num, Lib.hid ((HE.out.trans X).trans x1)⟩
    · obtain rfl : k = m := by omega
      go_wp2
      go_ret
      exact ⟨rfl, HE.out⟩
end Go.Proofs.Yteklohamkmiphaa
namespace Go.Proofs.Yteklohamkmiphaa
open Go.RowKit

def WaysLit (w : World) (l : List Way) (e : Ending) (w' : World) : Prop := ∃ (A : Option Addr) (c n : Nat) (M : List Pm), e = .returned (.tuple #[.slice A n c, .int .u16 0]) ∧ n = M.length ∧ M.map Pm.w = l ∧ Sl w' 3 A n c (M.flatMap pmC) ∧ (∀ x ∈ M, PmR w' x) ∧ Ext w w'
section
variable {w : World} {NA : Option Addr} {Nc : Nat} {nodes : List Nm} {EA : Option Addr} {Ec : Nat} {edges : List (Pt × Pt)}
theorem ways_lit {fn : Int} {fo : Bool} {fp tn : Int} {too : Bool} {tp : Int} {l : List Way} (G : GmR w ⟨NA, Nc, nodes, EA, Ec, edges⟩) (h : Gm.v ⟨NA, Nc, nodes, EA, Ec, edges⟩ = exG 1) (key : ∀ l' e', WaysIs (exG 1) ⟨fn, fo, fp⟩ ⟨tn, too, tp⟩ l' e' → l' = l ∧ e' = 0) :
    Calls Try.prog 12 #[.agg #[.slice NA 6 Nc, .slice EA 6 Ec], .agg #[.int .i64 fn, .bool fo, .int .i64 fp], .agg #[.int .i64 tn, .bool too, .int .i64 tp]] w (WaysLit w l) := by
  refine (fways_any NA Nc nodes EA Ec edges 6 6 fn fo fp tn too tp w (Lib.hid (ex_ok G h (by decide) (by decide)))).mono ?_
  rintro e w' ⟨A, c, n, M, z, rfl, h1, h2, h3, h4, _, h6⟩
  rw [h] at h2
  obtain ⟨e1, rfl⟩ := key _ _ h2
  exact ⟨A, c, n, M, rfl, h1, e1, h3, h4, h6⟩
theorem excheck_lit {a c : Int} (G : GmR w ⟨NA, Nc, nodes, EA, Ec, edges⟩) (h : Gm.v ⟨NA, Nc, nodes, EA, Ec, edges⟩ = exG a) (h0 : 0 ≤ a) (h1 : a ≤ 4294967295) (hc : CheckIs (exG a) c) :
    Calls Try.prog 8 #[.agg #[.slice NA 6 Nc, .slice EA 6 Ec]] w fun e w' => e = .returned (.int .u16 c) ∧ Ext w w' := check_lit (ex_ok G h h0 h1) (by rw [h]; exact hc)
end
set_option maxRecDepth 100000 in
set_option maxHeartbeats 4000000 in
theorem known6_any (w : World) : Calls Try.prog 7 #[] w fun e w' => e = .returned (.bool true) ∧ Ext w w' := by
  go_enter Try.func7, Try.ntmps7
  go_upto_region 2 with (first
    | (go_at_call 17; go_loud (refine (graph_any 1 _).mono ?_); rintro e w1 ⟨NA, Nc, nodes, EA, Ec, edges, rfl, gm, gv, x1⟩; have X1 := Lib.hid x1; have HC := Lib.hid (ways_lit gm gv (fun _ _ h => exG1_ways1 h)); clear gm gv x1)
    | (go_at_call 12; go_loud (refine HC.out.mono ?_); rintro e w2 ⟨A1, c1, n1, M1, rfl, a1, a2, a3, a4, x2⟩; have X2 := Lib.hid (X1.out.trans x2); have HN1 := Lib.hid a1; have HM1 := Lib.hid a2; have HS1 := Lib.hid a3; have HR1 := Lib.hid a4; clear a1 a2 a3 a4 x2))
  clear HC
  go_upto_region 3 with (first
    | (go_at_call 17; go_loud (refine (graph_any 1 _).mono ?_); rintro e w3 ⟨NA, Nc, nodes, EA, Ec, edges, rfl, gm, gv, x1⟩; have X3 := Lib.hid x1; have HC := Lib.hid (ways_lit gm gv (fun _ _ h => exG1_ways2 h)); clear gm gv x1)
    | (go_at_call 12; go_loud (refine HC.out.mono ?_); rintro e w4 ⟨A2, c2, n2, M2, rfl, a1, a2, a3, a4, x2⟩; have X4 := Lib.hid (X3.out.trans x2); have HN2 := Lib.hid a1; have HM2 := Lib.hid a2; have HS2 := Lib.hid a3; have HR2 := Lib.hid a4; clear a1 a2 a3 a4 x2))
  clear HC
  go_upto_region 4 with (first
    | (go_at_call 8; have mk := X7; go_loud (refine HC7.out.mono ?_); rintro e w8 ⟨rfl, x8⟩; have X8W4 := Lib.hid (X5.out.trans (X6.out.trans (X7.out.trans x8))); have X8 := Lib.hid (X4.out.trans X8W4.out); clear x8)
    | (go_at_call 17; have mk := X6; go_loud (refine (graph_any 1 _).mono ?_); rintro e w7 ⟨NA, Nc, nodes, EA, Ec, edges, rfl, gm, gv, x1⟩; have X7 := Lib.hid x1; have HC7 := Lib.hid (excheck_lit gm gv (by decide) (by decide) exG1_check); clear gm gv x1)
    | (go_at_call 17; go_loud (refine (graph_any 0 _).mono ?_); rintro e w5 ⟨NA, Nc, nodes, EA, Ec, edges, rfl, gm, gv, x1⟩; have X5 := Lib.hid x1; have HC5 := Lib.hid (excheck_lit gm gv (by decide) (by decide) exG0_check); clear gm gv x1)
    | (go_at_call 8; go_loud (refine HC5.out.mono ?_); rintro e w6 ⟨rfl, x6⟩; have X6 := Lib.hid x6; clear x6))
  clear HC5 HC7
  have one : ∀ (W : World) (v : Way), v.enter = [] → Sl (W.alloc (.cells #[.int .i64 v.leave, .int .u32 v.add, .slice none 0 0] 47)) 3 (some ⟨W.heap.size, 0, none⟩) 1 1 ([(⟨none, 0, v⟩ : Pm)].flatMap pmC) := fun W v hv => by
    have e : [(⟨none, 0, v⟩ : Pm)].flatMap pmC = [.int .i64 v.leave, .int .u32 v.add, .slice none 0 0] := by
      show pmC ⟨none, 0, v⟩ ++ [] = _
      unfold pmC
      rw [hv]; rfl
    rw [e]
    exact Sl.one W #[.int .i64 v.leave, .int .u32 v.add, .slice none 0 0] 47 3 rfl
  have ONE := Lib.hid one
  have P1 : Hid (Calls Try.prog 14 #[.slice A1 n1 c1, .slice (some ⟨w8.heap.size, 0, none⟩) 1 1] (w8.alloc (.cells #[.int .i64 0, .int .u32 0, .slice none 0 0] 47)) fun e w' => e = .returned (.bool true) ∧ Ext (w8.alloc (.cells #[.int .i64 0, .int .u32 0, .slice none 0 0] 47)) w') := Lib.hid (by
    have x9 : Ext w2 (w8.alloc (.cells #[.int .i64 0, .int .u32 0, .slice none 0 0] 47)) := X8.out.alloc _
    exact samePaths_yes A1 _ n1 1 c1 1 M1 [⟨none, 0, idW⟩] _ HN1 (Lib.hid rfl) (Lib.hid (HS1.out.ext x9)) (Lib.hid (one w8 idW rfl)) (Lib.hid (fun x hx => (HR1.out x hx).ext x9)) (Lib.hid (fun x hx => by simp only [List.mem_cons, List.not_mem_nil, or_false] at hx; subst hx; exact Sl.nil _ _)) (Lib.hid (by rw [HM1.out]; rfl)))
  clear one
  go_wp2_with (first
    | (go_at_call 14; have mk := X10; have x11 : Ext w4 (w10.alloc (.cells #[.int .i64 0, .int .u32 1, .slice none 0 0] 47)) := (X10.out.alloc _); go_loud (refine (samePaths_yes A2 _ n2 1 c2 1 M2 [⟨none, 0, ⟨0, 1, []⟩⟩] _ HN2 (Lib.hid rfl) (Lib.hid (HS2.out.ext x11)) (Lib.hid (ONE.out w10 ⟨0, 1, []⟩ rfl)) (Lib.hid (fun x hx => (HR2.out x hx).ext x11)) (Lib.hid (fun x hx => by simp only [List.mem_cons, List.not_mem_nil, or_false] at hx; subst hx; exact Sl.nil _ _)) (Lib.hid (by rw [HM2.out]; rfl))).mono ?_); rintro e w12 ⟨rfl, x12⟩; have X12 := Lib.hid (X4.out.trans (x11.trans x12)); clear x12 x11)
    | (go_at_call 14; go_loud (refine P1.out.mono ?_); rintro e w10 ⟨rfl, x10⟩; have X10 := Lib.hid (X8W4.out.trans ((Ext.refl w8).alloc (.cells #[.int .i64 0, .int .u32 0, .slice none 0 0] 47) |>.trans x10)); clear x10))
  go_ret
  exact ⟨rfl, X2.out.trans X12.out⟩
end Go.Proofs.Yteklohamkmiphaa
namespace Go.Proofs.Yteklohamkmiphaa
open Go.RowKit

theorem rturns_at {i o d : Int} {A : Option Addr} {n c : Nat} {b : Bool} (w : World) (h : Hid (turnsI i o n = b)) : Calls Try.prog 30 #[.agg #[.int .i64 i, .int .i64 o, .int .i64 d, .slice A n c]] w fun e w' => e = .returned (.bool b) ∧ Ext w w' := by
  have := rturns_any i o d A n c w
  rw [h.out] at this
  exact this
set_option maxRecDepth 100000 in
set_option maxHeartbeats 4000000 in
theorem rdepth_any (NA : Option Addr) (Nc : Nat) (nodes : List Nm) (EA : Option Addr) (Ec : Nat) (edges : List (Pt × Pt)) (pn : Int) (po : Bool) (pp : Int) (nl el : Nat) (w : World) (hl : Hid (nl = nodes.length)) (hG : Hid (GmR w ⟨NA, Nc, nodes, EA, Ec, edges⟩)) (hN : Hid (∀ x ∈ nodes, nodeT x.v = true)) :
    Calls Try.prog 9 #[.agg #[.slice NA nl Nc, .slice EA el Ec], .agg #[.int .i64 pn, .bool po, .int .i64 pp]] w (DepOut (Gm.v ⟨NA, Nc, nodes, EA, Ec, edges⟩) ⟨pn, po, pp⟩ w) := by
  obtain ⟨g, hg⟩ : ∃ g : Gm, g = ⟨NA, Nc, nodes, EA, Ec, edges⟩ := ⟨_, rfl⟩
  have x2 : Ext w ((w.alloc (Obj.cells #[.slice NA nl Nc, .slice EA el Ec] 25)).alloc (Obj.cells #[.int .i64 pn, .bool po, .int .i64 pp] 27)) := ((Ext.refl w).alloc _).alloc _
  have hlo := hl.out
  by_cases h1 : pn < 0
  · go_enter Try.func9, Try.ntmps9
    go_wp2
    go_returns
    exact DepOut.none (dep_off (.inl h1)) (by have e1 := Ext.refl w; (repeat' (first | with_reducible exact e1 | with_reducible refine Ext.drew ?_ | with_reducible refine Ext.drewN ?_ _ | with_reducible refine Ext.alloc ?_ _ | with_reducible refine Ext.set ?_ ?_ _ | omega | (simp; done) | (simp; omega))))
  by_cases h2 : (nl : Int) ≤ pn
  · go_enter Try.func9, Try.ntmps9
    clear hlo
    go_wp2
    go_returns
    exact DepOut.none (dep_off (.inr (.inl (by rw [hl.out] at h2; exact h2)))) (by have e1 := Ext.refl w; (repeat' (first | with_reducible exact e1 | with_reducible refine Ext.drew ?_ | with_reducible refine Ext.drewN ?_ _ | with_reducible refine Ext.alloc ?_ _ | with_reducible refine Ext.set ?_ ?_ _ | omega | (simp; done) | (simp; omega))))
  by_cases h3 : pp < 0
  · go_enter Try.func9, Try.ntmps9
    clear hlo
    go_wp2
    go_returns
    exact DepOut.none (dep_off (.inr (.inr h3))) (by have e1 := Ext.refl w; (repeat' (first | with_reducible exact e1 | with_reducible refine Ext.drew ?_ | with_reducible refine Ext.drewN ?_ _ | with_reducible refine Ext.alloc ?_ _ | with_reducible refine Ext.set ?_ ?_ _ | omega | (simp; done) | (simp; omega))))
  obtain ⟨i, rfl⟩ : ∃ i : Nat, pn = i := ⟨pn.toNat, by omega⟩
  have hi : i < nodes.length := by omega
  have hd := Lib.hid (dep_in (g := ⟨NA, Nc, nodes, EA, Ec, edges⟩) (o := po) hi (show 0 ≤ pp by omega))
  obtain ⟨ad, hA, q0, q1, q2, q3⟩ := (hG.out.ext x2).nat hi
  have hx := Lib.hid (hN.out _ (getD_mem' Nm.zero hi))
  have hR := Lib.hid (hG.out.nd _ (getD_mem' Nm.zero hi))
  obtain ⟨x, hxx⟩ : ∃ x, nodes.getD i Nm.zero = x := ⟨_, rfl⟩
  simp only at hd q0 q1 q2 q3 hx hR hA
  rw [hxx] at hd q0 q1 q2 q3 hx hR
  clear hxx hlo
  subst hA
  cases po with
  | false =>
    go_enter Try.func9, Try.ntmps9
    go_wp2
    go_quiet (fail)
    go_wp2
    go_returns
    exact DepOut.some (by rw [hd.out]; simp) (by
      have e1 := Ext.refl w
      (repeat' (first | with_reducible exact e1 | with_reducible refine Ext.drew ?_ | with_reducible refine Ext.drewN ?_ _ | with_reducible refine Ext.alloc ?_ _ | with_reducible refine Ext.set ?_ ?_ _ | omega | (simp; done) | (simp; omega))))
  | true =>
    cases ht : x.v.turns with
    | false =>
      have ct := fun W => rturns_at (d := x.depth) (A := x.A) (c := x.c) W (Lib.hid ((turnsI_eq x).trans ht))
      have ho : x.v.outDep = x.depth := by unfold Nd.outDep; rw [if_neg (by rw [ht]; simp)]; rfl
      have HO := Lib.hid ho
      clear ho ht
      go_enter Try.func9, Try.ntmps9
      go_wp2_with (go_at_call 30; refine (ct _).mono ?_; rintro r w1 ⟨rfl, x1⟩; have HX := Lib.hid x1; have u0 : w1.cell? ⟨w.heap.size + 1 + 1, 0, none⟩ = some (.int .i64 x.ins) := x1.cell (by go_simp); have u1 : w1.cell? ⟨w.heap.size + 1 + 1, 1, none⟩ = some (.int .i64 x.outs) := x1.cell (by go_simp); have u2 : w1.cell? ⟨w.heap.size + 1 + 1, 2, none⟩ = some (.int .i64 x.depth) := x1.cell (by go_simp); have u3 : w1.cell? ⟨w.heap.size + 1, 2, none⟩ = some (.int .i64 pp) := x1.cell (by go_simp); clear x1)
      go_quiet (fail)
      go_wp2
      go_returns
      exact DepOut.some (by rw [hd.out, HO.out]; simp) (by
        have e1 := Ext.refl w
        have e2 : Ext w _ := Ext.trans (by (repeat' (first | with_reducible exact e1 | with_reducible refine Ext.drew ?_ | with_reducible refine Ext.drewN ?_ _ | with_reducible refine Ext.alloc ?_ _ | with_reducible refine Ext.set ?_ ?_ _ | omega | (simp; done) | (simp; omega)))) HX.out
        (repeat' (first | with_reducible exact e2 | with_reducible refine Ext.drew ?_ | with_reducible refine Ext.drewN ?_ _ | with_reducible refine Ext.alloc ?_ _ | with_reducible refine Ext.set ?_ ?_ _ | omega | (simp; done) | (simp; omega))))
    | true =>
      obtain ⟨xi, xo, xd, xA, xc, xl⟩ := x
      obtain ⟨hl1, ho⟩ := inner_head ht
      have hxo : xo = 1 := by unfold Nd.turns Nm.v at ht; exact (of_decide_eq_true ht).2.1
      subst hxo
      obtain ⟨y, rfl⟩ : ∃ y, xl = [y] := List.length_eq_one_iff.1 hl1
      have ct := fun W => rturns_at (d := xd) (A := xA) (c := xc) W (Lib.hid ((turnsI_eq ⟨xi, 1, xd, xA, xc, [y]⟩).trans ht))
      obtain ⟨a2, hA2, r0, r1, r2, r3, r4⟩ := (hR.out.ext x2).at (i := 0) (by simp)
      simp only at hA2
      subst hA2
      simp only [List.getD_cons_zero, Nat.zero_mul] at r0 r1 r2 r3 r4 ho
      simp only [List.length_singleton] at q3 ct
      have hz : a2.add 0 = a2 := by unfold Addr.add; simp
      rw [hz] at r2 r3 r4
      have HM : Hid (0 ≤ y.p.w.leave ∧ y.p.w.leave ≤ xd ∧ xd ≤ 3 ∧ madeT xd y.p.w ≤ 3) := by
        have := hx.out
        unfold nodeT at this
        simp only [Bool.and_eq_true, decide_eq_true_eq, List.all_eq_true] at this
        have h2 := this.2 y.v (by unfold Nm.v; simp)
        unfold innT at h2
        have h2 := of_decide_eq_true h2
        exact Lib.hid ⟨h2.2.2.2.2.1, h2.2.2.2.2.2.1, this.1.2.1, h2.2.2.2.2.2.2.2.1⟩
      have HO := Lib.hid ho
      clear ho ht hl1
      obtain ⟨yi, yo, yA, yc, yL, ya, ye⟩ := y
      obtain ⟨ne, hne⟩ : ∃ ne, ye.length = ne := ⟨_, rfl⟩
      simp only at r2 r3 r4
      rw [hne] at r4
      have HNE := Lib.hid hne
      clear hne
      go_enter Try.func9, Try.ntmps9
      go_wp2_with (go_at_call 30; refine (ct _).mono ?_; rintro r w1 ⟨rfl, x1⟩; have HX := Lib.hid x1; have u1 : w1.cell? ⟨w.heap.size + 1 + 1, 1, none⟩ = some (.int .i64 1) := x1.cell (by go_simp); have u2 : w1.cell? ⟨w.heap.size + 1 + 1, 2, none⟩ = some (.int .i64 xd) := x1.cell (by go_simp); have u3 : w1.cell? ⟨w.heap.size + 1, 2, none⟩ = some (.int .i64 pp) := x1.cell (by go_simp); have u4 : w1.cell? ⟨w.heap.size + 1 + 1, 3, none⟩ = some (.slice (some a2) 1 xc) := x1.cell (by go_simp); have XX : Ext (((w.alloc (Obj.cells #[.slice (some ad) nl Nc, .slice EA el Ec] 25)).alloc (Obj.cells #[.int .i64 i, .bool true, .int .i64 pp] 27))) w1 := Ext.trans (by have e1 := Ext.refl ((w.alloc (Obj.cells #[.slice (some ad) nl Nc, .slice EA el Ec] 25)).alloc (Obj.cells #[.int .i64 i, .bool true, .int .i64 pp] 27)); (repeat' (first | with_reducible exact e1 | with_reducible refine Ext.drew ?_ | with_reducible refine Ext.drewN ?_ _ | with_reducible refine Ext.alloc ?_ _ | with_reducible refine Ext.set ?_ ?_ _ | omega | (simp; done) | (simp; omega)))) x1; have v2 := XX.cell r2; have v3 := XX.cell r3; have v4 := XX.cell r4; clear x1)
      have f1 : ∀ y : Xt w1, y.W.cell? ⟨w.heap.size + 1 + 1, 1, none⟩ = some (.int .i64 1) := fun y => y.x.cell u1
      have f2 : ∀ y : Xt w1, y.W.cell? ⟨w.heap.size + 1 + 1, 2, none⟩ = some (.int .i64 xd) := fun y => y.x.cell u2
      have f3 : ∀ y : Xt w1, y.W.cell? ⟨w.heap.size + 1, 2, none⟩ = some (.int .i64 pp) := fun y => y.x.cell u3
      have f4 : ∀ y : Xt w1, y.W.cell? ⟨w.heap.size + 1 + 1, 3, none⟩ = some (.slice (some a2) 1 xc) := fun y => y.x.cell u4
      have g2 := fun y : Xt w1 => y.x.cell v2
      have g3 := fun y : Xt w1 => y.x.cell v3
      have g4 := fun y : Xt w1 => y.x.cell v4
      (refine wp_region_ext (by kernel_rfl) (by kernel_rfl) ?_; (repeat (go_big_quiet_step ((go_at_call 31; exact call_ext (rmade_any _ _ _ _ _ _ _))))); refine wpQuiet_nil ?_; rintro _ ⟨y, rfl⟩)
      go_wp2
      go_returns
      exact DepOut.some (by
        have h : 0 ≤ yL ∧ yL ≤ xd ∧ xd ≤ 3 ∧ xd - yL + ye.length ≤ 3 := HM.out
        rw [hd.out, HO.out, ← madeI_eq (w := ⟨yL, ya, ye⟩) (by show 0 ≤ yL ∧ yL ≤ 1000; omega) (by omega) (by show ye.length ≤ 1000000; omega)]
        simp [HNE.out]) (by
        have e1 := Ext.refl w
        have e2 : Ext w _ := Ext.trans (by (repeat' (first | with_reducible exact e1 | with_reducible refine Ext.drew ?_ | with_reducible refine Ext.drewN ?_ _ | with_reducible refine Ext.alloc ?_ _ | with_reducible refine Ext.set ?_ ?_ _ | omega | (simp; done) | (simp; omega)))) HX.out
        exact e2.trans y.x)
end Go.Proofs.Yteklohamkmiphaa
namespace Go.Proofs.Yteklohamkmiphaa
open Go.RowKit

set_option maxRecDepth 100000 in
set_option maxHeartbeats 400000 in
theorem rleq_diff (e1 e2 : Int) (A1 A2 : Option Addr) (n1 n2 c1 c2 : Nat) (w : World) (hne : ((n1 : Int) != (n2 : Int)) = true) :
    Calls Try.prog 13 #[.agg #[.int .u64 e1, .slice A1 n1 c1], .agg #[.int .u64 e2, .slice A2 n2 c2]] w fun e w' => e = .returned (.bool false) ∧ Ext w w' := by
  go_enter Try.func13, Try.ntmps13
  go_wp2
  go_ret
  exact ⟨rfl, ((Ext.refl w).alloc _).alloc _⟩
set_option maxRecDepth 100000 in
set_option maxHeartbeats 400000 in
theorem rleq_late (e1 e2 : Int) (A1 A2 : Option Addr) (n c1 c2 : Nat) (w : World) (hlt : e2 < e1) :
    Calls Try.prog 13 #[.agg #[.int .u64 e1, .slice A1 n c1], .agg #[.int .u64 e2, .slice A2 n c2]] w fun e w' => e = .returned (.bool false) ∧ Ext w w' := by
  have he : ((n : Int) != (n : Int)) = false := by simp
  go_enter Try.func13, Try.ntmps13
  go_wp2
  go_ret
  exact ⟨rfl, ((Ext.refl w).alloc _).alloc _⟩
set_option maxRecDepth 100000 in
set_option maxHeartbeats 400000 in
theorem rleq_same (e1 e2 : Int) (A1 A2 : Option Addr) (n c1 c2 : Nat) (l1 l2 : List Int) (w : World) (h1 : Sl w 1 A1 n c1 (wds l1)) (h2 : Sl w 1 A2 n c2 (wds l2)) (hle : e1 ≤ e2) :
    Calls Try.prog 13 #[.agg #[.int .u64 e1, .slice A1 n c1], .agg #[.int .u64 e2, .slice A2 n c2]] w fun e w' => e = .returned (.bool (decide (∀ k, k < n → l1.getD k 0 ≤ l2.getD k 0))) ∧ Ext w w' := by
  have hm := h1.le
  have he : ((n : Int) != (n : Int)) = false := by simp
  go_enter Try.func13, Try.ntmps13
  go_wp2
  obtain ⟨w0, hw0⟩ : ∃ w0, w0 = (w.alloc (Obj.cells #[Value.int IntKind.u64 e1, Value.slice A1 n c1] 32)).alloc (Obj.cells #[Value.int IntKind.u64 e2, Value.slice A2 n c2] 32) := ⟨_, rfl⟩
  have e0 : Ext w w0 := hw0 ▸ ((Ext.refl w).alloc _).alloc _
  have b1 : w0.cell? ⟨w.heap.size, 1, none⟩ = some (Value.slice A1 n c1) := by subst hw0; go_simp
  have b2 : w0.cell? ⟨w.heap.size + 1, 1, none⟩ = some (Value.slice A2 n c2) := by subst hw0; go_simp
  rw [← hw0]
  clear hw0
  go_loopw [5] (fun v wr => ∃ k : Nat, k ≤ n ∧ v = .int .i64 k ∧ (∀ j, j < k → l1.getD j 0 ≤ l2.getD j 0) ∧ ∃ m, wr = w0.drewN m) (fun v _ => n - (intOf v).toNat)
  case atStart => exact ⟨0, Nat.zero_le _, rfl, fun j hj => absurd hj (by omega), 0, rfl⟩
  case round =>
    obtain ⟨k, hk, rfl, hall, m, rfl⟩ := hrel
    have H := Lib.hid hall
    clear hall
    by_cases hlt : k < n
    · obtain ⟨a1, ha1, hc1, _⟩ := (h1.ext e0).word hlt
      obtain ⟨a2, ha2, hc2, _⟩ := (h2.ext e0).word hlt
      go_wp2
      go_quiet (fail)
      go_wp2
      · have hv : l2[k]?.getD 0 < l1[k]?.getD 0 := by assumption
        go_ret
        refine ⟨ret_bool (Eq.symm (decide_eq_false fun hh => ?_)), (e0.drewN _).drewN _⟩
        have := hh k hlt
        simp only [List.getD_eq_getElem?_getD] at this
        omega
      · have hv : l1[k]?.getD 0 ≤ l2[k]?.getD 0 := by assumption
        go_roundw
        case rel =>
          refine ⟨k + 1, by omega, by go_num, fun j hj => ?_, _, rfl⟩
          by_cases hjk : j < k
          · exact H.out j hjk
          · obtain rfl : j = k := by omega
            simpa only [List.getD_eq_getElem?_getD] using hv
        case measure => simp [intOf]; omega
    · go_wp2
      go_ret
      refine ⟨ret_bool (Eq.symm (decide_eq_true fun j hj => H.out j (by omega))), e0.drewN _⟩

theorem rleq_any (e1 e2 : Int) (A1 A2 : Option Addr) (n1 n2 c1 c2 : Nat) (l1 l2 : List Int) (w : World) (h1 : Sl w 1 A1 n1 c1 (wds l1)) (h2 : Sl w 1 A2 n2 c2 (wds l2)) :
    Calls Try.prog 13 #[.agg #[.int .u64 e1, .slice A1 n1 c1], .agg #[.int .u64 e2, .slice A2 n2 c2]] w fun e w' => e = .returned (.bool (leqT e1 l1 e2 l2)) ∧ Ext w w' := by
  have hl1 := h1.wlen
  have hl2 := h2.wlen
  by_cases hn : n1 = n2
  · subst hn
    by_cases hlt : e2 < e1
    · have hf : leqT e1 l1 e2 l2 = false := decide_eq_false fun hh => by have := hh.2.1; omega
      rw [hf]; exact rleq_late e1 e2 A1 A2 n1 c1 c2 w hlt
    · refine (rleq_same e1 e2 A1 A2 n1 c1 c2 l1 l2 w h1 h2 (by omega)).mono fun e w' ⟨he, hx⟩ => ⟨he.trans (ret_bool ?_), hx⟩
      unfold leqT
      rw [decide_eq_decide, hl1, hl2]
      exact ⟨fun h => ⟨rfl, by omega, h⟩, fun h => h.2.2⟩
  · have hf : leqT e1 l1 e2 l2 = false := decide_eq_false fun hh => by have := hh.1; omega
    rw [hf]
    exact rleq_diff e1 e2 A1 A2 n1 n2 c1 c2 w (by simp; omega)
end Go.Proofs.Yteklohamkmiphaa
namespace Go.Proofs.Yteklohamkmiphaa
open Go.RowKit

def checkT (e : Int) (n : Nat) (d : Int) : Int := if d < 0 ∨ 3 < d ∨ (n : Int) ≠ d ∨ 4611686018427387904 < e then 40 else 0
set_option maxRecDepth 100000 in
set_option maxHeartbeats 400000 in
theorem rcheck_any (e d : Int) (A : Option Addr) (n c : Nat) (w : World) :
    Calls Try.prog 10 #[.agg #[.int .u64 e, .slice A n c], .int .i64 d] w fun r w' => r = .returned (.int .i64 (checkT e n d)) ∧ Ext w w' := by
  by_cases k1 : d < 0
  · have hc : Hid (checkT e n d = 40) := Lib.hid (if_pos (.inl k1))
    go_enter Try.func10, Try.ntmps10
    go_wp2
    go_ret
    exact ⟨by rw [hc.out]; rfl, (Ext.refl w).alloc _⟩
  by_cases k2 : 3 < d
  · have hc : Hid (checkT e n d = 40) := Lib.hid (if_pos (.inr (.inl k2)))
    go_enter Try.func10, Try.ntmps10
    go_wp2
    go_ret
    exact ⟨by rw [hc.out]; rfl, (Ext.refl w).alloc _⟩
  by_cases k3 : (n : Int) = d
  · have q3 : ((n : Int) != d) = false := by simpa using k3
    by_cases k4 : 4611686018427387904 < e
    · have hc : Hid (checkT e n d = 40) := Lib.hid (if_pos (.inr (.inr (.inr k4))))
      clear k3
      go_enter Try.func10, Try.ntmps10
      go_wp2
      go_ret
      exact ⟨by rw [hc.out]; rfl, (Ext.refl w).alloc _⟩
    · have hc : Hid (checkT e n d = 0) := Lib.hid (if_neg (by omega))
      clear k3
      go_enter Try.func10, Try.ntmps10
      go_wp2
      go_ret
      exact ⟨by rw [hc.out]; rfl, (Ext.refl w).alloc _⟩
  · have q3 : ((n : Int) != d) = true := by simpa using k3
    have hc : Hid (checkT e n d = 40) := Lib.hid (if_pos (.inr (.inr (.inl k3))))
    clear k3
    go_enter Try.func10, Try.ntmps10
    go_wp2
    go_ret
    exact ⟨by rw [hc.out]; rfl, (Ext.refl w).alloc _⟩
end Go.Proofs.Yteklohamkmiphaa
namespace Go.Proofs.Yteklohamkmiphaa
open Go.RowKit

/-- the form in which the document's Apply answers -/
def RTimeOut (w : World) (r : (Int × List Int) × Int) (e : Ending) (w' : World) : Prop :=
  ∃ A c, e = .returned (.tuple #[.agg #[.int .u64 r.1.1, .slice A r.1.2.length c], .int .i64 r.2]) ∧ Own w' w.heap.size 45 1 A r.1.2.length c (wds r.1.2) ∧ Ext w w'
end Go.Proofs.Yteklohamkmiphaa
namespace Go.Proofs.Yteklohamkmiphaa
open Go.RowKit

set_option maxRecDepth 100000 in
set_option maxHeartbeats 400000 in
theorem rapply_neg (L a : Int) (A1 A2 : Option Addr) (n1 n2 c1 c2 : Nat) (e : Int) (w : World) (hL : L < 0) :
    Calls Try.prog 11 #[.agg #[.int .i64 L, .int .u32 a, .slice A1 n1 c1], .agg #[.int .u64 e, .slice A2 n2 c2]] w fun r w' => r = .returned (.tuple #[.agg #[.int .u64 0, .slice none 0 0], .int .i64 40]) ∧ Ext w w' := by
  go_enter Try.func11, Try.ntmps11
  go_wp2
  go_returns
  exact ⟨rfl, (((Ext.refl w).alloc _).alloc _).alloc _⟩
set_option maxRecDepth 100000 in
set_option maxHeartbeats 400000 in
theorem rapply_less (L a : Int) (A1 A2 : Option Addr) (n1 n2 c1 c2 : Nat) (e : Int) (w : World) (hL : 0 ≤ L) (h : (n2 : Int) < L) :
    Calls Try.prog 11 #[.agg #[.int .i64 L, .int .u32 a, .slice A1 n1 c1], .agg #[.int .u64 e, .slice A2 n2 c2]] w fun r w' => r = .returned (.tuple #[.agg #[.int .u64 0, .slice none 0 0], .int .i64 40]) ∧ Ext w w' := by
  go_enter Try.func11, Try.ntmps11
  go_wp2
  go_returns
  exact ⟨rfl, (((Ext.refl w).alloc _).alloc _).alloc _⟩
set_option maxRecDepth 100000 in
set_option maxHeartbeats 4000000 in
theorem rapply_main (K m : Nat) (a : Int) (A1 A2 : Option Addr) (n1 c1 c2 : Nat) (l1 l2 : List Int) (e : Int) (w : World) (h1 : Sl w 1 A1 n1 c1 (wds l1)) (h2 : Sl w 1 A2 (K + m) c2 (wds l2)) (u2 : U32 l2)
    (ha : 0 ≤ a ∧ a ≤ 4294967295) (he : 0 ≤ e ∧ e ≤ 18446744073709551615) (hn1 : n1 ≤ 1000000) (hn2 : K + m ≤ 1000000) :
    Calls Try.prog 11 #[.agg #[.int .i64 m, .int .u32 a, .slice A1 n1 c1], .agg #[.int .u64 e, .slice A2 (K + m : Nat) c2]] w
      (RTimeOut w (applyK K a l1 e l2)) := by
  have hm := h2.le
  have hc := h2.cap
  obtain ⟨ha0, ha1⟩ := ha
  obtain ⟨he0, he1⟩ := he
  have hs : Sl w 1 A2 K c2 (wds (l2.take K)) := by
    have := h2.take (k := K) (by omega)
    rwa [Nat.mul_one, wds_take] at this
  go_enter Try.func11, Try.ntmps11
  go_upto_region 5 with fail
  obtain ⟨w0, hw0⟩ : ∃ w0, w0 = (((w.alloc (Obj.cells #[Value.int IntKind.i64 m, Value.int IntKind.u32 a, Value.slice A1 n1 c1] 47)).alloc (Obj.cells #[Value.int IntKind.u64 e, Value.slice A2 (K + m) c2] 32)).alloc
      (Obj.cells #[Value.int IntKind.u64 0, Value.slice none 0 0] 32)).alloc (Obj.cells #[Value.int IntKind.u64 e, Value.slice none 0 0] 32) := ⟨_, rfl⟩
  have x0 : Ext w w0 := hw0 ▸ ((((Ext.refl w).alloc _).alloc _).alloc _).alloc _
  have s0 : w0.heap.size = w.heap.size + 4 := by subst hw0; simp
  have p0 : Bk w0 w.heap.size 47 #[Value.int IntKind.i64 m, Value.int IntKind.u32 a, Value.slice A1 n1 c1] := by subst hw0; exact (((Bk.new _ _ _).alloc _).alloc _).alloc _
  have t0 : Bk w0 (w.heap.size + 1) 32 #[Value.int IntKind.u64 e, Value.slice A2 (K + m) c2] := by subst hw0; exact ((Bk.at (by simp)).alloc _).alloc _
  have r0 : Bk w0 (w.heap.size + 1 + 1) 32 #[Value.int IntKind.u64 0, Value.slice none 0 0] := by subst hw0; exact (Bk.at (by simp)).alloc _
  have b0 : Bk w0 (w.heap.size + 1 + 1 + 1) 32 #[Value.int IntKind.u64 e, Value.slice none 0 0] := by subst hw0; exact Bk.at (by simp)
  rw [← hw0]
  clear hw0
  have S0 := Lib.hid s0
  clear s0
  have X : Ext w0 w0.drew := (Ext.refl w0).drew
  have q1 : ∀ y : Xt w0.drew, y.W.cell? ⟨w.heap.size + 1, 1, none⟩ = some (.slice A2 (K + m) c2) := fun y => (t0.ext (X.trans y.x)).cell 1
  have q2 : ∀ y : Xt w0.drew, y.W.cell? ⟨w.heap.size + 1 + 1 + 1, 1, none⟩ = some (.slice none 0 0) := fun y => (b0.ext (X.trans y.x)).cell 1
  refine wp_region_ord [0,1,0,4,0,28,63,127,255] (.flo [0,1,2,3,4,5] (.one 6 (.flo [7] (.one 8 (.fin))))) (by kernel_rfl) (by kernel_rfl) (by intro _ _ d _ _ h; cases d <;> exact h) ?_
  (refine ord_flo (pick_cons rfl (pick_cons rfl (pick_cons rfl (pick_cons rfl (pick_cons rfl (pick_cons rfl pick_nil)))))) ?_; (repeat (go_big_quiet_step (fail))); refine wpQuiet_nil ?_; show ordWalk _ _ _ _ _ _ _)
  refine ord_one (pick_cons rfl pick_nil) ?_; intro K_ hK_
  go_wp2_with (at_builtin; go_loud (refine wpList_append_two _ elemWords (w.heap.size + 4) _ _ rfl rfl none 0 0 [] rfl (Own.nil _ _ _ _) A2 K c2 (wds (l2.take K)) rfl (hs.ext (x0.trans X)) (wds_one _) (by omega) (by decide) (by have h1 := X.size; have h2 := S0.out; omega) ?_); intro A c w1 o1 g1 z1; clear z1)
  have y1 : Ext w0.drew w1 := Ext.grown (Ext.refl _) g1 (fun k e => nomatch e)
  have Y : Ext w0 w1 := X.trans y1
  have x1 := x0.trans Y
  have p1 := p0.ext Y
  have t1 := t0.ext Y
  have r1 := r0.ext Y
  have b1 := b0.ext Y
  have z1 := b1.cell 1
  have z2 := b1.free 1
  have O1 : Own w1 (w.heap.size + 4) 45 1 A K c (wds (l2.take K)) := by have := o1; rwa [Nat.zero_add, List.nil_append] at this
  clear q1 q2 o1 g1
  go_simp
  (refine ord_flo (pick_cons rfl pick_nil) ?_; (repeat (go_big_quiet_step (fail))); refine wpQuiet_nil ?_; show ordWalk _ _ _ _ _ _ _)
  refine ord_one (pick_cons rfl pick_nil) ?_; intro K_ hK_
  go_wp2
  refine ord_fin ?_
  have hng : blk A c ≠ some (w.heap.size + 1 + 1 + 1) := O1.ne (by omega)
  obtain ⟨wc, hwc⟩ : ∃ wc, wc = w1.setCell ⟨w.heap.size + 1 + 1 + 1, 1, none⟩ (.slice A K c) := ⟨_, rfl⟩
  have pc : Bk wc w.heap.size 47 #[Value.int IntKind.i64 m, Value.int IntKind.u32 a, Value.slice A1 n1 c1] := hwc ▸ p1.far (p := ⟨w.heap.size + 1 + 1 + 1, 1, none⟩) (by simp; omega) _
  have tc : Bk wc (w.heap.size + 1) 32 #[Value.int IntKind.u64 e, Value.slice A2 (K + m) c2] := hwc ▸ t1.far (p := ⟨w.heap.size + 1 + 1 + 1, 1, none⟩) (by simp) _
  have rc : Bk wc (w.heap.size + 1 + 1) 32 #[Value.int IntKind.u64 0, Value.slice none 0 0] := hwc ▸ r1.far (p := ⟨w.heap.size + 1 + 1 + 1, 1, none⟩) (by simp) _
  have bx : Bk wc (w.heap.size + 1 + 1 + 1) 32 #[Value.int IntKind.u64 e, Value.slice A K c] := hwc ▸ b1.set 1 _
  have ho : Own wc (w.heap.size + 4) 45 1 A K c (wds (l2.take K)) := hwc ▸ O1.far hng _
  have x00 : Ext w wc := hwc ▸ x1.set (p := ⟨w.heap.size + 1 + 1 + 1, 1, none⟩) (by simp; omega) _
  rw [← hwc]
  have hcs : w.heap.size + 4 ≤ wc.heap.size := by have := Y.size; have := S0.out; rw [hwc]; simp; omega
  clear hwc O1 p1 t1 r1 b1 p0 t0 r0 b0 X Y y1 x0 x1 z1 z2
  have k1 : wc.cell? ⟨w.heap.size, 1, none⟩ = some (.int .u32 a) := pc.cell 1
  have k2 : wc.cell? ⟨w.heap.size, 2, none⟩ = some (.slice A1 n1 c1) := pc.cell 2
  have k3 : wc.cell? ⟨w.heap.size + 1 + 1 + 1, 0, none⟩ = some (.int .u64 e) := bx.cell 0
  have k4 : wc.cell? ⟨w.heap.size + 1 + 1 + 1, 1, none⟩ = some (.slice A K c) := bx.cell 1
  have k5 := bx.free 0
  have k6 := bx.free 1
  have k7 : wc.cell? ⟨w.heap.size + 1 + 1, 0, none⟩ = some (.int .u64 0) := rc.cell 0
  have k8 : wc.cell? ⟨w.heap.size + 1 + 1, 1, none⟩ = some (.slice none 0 0) := rc.cell 1
  have k9 := rc.free 0
  have k10 := rc.free 1
  have k11 : wc.cell? ⟨w.heap.size + 1, 0, none⟩ = some (.int .u64 e) := tc.cell 0
  have wa : IntKind.u64.wrap a = a := by rw [IntKind.wrap_u64]; omega
  rcases Nat.eq_zero_or_pos K with hK | hK
  · subst hK
    by_cases hov : 18446744073709551615 - a < e
    · have A0 : applyK 0 a l1 e l2 = ((0, []), 41) := by simp [applyK, hov]
      have AH := Lib.hid A0
      have we : IntKind.u64.wrap (e + a) = e + a - 18446744073709551616 := by rw [IntKind.wrap_u64]; omega
      clear A0
      go_wp2
      refine bodyPost_ret (v := .tuple #[.agg #[.int .u64 0, .slice none 0 0], .int .i64 41]) (by simp only [results, Try.results11]; go_simp) rfl ?_
      rw [AH.out]
      refine ⟨none, 0, rfl, Own.nil _ _ _ _, ?_⟩
      (repeat' (first | with_reducible exact x00 | with_reducible refine Ext.drew ?_ | with_reducible refine Ext.drewN ?_ _ | with_reducible refine Ext.alloc ?_ _ | with_reducible refine Ext.set ?_ ?_ _ | omega | (simp; done) | (simp; omega)))
    · have we : IntKind.u64.wrap (e + a) = e + a := by rw [IntKind.wrap_u64]; omega
      by_cases hlong : 3 < n1
      · have A0 : applyK 0 a l1 e l2 = ((0, []), 40) := by simp [applyK, hov, h1.wlen, hlong]
        have AH := Lib.hid A0
        clear A0
        go_wp2
        refine bodyPost_ret (v := .tuple #[.agg #[.int .u64 0, .slice none 0 0], .int .i64 40]) (by simp only [results, Try.results11]; go_simp) rfl ?_
        rw [AH.out]
        refine ⟨none, 0, rfl, Own.nil _ _ _ _, ?_⟩
        (repeat' (first | with_reducible exact x00 | with_reducible refine Ext.drew ?_ | with_reducible refine Ext.drewN ?_ _ | with_reducible refine Ext.alloc ?_ _ | with_reducible refine Ext.set ?_ ?_ _ | omega | (simp; done) | (simp; omega)))
      · have A0 : applyK 0 a l1 e l2 = ((e + a, l1), 0) := by simp [applyK, hov, h1.wlen, hlong]
        have AH := Lib.hid A0
        clear A0
        have bx2 := bx.set 0 (.int .u64 (e + a))
        have rc2 := rc.far (p := ⟨w.heap.size + 1 + 1 + 1, 0, none⟩) (by simp) (.int .u64 (e + a))
        go_wp2_with (at_builtin; go_loud (refine wpList_append_two _ elemWords (w.heap.size + 4) _ _ rfl rfl A 0 c _ rfl (ho.far hng _) A1 n1 c1 (wds l1) rfl (h1.ext (x00.set (p := ⟨w.heap.size + 1 + 1 + 1, 0, none⟩) (by simp; omega) _)) (wds_one _) (by omega) (by decide) (by simp; omega) ?_); intro A' c' w2 o2 g2 z2; have bx3 := bx2.grown g2 hng; have rc3 := rc2.grown g2 (ho.ne (by omega)); have y0 := bx3.cell 0; have y1 := bx3.cell 1; have y2 := bx3.free 0; have y3 := bx3.free 1; have y4 := rc3.cell 0; have y5 := rc3.cell 1; have y6 := rc3.free 0; have y7 := rc3.free 1; have XX : Hid (Ext w w2) := Lib.hid ((x00.set (p := ⟨w.heap.size + 1 + 1 + 1, 0, none⟩) (by simp; omega) _).grown g2 (fun k hk => by have := (ho.lt k hk).1; omega)); have O2 := Lib.hid o2; clear z2 bx3 rc3 g2 o2)
        refine bodyPost_ret (v := .tuple #[.agg #[.int .u64 (e + a), .slice A' n1 c'], .int .i64 0]) (by simp only [results, Try.results11]; go_simp) rfl ?_
        rw [AH.out]
        have hl1 := h1.wlen
        subst hl1
        refine ⟨A', c', rfl, ?_, ?_⟩
        · have o3 := O2.out
          have e0 : wds (List.take 0 l2) ++ wds l1 = wds l1 := by simp [wds]
          rw [e0, Nat.zero_add] at o3
          exact (((o3.mono (by omega)).far (o3.ne (by simp)) _).far (o3.ne (by simp)) _).far (o3.ne (by simp)) _
        · have y := XX.out
          (repeat' (first | with_reducible exact y | with_reducible refine Ext.drew ?_ | with_reducible refine Ext.drewN ?_ _ | with_reducible refine Ext.alloc ?_ _ | with_reducible refine Ext.set ?_ ?_ _ | omega | (simp; done) | (simp; omega)))
  · obtain ⟨gA, rfl, hbA, hgA, hgA2, hcA, hfA⟩ := ho.form hK
    have hl2 : K ≤ l2.length := by have := h2.wlen; omega
    have i0 : (0 : Int) ≤ (K : Int) - 1 := by omega
    have i1 : (K : Int) - 1 < (K : Int) := by omega
    have i2 : IntKind.i64.wrap ((K : Int) - 1) = (K : Int) - 1 := IntWalk.i64_in _ (by omega)
    have i3 : ((K : Int) - 1).toNat = K - 1 := by omega
    have kz : ((K : Int) == 0) = false := by simp; omega
    obtain ⟨v, hv⟩ : ∃ v, l2.getD (K - 1) 0 = v := ⟨_, rfl⟩
    have cA : wc.cell? ⟨gA, K - 1, none⟩ = some (.int .u32 v) := hcA _ _ (by
      rw [← hv]
      simp only [wds, List.getElem?_map, List.getElem?_take, if_pos (show K - 1 < K by omega), List.getD_eq_getElem?_getD, List.getElem?_eq_getElem (show K - 1 < l2.length by omega)]
      rfl)
    have fA := hfA (K - 1)
    have uu := u2.getD (K - 1)
    rw [hv] at uu
    have HVV := Lib.hid hv
    have wv : IntKind.u64.wrap v = v := by rw [IntKind.wrap_u64]; omega
    have wva : IntKind.u64.wrap (v + a) = v + a := by rw [IntKind.wrap_u64]; omega
    clear hcA hfA hv
    by_cases hov : 4294967295 - a < v
    · have A0 : applyK K a l1 e l2 = ((0, []), 41) := by unfold applyK; rw [if_neg (by omega), HVV.out, if_pos hov]
      have AH := Lib.hid A0
      clear A0
      have X : Ext wc wc.drew := (Ext.refl wc).drew
      have d1 : ∀ y : Xt wc.drew, y.W.cell? ⟨w.heap.size, 1, none⟩ = some (.int .u32 a) := fun y => y.x.cell (X.cell k1)
      have d4 : ∀ y : Xt wc.drew, y.W.cell? ⟨w.heap.size + 1 + 1 + 1, 1, none⟩ = some (.slice (some ⟨gA, 0, none⟩) K c) := fun y => y.x.cell (X.cell k4)
      have dA : ∀ y : Xt wc.drew, y.W.cell? ⟨gA, K - 1, none⟩ = some (.int .u32 v) := fun y => y.x.cell (X.cell cA)
      go_upto_region 10 with fail
      refine wp_region_ord [0,1,0,4,15,31,63,0,128,384,1023,2047] (.flo [0,1,2,3,4,5,6,7,8,9,10,11] (.fin)) (by kernel_rfl) (by kernel_rfl) (by intro _ _ d _ _ h; cases d <;> exact h) ?_
      (refine ord_flo (pick_cons rfl (pick_cons rfl (pick_cons rfl (pick_cons rfl (pick_cons rfl (pick_cons rfl (pick_cons rfl (pick_cons rfl (pick_cons rfl (pick_cons rfl (pick_cons rfl (pick_cons rfl pick_nil)))))))))))) ?_; (repeat (go_big_quiet_step (fail))); refine wpQuiet_nil ?_; show ordWalk _ _ _ _ _ _ _)
      refine ord_fin ?_
      go_wp2
      refine bodyPost_ret (v := .tuple #[.agg #[.int .u64 0, .slice none 0 0], .int .i64 41]) (by simp only [results, Try.results11]; go_simp) rfl ?_
      rw [AH.out]
      refine ⟨none, 0, rfl, Own.nil _ _ _ _, ?_⟩
      (repeat' (first | with_reducible exact x00 | with_reducible refine Ext.drew ?_ | with_reducible refine Ext.drewN ?_ _ | with_reducible refine Ext.alloc ?_ _ | with_reducible refine Ext.set ?_ ?_ _ | omega | (simp; done) | (simp; omega)))
    · have LL : v + a ≤ 4294967295 := by omega
      have w32 : IntKind.u32.wrap (v + a) = v + a := by rw [IntKind.wrap_u32]; omega
      have X : Ext wc wc.drew := (Ext.refl wc).drew
      have d1 : ∀ y : Xt wc.drew, y.W.cell? ⟨w.heap.size, 1, none⟩ = some (.int .u32 a) := fun y => y.x.cell (X.cell k1)
      have d4 : ∀ y : Xt wc.drew, y.W.cell? ⟨w.heap.size + 1 + 1 + 1, 1, none⟩ = some (.slice (some ⟨gA, 0, none⟩) K c) := fun y => y.x.cell (X.cell k4)
      have dA : ∀ y : Xt wc.drew, y.W.cell? ⟨gA, K - 1, none⟩ = some (.int .u32 v) := fun y => y.x.cell (X.cell cA)
      go_upto_region 10 with fail
      refine wp_region_ord [0,1,0,4,15,31,63,0,128,384,1023,2047] (.flo [0,1,2,3,4,5,6,7,8,9,10,11] (.fin)) (by kernel_rfl) (by kernel_rfl) (by intro _ _ d _ _ h; cases d <;> exact h) ?_
      (refine ord_flo (pick_cons rfl (pick_cons rfl (pick_cons rfl (pick_cons rfl (pick_cons rfl (pick_cons rfl (pick_cons rfl (pick_cons rfl (pick_cons rfl (pick_cons rfl (pick_cons rfl (pick_cons rfl pick_nil)))))))))))) ?_; (repeat (go_big_quiet_step (fail))); refine wpQuiet_nil ?_; show ordWalk _ _ _ _ _ _ _)
      refine ord_fin ?_
      have X2 : Ext wc wc.drew.drew := X.drew
      have d1' : ∀ y : Xt wc.drew.drew, y.W.cell? ⟨w.heap.size, 1, none⟩ = some (.int .u32 a) := fun y => y.x.cell (X2.cell k1)
      have d4' : ∀ y : Xt wc.drew.drew, y.W.cell? ⟨w.heap.size + 1 + 1 + 1, 1, none⟩ = some (.slice (some ⟨gA, 0, none⟩) K c) := fun y => y.x.cell (X2.cell k4)
      have dA' : ∀ y : Xt wc.drew.drew, y.W.cell? ⟨gA, K - 1, none⟩ = some (.int .u32 v) := fun y => y.x.cell (X2.cell cA)
      have gx : ¬ gA = w.heap.size + 1 + 1 + 1 := by omega
      have gx' : ¬ w.heap.size + 1 + 1 + 1 = gA := by omega
      have gr : ¬ gA = w.heap.size + 1 + 1 := by omega
      have gr' : ¬ w.heap.size + 1 + 1 = gA := by omega
      have gp' : ¬ w.heap.size = gA := by omega
      go_upto_region 12 with fail
      refine wp_region_ord [0,1,0,4,15,31,0,64,255,511,1023] (.flo [0,1,2,3,4,5,6,7,8,9] (.one 10 (.fin))) (by kernel_rfl) (by kernel_rfl) (by intro _ _ d _ _ h; cases d <;> exact h) ?_
      (refine ord_flo (pick_cons rfl (pick_cons rfl (pick_cons rfl (pick_cons rfl (pick_cons rfl (pick_cons rfl (pick_cons rfl (pick_cons rfl (pick_cons rfl (pick_cons rfl pick_nil)))))))))) ?_; (repeat (go_big_quiet_step (fail))); refine wpQuiet_nil ?_; show ordWalk _ _ _ _ _ _ _)
      refine ord_one (pick_cons rfl pick_nil) ?_; intro K_ hK_
      go_wp2
      refine ord_fin ?_
      by_cases hlong : 3 < K + n1
      · have A0 : applyK K a l1 e l2 = ((0, []), 40) := by unfold applyK; rw [if_neg (by omega), HVV.out, if_neg (by omega), if_pos (by rw [h1.wlen]; omega)]
        have AH := Lib.hid A0
        clear A0
        go_wp2
        refine bodyPost_ret (v := .tuple #[.agg #[.int .u64 0, .slice none 0 0], .int .i64 40]) (by simp only [results, Try.results11]; go_simp) rfl ?_
        rw [AH.out]
        refine ⟨none, 0, rfl, Own.nil _ _ _ _, ?_⟩
        (repeat' (first | with_reducible exact x00 | with_reducible refine Ext.drew ?_ | with_reducible refine Ext.drewN ?_ _ | with_reducible refine Ext.alloc ?_ _ | with_reducible refine Ext.set ?_ ?_ _ | omega | (simp; done) | (simp; omega)))
      · have A0 : applyK K a l1 e l2 = ((e, l2.take (K - 1) ++ [l2.getD (K - 1) 0 + a] ++ l1), 0) := by unfold applyK; rw [if_neg (by omega), HVV.out, if_neg (by omega), if_neg (by rw [h1.wlen]; omega)]
        have AH := Lib.hid A0
        clear A0
        have hoX : Own (wc.drew.drew.setCell ⟨gA, K - 1, none⟩ (.int .u32 (v + a))) (w.heap.size + 4) 45 1 (some ⟨gA, 0, none⟩) K c ((wds (l2.take K)).set (K - 1) (.int .u32 (v + a))) := (ho.put (K - 1) _).drew.drew
        have xX : Ext w (wc.drew.drew.setCell ⟨gA, K - 1, none⟩ (.int .u32 (v + a))) := (x00.drew.drew).set (p := ⟨gA, K - 1, none⟩) (by simp; omega) _
        have bx2 : Bk (wc.drew.drew.setCell ⟨gA, K - 1, none⟩ (.int .u32 (v + a))) (w.heap.size + 1 + 1 + 1) 32 #[Value.int IntKind.u64 e, Value.slice (some ⟨gA, 0, none⟩) K c] := (bx.drew.drew).far (p := ⟨gA, K - 1, none⟩) (by simp; omega) _
        have rc2 : Bk (wc.drew.drew.setCell ⟨gA, K - 1, none⟩ (.int .u32 (v + a))) (w.heap.size + 1 + 1) 32 #[Value.int IntKind.u64 0, Value.slice none 0 0] := (rc.drew.drew).far (p := ⟨gA, K - 1, none⟩) (by simp; omega) _
        go_wp2_with (at_builtin; go_loud (refine wpList_append_two _ elemWords (w.heap.size + 4) _ _ rfl rfl (some ⟨gA, 0, none⟩) K c _ rfl hoX A1 n1 c1 (wds l1) rfl (h1.ext xX) (wds_one _) (by omega) (by decide) (by simp; omega) ?_); intro A' c' w2 o2 g2 z2; have bx3 := bx2.grown g2 hng; have rc3 := rc2.grown g2 (hoX.ne (by omega)); have y0 := bx3.cell 0; have y1 := bx3.cell 1; have y2 := bx3.free 0; have y3 := bx3.free 1; have y4 := rc3.cell 0; have y5 := rc3.cell 1; have y6 := rc3.free 0; have y7 := rc3.free 1; have XX : Hid (Ext w w2) := Lib.hid (xX.grown g2 (fun k hk => by have := (hoX.lt k hk).1; omega)); have O2 := Lib.hid o2; clear z2 bx3 rc3 g2 o2)
        refine bodyPost_ret (v := .tuple #[.agg #[.int .u64 e, .slice A' (K + n1) c'], .int .i64 0]) (by simp only [results, Try.results11]; go_simp) rfl ?_
        rw [AH.out]
        have hl1 := h1.wlen
        have e0 : (l2.take (K - 1) ++ [l2.getD (K - 1) 0 + a] ++ l1).length = K + n1 := by simp; omega
        refine ⟨A', c', by simp only [e0], ?_, ?_⟩
        · have o3 := O2.out
          have e2 : (wds (l2.take K)).set (K - 1) (.int .u32 (v + a)) ++ wds l1 = wds (l2.take (K - 1) ++ [l2.getD (K - 1) 0 + a] ++ l1) := by
            rw [HVV.out, wds_set_last _ _ _ hK hl2, wds_append]
          rw [e2] at o3
          simp only [e0]
          exact (((o3.mono (by omega)).far (o3.ne (by simp)) _).far (o3.ne (by simp)) _).far (o3.ne (by simp)) _
        · have y := XX.out
          (repeat' (first | with_reducible exact y | with_reducible refine Ext.drew ?_ | with_reducible refine Ext.drewN ?_ _ | with_reducible refine Ext.alloc ?_ _ | with_reducible refine Ext.set ?_ ?_ _ | omega | (simp; done) | (simp; omega)))
theorem rapply_any (L a : Int) (A1 A2 : Option Addr) (n1 n2 c1 c2 : Nat) (l1 l2 : List Int) (e : Int) (w : World) (h1 : Sl w 1 A1 n1 c1 (wds l1)) (h2 : Sl w 1 A2 n2 c2 (wds l2)) (u2 : U32 l2)
    (ha : 0 ≤ a ∧ a ≤ 4294967295) (he : 0 ≤ e ∧ e ≤ 18446744073709551615) (hn1 : n1 ≤ 1000000) (hn2 : n2 ≤ 1000000) :
    Calls Try.prog 11 #[.agg #[.int .i64 L, .int .u32 a, .slice A1 n1 c1], .agg #[.int .u64 e, .slice A2 n2 c2]] w (RTimeOut w (applyT L a l1 e l2)) := by
  have hw := h2.wlen
  by_cases hL : L < 0
  · refine (rapply_neg L a A1 A2 n1 n2 c1 c2 e w hL).mono ?_
    rintro r w1 ⟨rfl, x1⟩
    unfold applyT
    rw [if_pos (.inl hL)]
    exact ⟨none, 0, rfl, Own.nil _ _ _ _, x1⟩
  · by_cases h : (n2 : Int) < L
    · refine (rapply_less L a A1 A2 n1 n2 c1 c2 e w (by omega) h).mono ?_
      rintro r w1 ⟨rfl, x1⟩
      unfold applyT
      rw [if_pos (.inr (by rw [hw]; exact h))]
      exact ⟨none, 0, rfl, Own.nil _ _ _ _, x1⟩
    · obtain ⟨m, rfl⟩ := Int.eq_ofNat_of_zero_le (by omega : 0 ≤ L)
      obtain ⟨K, rfl⟩ : ∃ K, n2 = K + m := ⟨n2 - m, by omega⟩
      have := rapply_main K m a A1 A2 n1 c1 c2 l1 l2 e w h1 h2 u2 ha he hn1 hn2
      unfold applyT
      rw [if_neg (by rw [hw]; omega), show l2.length - (m : Int).toNat = K by rw [hw]; omega]
      exact this
end Go.Proofs.Yteklohamkmiphaa
