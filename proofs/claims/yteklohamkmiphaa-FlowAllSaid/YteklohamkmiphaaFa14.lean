/- penstockref06.Check: whether a graph may be. penstockref06.All: from all places to all inputs. flow.All: from all places to all inputs. What is asked of a graph, out of what is known of one that is small, and of the chapter's. penstockref00.SamePath, SamePaths: of what is the same they say so. penstocklaw06.known: what the chapter's examples fix holds. penstocklaw06.FlowAll: All tells what the chapter's answer does. Conditions: each theorem states its own. -/
import Derived.Test.YteklohamkmiphaaFa11
import Derived.Test.YteklohamkmiphaaFa12
import Derived.Test.YteklohamkmiphaaFa13
import Derived.Test.YteklohamkmiphaaFa10
import Derived.Test.YteklohamkmiphaaFa7
import Derived.Deep.LoopGhost
import Derived.Test.YteklohamkmiphaaFa8
import Derived.Test.YteklohamkmiphaaFa2
import Derived.Test.YteklohamkmiphaaFa4
namespace Go.Proofs.Yteklohamkmiphaa
open Go.RowKit

theorem check60 {g : Gr} {c : Int} (hc : CheckIs g c) (h : formT g = false) : c = 60 := hc.unique (.inl ⟨h, rfl⟩)
theorem check61 {g : Gr} {c : Int} (hc : CheckIs g c) (h : formT g = true) (k : Cyc g) : c = 61 := hc.unique (.inr (.inl ⟨h, k, rfl⟩))
theorem check00 {g : Gr} {c : Int} (hc : CheckIs g c) (h : formT g = true) (k : ¬ Cyc g) : c = 0 := hc.unique (.inr (.inr ⟨h, k, rfl⟩))
theorem form_bad_node {g : Gm} {k : Nat} (hk : k < g.nodes.length) (h : nodeT (g.nodes.getD k Nm.zero).v = false) : formT g.v = false := by
  unfold formT
  rw [Bool.and_eq_false_iff]
  left
  refine Bool.eq_false_iff.2 fun e => ?_
  have := List.all_eq_true.1 e _ (List.mem_map.2 ⟨_, getD_mem' Nm.zero hk, rfl⟩)
  rw [h] at this
  cases this
theorem form_bad_edge {g : Gm} {k : Nat} (hk : k < g.edges.length) (h : edgeT g.v (g.edges.getD k edZ) = false) : formT g.v = false := by
  unfold formT
  rw [Bool.and_eq_false_iff]
  right
  refine Bool.eq_false_iff.2 fun e => ?_
  have this : edgeT g.v (g.edges.getD k edZ) = true := List.all_eq_true.1 e _ (getD_mem' edZ hk)
  rw [h] at this
  cases this
theorem all_getD {α : Type} {z : α} {l : List α} {P : α → Prop} (h : ∀ k, k < l.length → P (l.getD k z)) : ∀ x ∈ l, P x := fun x hx => by
  obtain ⟨k, hk, rfl⟩ := List.getElem_of_mem hx
  have := h k hk
  rw [List.getD_eq_getElem?_getD, List.getElem?_eq_getElem hk] at this
  exact this
theorem form_good {g : Gm} (h1 : ∀ x ∈ g.nodes, nodeT x.v = true) (h2 : ∀ e ∈ g.edges, edgeT g.v e = true) : formT g.v = true := by
  unfold formT
  rw [Bool.and_eq_true]
  refine ⟨List.all_eq_true.2 fun x hx => ?_, List.all_eq_true.2 fun e he => h2 e he⟩
  obtain ⟨y, hy, rfl⟩ := List.mem_map.1 hx
  exact h1 y hy
/-- a route back to a place that does not increase the time -/
def BadQ (g : Gr) (q : Pt) : Prop := ∃ w, Found g q False q w ∧ pl w idW (g.dp q) = true
theorem found_no {g : Gr} {fr q : Pt} {v : Way} (h : Found g fr (false = true) q v) : Found g fr False q v := by
  rcases h with ⟨h, _⟩ | h
  · cases h
  · exact .inr h
theorem found_no2 {g : Gr} {fr q : Pt} {v : Way} (h : Found g fr False q v) : Found g fr (false = true) q v := by
  rcases h with ⟨h, _⟩ | h
  · exact h.elim
  · exact .inr h
theorem not_bad {g : Gr} (G : GOK g) {q : Pt} (hq : (g.dep q).isSome) {K : Pt → List Way} (T : Tab g q (false = true) K) (h : ∀ x ∈ K q, pl x idW (g.dp q) = false) : ¬ BadQ g q := by
  rintro ⟨w, hf, hp⟩
  obtain ⟨x, hx, hxw⟩ := T.cl q w (found_no2 hf)
  have gx := (G.route hq (T.rt q x hx).route).2
  have gw := (G.route hq hf.route).2
  have gi := (G.route hq (Route.nil (g := g) (fr := q))).2
  have := h x hx
  rw [pl_trans gx gw gi hxw hp] at this
  cases this
theorem rpl_at {w : World} {x : Pm} {d : Int} {bb : Bool} {n : Nat} (hn : n = x.w.enter.length) (h : PmR w x ∧ Few32 x.w) (hb : pl x.w idW d = bb) : Calls Try.prog 62 #[.agg #[.int .i64 x.w.leave, .int .u32 x.w.add, .slice x.A n x.c], .agg #[.int .i64 0, .int .u32 0, .slice none 0 0], .int .i64 d] w fun e w' => e = .returned (.bool bb) ∧ Ext w w' := by
  subst hn
  have q := rpleq_any x.w.leave x.w.add 0 0 d x.A none x.w.enter.length 0 x.c 0 x.w.enter [] w h.1 (Sl.nil _ _) h.2.1 (fun y hy => nomatch hy) h.2.2 (by omega)
  rw [show pathLeqT x.w.leave x.w.add x.w.enter 0 0 [] d = bb from hb] at q
  exact q
set_option maxRecDepth 100000 in
set_option maxHeartbeats 8000000 in
theorem rcheck6_any (NA : Option Addr) (Nc : Nat) (nodes : List Nm) (EA : Option Addr) (Ec : Nat) (edges : List (Pt × Pt)) (nl el : Nat) (w : World) (hk : Hid (GrOk w NA Nc nodes EA Ec edges nl el)) (c : Int) (hc : Hid (CheckIs (Gm.v ⟨NA, Nc, nodes, EA, Ec, edges⟩) c)) :
    Calls Try.prog 36 #[.agg #[.slice NA nl Nc, .slice EA el Ec]] w fun e w' => e = .returned (.int .i64 c) ∧ Ext w w' := by
  obtain ⟨g, hg⟩ : ∃ g : Gm, g = ⟨NA, Nc, nodes, EA, Ec, edges⟩ := ⟨_, rfl⟩
  have HGV := Lib.hid hg
  have HCI : Hid (CheckIs g.v c) := Lib.hid (by rw [hg]; exact hc.out)
  obtain ⟨w0, hw0⟩ : ∃ w0, w0 = w.alloc (.cells #[.slice NA nl Nc, .slice EA el Ec] 25) := ⟨_, rfl⟩
  obtain ⟨b, hb⟩ : ∃ b, b = w.heap.size := ⟨_, rfl⟩
  have X0 : Hid (Ext w w0) := Lib.hid (by rw [hw0]; exact (Ext.refl w).alloc _)
  have BG : Hid (Bk w0 b 25 #[.slice NA nl Nc, .slice EA el Ec]) := Lib.hid (by rw [hw0, hb]; exact Bk.new _ _ _)
  have g0 := BG.out.cell 0
  have g1 := BG.out.cell 1
  have hn9 := hk.out.n9
  have he9 := hk.out.e9
  have hz1 : ¬ (4000 : Int) < (nl : Int) := by omega
  have hz2 : ¬ (16000 : Int) < (el : Int) := by omega
  have HNB : Hid (∀ k, k < nl → nodeT (nodes.getD k Nm.zero).v = false → c = 60) := Lib.hid (fun k hkk h => check60 HCI.out (form_bad_node (k := k) (by rw [hg]; show k < nodes.length; rw [← hk.out.l]; exact hkk) (by rw [hg]; exact h)))
  have HEB : Hid (∀ k, k < el → edgeT g.v (edges.getD k edZ) = false → c = 60) := Lib.hid (fun k hkk h => check60 HCI.out (form_bad_edge (k := k) (by rw [hg]; show k < edges.length; rw [← hk.out.e]; exact hkk) (by rw [hg] at h ⊢; exact h)))
  clear hg
  go_enter Try.func36, Try.ntmps36
  go_upto_region 1 with fail
  rw [← hw0, ← hb]
  clear hw0 hb
  go_wp2
  clear g0 g1 hz1 hz2
  go_loopg [3, 4] nl (fun z v3 _ wr => ∃ i : Nat, v3 = .int .i64 i ∧ i ≤ nl ∧ z = nl - i ∧ Hid (∀ k, k < i → nodeT (nodes.getD k Nm.zero).v = true) ∧ Hid (Ext w0 wr))
  case atStart => exact ⟨0, rfl, Nat.zero_le _, rfl, Lib.hid (fun k h => absurd h (Nat.not_lt_zero _)), Lib.hid (Ext.refl _)⟩
  case round =>
    obtain ⟨i, rfl, hi, rfl, HNI, XR⟩ := hrel
    have g0 := (BG.out.ext XR.out).cell 0
    by_cases hlt : i < nl
    · have hltz : (i : Int) < (nl : Int) := by omega
      have hiL : i < nodes.length := by rw [← hk.out.l]; exact hlt
      obtain ⟨ad, hNA, n0, n1, n2, n3⟩ := (hk.out.ext (X0.out.trans XR.out)).g.nat hiL
      simp only at hNA n0 n1 n2 n3
      subst hNA
      have hmm := getD_mem' Nm.zero hiL
      have hNR := (hk.out.ext (X0.out.trans XR.out)).g.nd _ hmm
      have h6 := hk.out.h6.nd _ hmm
      have hnb := HNB.out i hlt
      have HNS : Hid (nodeT (nodes.getD i Nm.zero).v = true → ∀ k, k < i + 1 → nodeT (nodes.getD k Nm.zero).v = true) := Lib.hid (fun h k hkk => by
        by_cases e : k = i
        · rw [e]; exact h
        · exact HNI.out k (by omega))
      obtain ⟨⟨nin, nou, nde, iA, ic, inner⟩, hx⟩ : ∃ e, nodes.getD i Nm.zero = e := ⟨_, rfl⟩
      rw [hx] at n0 n1 n2 n3 hNR h6 hnb HNS
      simp only at n0 n1 n2 n3
      obtain ⟨ni, hni⟩ : ∃ x, x = inner.length := ⟨_, rfl⟩
      rw [← hni] at n3
      obtain ⟨nv, hnv⟩ : ∃ x, nodeT (Nm.v ⟨nin, nou, nde, iA, ic, inner⟩) = x := ⟨_, rfl⟩
      have HC := Lib.hid (rnode_any nin nou nde iA ni ic inner wr (Lib.hid hni) (Lib.hid hNR) (Lib.hid h6) nv (Lib.hid hnv))
      rw [hnv] at hnb HNS
      have HNB1 := Lib.hid hnb
      clear hx hni hnv hNR h6 hnb hmm hiL
      cases nv with
      | false =>
        obtain rfl := HNB1.out rfl
        go_wp2_with (go_at_call 60; go_loud (refine HC.out.mono ?_); rintro r w1 ⟨rfl, x1⟩; have X1 := Lib.hid (X0.out.trans (XR.out.trans x1)); clear x1)
        go_ret
        exact ⟨rfl, X1.out⟩
      | true =>
        have HNS2 := Lib.hid (HNS.out rfl)
        go_wp2_with (go_at_call 60; go_loud (refine HC.out.mono ?_); rintro r w1 ⟨rfl, x1⟩; have X1 := Lib.hid (XR.out.trans x1); clear x1)
        go_roundg (nl - (i + 1))
        case measure => omega
        case rel => exact ⟨i + 1, by go_num, by omega, rfl, HNS2, X1⟩
    · obtain rfl : nl = i := by omega
      have hltz : ¬ (nl : Int) < (nl : Int) := by omega
      have HN : Hid (∀ x ∈ nodes, nodeT x.v = true) := Lib.hid (all_getD (z := Nm.zero) (by rw [← hk.out.l]; exact HNI.out))
      obtain ⟨w1, hw1⟩ : ∃ x : World, x = wr := ⟨_, rfl⟩
      rw [← hw1] at XR g0 ⊢
      clear hw1 hlt hi
      go_wp2
      clear g0
      go_loopg [5, 6] el (fun z v5 _ wr => ∃ i : Nat, v5 = .int .i64 i ∧ i ≤ el ∧ z = el - i ∧ Hid (∀ k, k < i → edgeT g.v (edges.getD k edZ) = true) ∧ Hid (Ext w1 wr))
      case atStart => exact ⟨0, rfl, Nat.zero_le _, rfl, Lib.hid (fun k h => absurd h (Nat.not_lt_zero _)), Lib.hid (Ext.refl _)⟩
      case round =>
        obtain ⟨i, rfl, hi, rfl, HEI, XR2⟩ := hrel
        have XR3 := Lib.hid (XR.out.trans XR2.out)
        have g1 := (BG.out.ext XR3.out).cell 1
        by_cases hlt : i < el
        · have hltz : (i : Int) < (el : Int) := by omega
          have hiL : i < edges.length := by rw [← hk.out.e]; exact hlt
          obtain ⟨ad, hEA, e0, e1, e2, e3, e4, e5⟩ := (hk.out.ext (X0.out.trans XR3.out)).g.eat hiL
          simp only at hEA e0 e1 e2 e3 e4 e5
          subst hEA
          have heb := HEB.out i hlt
          have HES : Hid (edgeT g.v (edges.getD i edZ) = true → ∀ k, k < i + 1 → edgeT g.v (edges.getD k edZ) = true) := Lib.hid (fun h k hkk => by
            by_cases e : k = i
            · rw [e]; exact h
            · exact HEI.out k (by omega))
          obtain ⟨⟨⟨en, eo, ep⟩, ⟨dn, d_, dp⟩⟩, hx⟩ : ∃ e, edges.getD i edZ = e := ⟨_, rfl⟩
          rw [hx] at e0 e1 e2 e3 e4 e5 heb HES
          simp only at e0 e1 e2 e3 e4 e5
          obtain ⟨ev, hev⟩ : ∃ x, edgeT g.v (⟨en, eo, ep⟩, ⟨dn, d_, dp⟩) = x := ⟨_, rfl⟩
          have HC := Lib.hid (fun W (x : Ext wr W) => redge_any NA Nc nodes (some ad) Ec edges nl el en eo ep dn d_ dp W (Lib.hid (hk.out.ext (X0.out.trans (XR3.out.trans x)))) HN ev (Lib.hid (by rw [← HGV.out]; exact hev)))
          rw [hev] at heb HES
          have HEB1 := Lib.hid heb
          have XE : Ext wr wr.drew := (Ext.refl wr).drew
          have E0 : ∀ y : Xt wr.drew, y.W.cell? (ad.add (i * 6)) = some (.int .i64 en) := fun y => (XE.trans y.x).cell e0
          have E1 : ∀ y : Xt wr.drew, y.W.cell? ⟨(ad.add (i * 6)).block, (ad.add (i * 6)).off + 1, none⟩ = some (.bool eo) := fun y => (XE.trans y.x).cell e1
          have E2 : ∀ y : Xt wr.drew, y.W.cell? ⟨(ad.add (i * 6)).block, (ad.add (i * 6)).off + 2, none⟩ = some (.int .i64 ep) := fun y => (XE.trans y.x).cell e2
          have E3 : ∀ y : Xt wr.drew, y.W.cell? ⟨(ad.add (i * 6)).block, (ad.add (i * 6)).off + 3, none⟩ = some (.int .i64 dn) := fun y => (XE.trans y.x).cell e3
          have E4 : ∀ y : Xt wr.drew, y.W.cell? ⟨(ad.add (i * 6)).block, (ad.add (i * 6)).off + 4, none⟩ = some (.bool d_) := fun y => (XE.trans y.x).cell e4
          have E5 : ∀ y : Xt wr.drew, y.W.cell? ⟨(ad.add (i * 6)).block, (ad.add (i * 6)).off + 5, none⟩ = some (.int .i64 dp) := fun y => (XE.trans y.x).cell e5
          have G0 : ∀ y : Xt wr.drew, y.W.cell? ⟨b, 0, none⟩ = some (.slice NA nl Nc) := fun y => (BG.out.ext (XR3.out.trans (XE.trans y.x))).cell 0
          have G1 : ∀ y : Xt wr.drew, y.W.cell? ⟨b, 1, none⟩ = some (.slice (some ad) el Ec) := fun y => (BG.out.ext (XR3.out.trans (XE.trans y.x))).cell 1
          clear hx hev heb hiL e0 e1 e2 e3 e4 e5
          go_upto_region 12 with fail
          refine wp_region_ord [0,0,2,0,14,30,63,127] (.flo [0,1,2,3,4,5] (.one 6 (.flo [7] (.fin)))) (by kernel_rfl) (by kernel_rfl) (by intro _ _ d _ _ h; cases d <;> exact h) ?_
          (refine ord_flo (pick_cons rfl (pick_cons rfl (pick_cons rfl (pick_cons rfl (pick_cons rfl (pick_cons rfl pick_nil)))))) ?_; (repeat (go_big_quiet_step (fail))); refine wpQuiet_nil ?_; show ordWalk _ _ _ _ _ _ _)
          refine ord_one (pick_cons rfl pick_nil) ?_; intro K_ hK_
          go_wp2_with (go_at_call 61; go_loud (refine (HC.out _ XE).mono ?_); rintro r w2 ⟨rfl, x2⟩; have X2 := Lib.hid (XE.trans x2); clear x2)
          (refine ord_flo (pick_cons rfl pick_nil) ?_; (repeat (go_big_quiet_step (fail))); refine wpQuiet_nil ?_; show ordWalk _ _ _ _ _ _ _)
          refine ord_fin ?_
          clear E0 E1 E2 E3 E4 E5 G0 G1 XE
          cases ev with
          | false =>
            obtain rfl := HEB1.out rfl
            go_wp2
            go_ret
            exact ⟨rfl, X0.out.trans (XR3.out.trans X2.out)⟩
          | true =>
            have HES2 := Lib.hid (HES.out rfl)
            go_wp2
            go_roundg (el - (i + 1))
            case measure => omega
            case rel => exact ⟨i + 1, by go_num, by omega, rfl, HES2, Lib.hid (XR2.out.trans X2.out)⟩
        · obtain rfl : el = i := by omega
          have hltz : ¬ (el : Int) < (el : Int) := by omega
          have HEE : Hid (∀ e ∈ edges, edgeT g.v e = true) := Lib.hid (all_getD (z := edZ) (P := fun e => edgeT g.v e = true) (by rw [← hk.out.e]; exact HEI.out))
          have HF : Hid (formT g.v = true) := Lib.hid (form_good (by rw [HGV.out]; exact HN.out) (by have q := HEE.out; rw [HGV.out] at q ⊢; exact q))
          have GK : Hid (GOK g.v) := Lib.hid (formT_ok HF.out (by rw [HGV.out]; exact hk.out.h6.g32))
          obtain ⟨w2, hw2⟩ : ∃ x : World, x = wr := ⟨_, rfl⟩
          rw [← hw2] at XR3 g1 ⊢
          clear hw2 hlt hi XR2 XR HEB HNB HEI HNI
          go_wp2
          clear g1
          go_loopg [7, 8, 9, 10, 11] nl (fun z v7 _ _ _ _ wr => ∃ i : Nat, v7 = .int .i64 i ∧ i ≤ nl ∧ z = nl - i ∧ Hid (∀ k, k < i → ∀ q : Nat, (q : Int) < (nodes.getD k Nm.zero).ins → ¬ BadQ g.v ⟨k, false, q⟩) ∧ Hid (Ext w2 wr))
          case atStart => exact ⟨0, rfl, Nat.zero_le _, rfl, Lib.hid (fun k h => absurd h (Nat.not_lt_zero _)), Lib.hid (Ext.refl _)⟩
          case round =>
            obtain ⟨i, rfl, hi, rfl, HNI, XR⟩ := hrel
            have g0 := (BG.out.ext (XR3.out.trans XR.out)).cell 0
            by_cases hlt : i < nl
            · have hltz : (i : Int) < (nl : Int) := by omega
              have hiL : i < nodes.length := by rw [← hk.out.l]; exact hlt
              obtain ⟨ad, hNA, n0, n1, n2, n3⟩ := (hk.out.ext (X0.out.trans XR3.out)).g.nat hiL
              simp only at hNA n0 n1 n2 n3
              subst hNA
              have hnt := HN.out _ (getD_mem' Nm.zero hiL)
              have HNS : Hid ((∀ q : Nat, (q : Int) < (nodes.getD i Nm.zero).ins → ¬ BadQ g.v ⟨i, false, q⟩) → ∀ k, k < i + 1 → ∀ q : Nat, (q : Int) < (nodes.getD k Nm.zero).ins → ¬ BadQ g.v ⟨k, false, q⟩) := Lib.hid (fun h k hkk => by
                by_cases e : k = i
                · rw [e]; exact h
                · exact HNI.out k (by omega))
              have HDEP : Hid (∀ q : Nat, (q : Int) < (nodes.getD i Nm.zero).ins → g.v.dep ⟨i, false, q⟩ = some (nodes.getD i Nm.zero).depth) := Lib.hid (fun q hq => by
                rw [HGV.out, dep_in (g := ⟨some ad, Nc, nodes, EA, Ec, edges⟩) hiL (by omega)]
                simp only [Bool.false_eq_true, if_false]
                rw [if_pos hq])
              obtain ⟨⟨nin, nou, nde, iA, ic, inner⟩, hx⟩ : ∃ e, nodes.getD i Nm.zero = e := ⟨_, rfl⟩
              rw [hx] at n0 n1 n2 n3 hnt HNS HDEP
              simp only at n0 n1 n2 n3 HNS HDEP
              have hin8 : 0 ≤ nin ∧ nin ≤ 8 := by
                unfold nodeT at hnt
                rw [Bool.and_eq_true] at hnt
                have q := of_decide_eq_true hnt.1
                exact ⟨q.2.2.1, q.2.2.2.1⟩
              have N0 := Lib.hid n0
              have N2 := Lib.hid n2
              clear hx hnt hiL n0 n1 n2 n3
              obtain ⟨w3, hw3⟩ : ∃ x : World, x = wr := ⟨_, rfl⟩
              rw [← hw3] at XR g0 ⊢
              clear hw3
              go_wp2
              clear g0
              go_loopg [8, 9, 10, 11] (nin.toNat) (fun z v8 _ _ _ wr => ∃ k : Nat, v8 = .int .i64 k ∧ (k : Int) ≤ nin ∧ z = nin.toNat - k ∧ Hid (∀ q : Nat, q < k → ¬ BadQ g.v ⟨i, false, q⟩) ∧ Hid (Ext w3 wr))
              case atStart => exact ⟨0, rfl, by omega, rfl, Lib.hid (fun k h => absurd h (Nat.not_lt_zero _)), Lib.hid (Ext.refl _)⟩
              case round =>
                obtain ⟨k, rfl, hki, rfl, HKI, XK⟩ := hrel
                have XW3 := Lib.hid (XR3.out.trans (XR.out.trans XK.out))
                have g0 := (BG.out.ext XW3.out).cell 0
                have n0 := (XR.out.trans XK.out).cell N0.out
                by_cases hkl : (k : Int) < nin
                · have HD := Lib.hid (HDEP.out k hkl)
                  obtain ⟨w4, hw4⟩ : ∃ x, x = wr.alloc (.cells #[.int .i64 i, .bool false, .int .i64 k] 27) := ⟨_, rfl⟩
                  obtain ⟨pb, hpb⟩ : ∃ x, x = wr.heap.size := ⟨_, rfl⟩
                  have X4 : Hid (Ext wr w4) := Lib.hid (by rw [hw4]; exact (Ext.refl _).alloc _)
                  have BP : Hid (Bk w4 pb 27 #[.int .i64 i, .bool false, .int .i64 k]) := Lib.hid (by rw [hw4, hpb]; exact Bk.new _ _ _)
                  have HC := Lib.hid (fun W (x : Ext w4 W) => rall_any (some ad) Nc nodes EA Ec edges nl el i false k false nde W (Lib.hid (hk.out.ext (X0.out.trans (XW3.out.trans (X4.out.trans x))))) (Lib.hid (by rw [← HGV.out]; exact GK.out)) HN (Lib.hid (by rw [← HGV.out]; exact HD.out)))
                  go_upto_region 22 with fail
                  rw [← hw4, ← hpb]
                  clear hw4 hpb g0 n0
                  have XE : Ext w4 w4.drew := (Ext.refl w4).drew
                  have G0 : ∀ y : Xt w4.drew, y.W.cell? ⟨b, 0, none⟩ = some (.slice (some ad) nl Nc) := fun y => (BG.out.ext (XW3.out.trans (X4.out.trans (XE.trans y.x)))).cell 0
                  have G1 : ∀ y : Xt w4.drew, y.W.cell? ⟨b, 1, none⟩ = some (.slice EA el Ec) := fun y => (BG.out.ext (XW3.out.trans (X4.out.trans (XE.trans y.x)))).cell 1
                  have P0 : ∀ y : Xt w4.drew, y.W.cell? ⟨pb, 0, none⟩ = some (.int .i64 i) := fun y => (BP.out.ext (XE.trans y.x)).cell 0
                  have P1 : ∀ y : Xt w4.drew, y.W.cell? ⟨pb, 1, none⟩ = some (.bool false) := fun y => (BP.out.ext (XE.trans y.x)).cell 1
                  have P2 : ∀ y : Xt w4.drew, y.W.cell? ⟨pb, 2, none⟩ = some (.int .i64 k) := fun y => (BP.out.ext (XE.trans y.x)).cell 2
                  refine wp_region_ord [0,0,3,0,15,31] (.flo [0,1,3] (.ext 2 (.one 4 (.flo [5] (.fin))))) (by kernel_rfl) (by kernel_rfl) (by intro _ _ d _ _ h; cases d <;> exact h) ?_
                  (refine ord_flo (pick_cons rfl (pick_cons rfl (pick_cons rfl pick_nil))) ?_; (repeat (go_big_quiet_step (fail))); refine wpQuiet_nil ?_; show ordWalk _ _ _ _ _ _ _)
                  refine ord_ext (pick_cons rfl pick_nil) ?_; intro K_ hK_
                  go_wp2_with (go_at_call 37; go_loud (refine (HC.out _ XE).mono ?_); rintro r w5 ⟨KA, kn, kc, KS, rfl, rt⟩; have RT := Lib.hid rt; clear rt)
                  refine ordNext.mk RT.out.ex ?_
                  have HTO := Lib.hid (rto_any KA kn kc KS i false k w5 (Lib.hid RT.out.ln) (Lib.hid RT.out.ks) (Lib.hid RT.out.kl) (Lib.hid RT.out.kt) RT.out.n9)
                  refine ord_one (pick_cons rfl pick_nil) ?_; intro K_ hK_
                  go_wp2_with (go_at_call 38; go_loud (refine HTO.out.mono ?_); rintro r w6 ⟨MA, mn, mc, rfl, mw, _, x6⟩; have MW := Lib.hid mw; have X6 := Lib.hid (XE.trans (RT.out.ex.trans x6)); clear mw x6)
                  (refine ord_flo (pick_cons rfl pick_nil) ?_; (repeat (go_big_quiet_step (fail))); refine wpQuiet_nil ?_; show ordWalk _ _ _ _ _ _ _)
                  refine ord_fin ?_
                  clear G0 G1 P0 P1 P2 XE
                  have hqs : (g.v.dep ⟨i, false, k⟩).isSome := by rw [HD.out]; rfl
                  have hqd : g.v.dp ⟨i, false, k⟩ = nde := by unfold Gr.dp; rw [HD.out]; rfl
                  have htb : Tab g.v ⟨i, false, k⟩ (false = true) (fun q => (kw KS q).map Pm.w) := by rw [HGV.out]; exact RT.out.tb
                  have HBQ : Hid ((∀ x ∈ kw KS ⟨i, false, k⟩, pl x.w idW nde = false) → ¬ BadQ g.v ⟨i, false, k⟩) := Lib.hid (fun h => not_bad GK.out hqs htb (fun x hx => by
                    obtain ⟨y, hy, rfl⟩ := List.mem_map.1 hx
                    rw [hqd]; exact h y hy))
                  have HCY : Hid (∀ x ∈ kw KS ⟨i, false, k⟩, pl x.w idW nde = true → c = 61) := Lib.hid (fun x hx h => check61 HCI.out HF.out ⟨⟨i, false, k⟩, x.w, rfl, hqs, found_no (htb.rt _ _ (List.mem_map.2 ⟨x, hx, rfl⟩)), by rw [hqd]; exact h⟩)
                  have HKS : Hid (¬ BadQ g.v ⟨i, false, k⟩ → ∀ q : Nat, q < k + 1 → ¬ BadQ g.v ⟨i, false, q⟩) := Lib.hid (fun h q hq => by
                    by_cases e : q = k
                    · rw [e]; exact h
                    · exact HKI.out q (by omega))
                  obtain ⟨M, hM⟩ : ∃ M, kw KS ⟨i, false, k⟩ = M := ⟨_, rfl⟩
                  rw [hM] at MW HBQ HCY
                  have hmn : mn ≤ 9223372036854775807 := MW.out.sl.le
                  clear hqs hqd htb hM HTO HC
                  go_wp2
                  go_loopg [11] mn (fun z v11 wr => ∃ j : Nat, v11 = .int .i64 j ∧ j ≤ mn ∧ z = mn - j ∧ Hid (∀ q, q < j → pl (M.getD q Pm.zero).w idW nde = false) ∧ Hid (Ext w6 wr))
                  case atStart => exact ⟨0, rfl, Nat.zero_le _, rfl, Lib.hid (fun k h => absurd h (Nat.not_lt_zero _)), Lib.hid (Ext.refl _)⟩
                  case round =>
                    obtain ⟨j, rfl, hj, rfl, HJI, XJ⟩ := hrel
                    have XW6 := Lib.hid (XW3.out.trans (X4.out.trans (X6.out.trans XJ.out)))
                    by_cases hjl : j < mn
                    · have hjz : (j : Int) < (mn : Int) := by omega
                      obtain ⟨ma, hMA, p0, p1, p2, hmm⟩ := (MW.out.ext XJ.out).at hjl
                      subst hMA
                      have hpr := (MW.out.ext XJ.out).pr _ hmm
                      have hcy := HCY.out _ hmm
                      have HJS : Hid (pl (M.getD j Pm.zero).w idW nde = false → ∀ q, q < j + 1 → pl (M.getD q Pm.zero).w idW nde = false) := Lib.hid (fun h q hq => by
                        by_cases e : q = j
                        · rw [e]; exact h
                        · exact HJI.out q (by omega))
                      obtain ⟨⟨xA, xc, ⟨xl, xa, xe⟩⟩, hx⟩ : ∃ e, M.getD j Pm.zero = e := ⟨_, rfl⟩
                      rw [hx] at p0 p1 p2 hpr hcy HJS
                      simp only at p0 p1 p2
                      obtain ⟨xn, hxn⟩ : ∃ x, x = xe.length := ⟨_, rfl⟩
                      rw [← hxn] at p2
                      obtain ⟨bb, hbb⟩ : ∃ x, pl ⟨xl, xa, xe⟩ idW nde = x := ⟨_, rfl⟩
                      have HPL := Lib.hid (fun W (e : Ext wr W) => rpl_at (w := W) (x := ⟨xA, xc, ⟨xl, xa, xe⟩⟩) hxn ⟨hpr.1.ext e, hpr.2⟩ hbb)
                      simp only at hcy HJS
                      rw [hbb] at hcy HJS
                      have HCY2 := Lib.hid hcy
                      have XE : Ext wr wr.drew := (Ext.refl wr).drew
                      have q0 : ∀ y : Xt wr.drew, y.W.cell? (ma.add (j * 3)) = some (.int .i64 xl) := fun y => (XE.trans y.x).cell p0
                      have q1 : ∀ y : Xt wr.drew, y.W.cell? ⟨(ma.add (j * 3)).block, (ma.add (j * 3)).off + 1, none⟩ = some (.int .u32 xa) := fun y => (XE.trans y.x).cell p1
                      have q2 : ∀ y : Xt wr.drew, y.W.cell? ⟨(ma.add (j * 3)).block, (ma.add (j * 3)).off + 2, none⟩ = some (.slice xA xn xc) := fun y => (XE.trans y.x).cell p2
                      have G0 : ∀ y : Xt wr.drew, y.W.cell? ⟨b, 0, none⟩ = some (.slice (some ad) nl Nc) := fun y => (BG.out.ext (XW6.out.trans (XE.trans y.x))).cell 0
                      have D2 : ∀ y : Xt wr.drew, y.W.cell? ⟨(ad.add (i * 4)).block, (ad.add (i * 4)).off + 2, none⟩ = some (.int .i64 nde) := fun y => (XR.out.trans (XK.out.trans (X4.out.trans (X6.out.trans (XJ.out.trans (XE.trans y.x)))))).cell N2.out
                      clear hx hxn hbb hpr hcy hmm p0 p1 p2
                      go_upto_region 26 with fail
                      refine wp_region_ord [0,0,3,7,0,0,32,0,224,480,992,2047] (.flo [0,1,2,3,4,5,6,7,8,9,10] (.one 11 (.fin))) (by kernel_rfl) (by kernel_rfl) (by intro _ _ d _ _ h; cases d <;> exact h) ?_
                      (refine ord_flo (pick_cons rfl (pick_cons rfl (pick_cons rfl (pick_cons rfl (pick_cons rfl (pick_cons rfl (pick_cons rfl (pick_cons rfl (pick_cons rfl (pick_cons rfl (pick_cons rfl pick_nil))))))))))) ?_; (repeat (go_big_quiet_step (fail))); refine wpQuiet_nil ?_; show ordWalk _ _ _ _ _ _ _)
                      refine ord_one (pick_cons rfl pick_nil) ?_; intro K_ hK_
                      go_wp2_with (go_at_call 62; go_loud (refine (HPL.out _ XE).mono ?_); rintro r w7 ⟨rfl, x7⟩; have X7 := Lib.hid (XE.trans x7); clear x7)
                      refine ord_fin ?_
                      clear q0 q1 q2 G0 D2 XE
                      cases bb with
                      | true =>
                        obtain rfl := HCY2.out rfl
                        go_wp2
                        go_ret
                        exact ⟨rfl, X0.out.trans (XW6.out.trans X7.out)⟩
                      | false =>
                        have HJS2 := Lib.hid (HJS.out rfl)
                        go_wp2
                        go_roundg (mn - (j + 1))
                        case measure => omega
                        case rel => exact ⟨j + 1, by go_num, by omega, rfl, HJS2, Lib.hid (XJ.out.trans X7.out)⟩
                    · obtain rfl : mn = j := by omega
                      have hjz : ¬ (mn : Int) < (mn : Int) := by omega
                      have hnb := HBQ.out (all_getD (z := Pm.zero) (P := fun x => pl x.w idW nde = false) (by rw [← MW.out.ln]; exact HJI.out))
                      have HKS2 := Lib.hid (HKS.out hnb)
                      clear hnb
                      go_wp2
                      go_roundg (nin.toNat - (k + 1))
                      case measure => omega
                      case rel => exact ⟨k + 1, by go_num, by omega, rfl, HKS2, Lib.hid (XK.out.trans (X4.out.trans (X6.out.trans XJ.out)))⟩
                · obtain rfl : nin = (k : Int) := by omega
                  have hltz2 : ¬ (k : Int) < (k : Int) := by omega
                  have HNS2 := Lib.hid (HNS.out (fun q hq => HKI.out q (by omega)))
                  go_wp2
                  go_roundg (nl - (i + 1))
                  case measure => omega
                  case rel => exact ⟨i + 1, by go_num, by omega, rfl, HNS2, Lib.hid (XR.out.trans XK.out)⟩
            · obtain rfl : nl = i := by omega
              have hltz : ¬ (nl : Int) < (nl : Int) := by omega
              have hnc : ¬ Cyc g.v := by
                rintro ⟨q, v, ho, hd, hf, hp⟩
                rw [HGV.out] at hd
                obtain ⟨k1, k2, k3, k4, _⟩ := dep_input hd ho
                refine HNI.out q.n.toNat (by rw [hk.out.l]; simp only at k2; omega) q.p.toNat (by simp only at k4; omega) ⟨v, ?_, ?_⟩
                · have e : (⟨((q.n.toNat : Nat) : Int), false, ((q.p.toNat : Nat) : Int)⟩ : Pt) = q := by
                    obtain ⟨a, b, c⟩ := q
                    simp only at ho k1 k3 ⊢
                    rw [ho]
                    congr 1 <;> omega
                  rw [e]; exact hf
                · have e : (⟨((q.n.toNat : Nat) : Int), false, ((q.p.toNat : Nat) : Int)⟩ : Pt) = q := by
                    obtain ⟨a, b, c⟩ := q
                    simp only at ho k1 k3 ⊢
                    rw [ho]
                    congr 1 <;> omega
                  rw [e]; exact hp
              obtain rfl := check00 HCI.out HF.out hnc
              clear hnc
              go_wp2
              go_ret
              exact ⟨rfl, X0.out.trans (XR3.out.trans XR.out)⟩
end Go.Proofs.Yteklohamkmiphaa
namespace Go.Proofs.Yteklohamkmiphaa
open Go.RowKit

def RAllsOut (g : Gm) (w : World) (e : Ending) (w' : World) : Prop := ∃ (A : Option Addr) (n c : Nat) (Ls : List Ld) (z : Int), e = .returned (.tuple #[.slice A n c, .int .i64 z]) ∧ LdOut w w' g A n c Ls z
theorem LdOut.bad {w w' : World} {g : Gm} {z : Int} (hz : CheckIs g.v z) (hne : z ≠ 0) (e : Ext w w') : LdOut w w' g none 0 0 [] z := ⟨rfl, Sl.nil _ _, fun x hx => (nomatch hx), .inl ⟨hz, hne, rfl⟩, e⟩
theorem plc_dep {g : Gm} (_G : GOK g.v) {i k : Nat} (hi : i < g.nodes.length) (hb : 0 ≤ (g.nodes.getD i Nm.zero).ins ∧ 0 ≤ (g.nodes.getD i Nm.zero).outs) (hk : k < insN g i + outN g i) : (g.v.dep (plc g i k)).isSome := by
  unfold plc
  by_cases h : k < insN g i
  · rw [if_pos h, dep_in hi (by omega)]
    simp only [Bool.false_eq_true, if_false]
    rw [if_pos (by unfold insN at h; omega)]
    rfl
  · rw [if_neg h, dep_in hi (by omega)]
    simp only [if_true]
    rw [if_pos (by unfold insN at h hk ⊢; unfold outN at hk; omega)]
    rfl
theorem one_nil {g : Gr} {fr t : Pt} (h : lw g fr t = []) : one g fr t = [] := by unfold one; rw [if_pos h]
theorem one_some {g : Gr} {fr t : Pt} {l : List Way} (h : lw g fr t = l) (hl : l ≠ []) : one g fr t = [(fr, t, l)] := by unfold one; rw [h, if_neg hl]
theorem le0 {n m c : Nat} (h : n ≤ m) : n ≤ m + 0 * c := by rw [Nat.zero_mul]; exact h
theorem bA {n m a J : Nat} (h : n ≤ m + a * 8 + J) (hJ : J ≤ 8) : n ≤ m + (a + 1) * 8 := by omega
theorem bK {n m k N : Nat} (h : n ≤ m + k * 8000 + N * 8) (hN : N ≤ 1000) : n ≤ m + (k + 1) * 8000 := by omega
theorem bI {n i K : Nat} (h : n ≤ i * 128000 + K * 8000) (hK : K ≤ 16) : n ≤ (i + 1) * 128000 := by omega
set_option maxRecDepth 100000 in
set_option maxHeartbeats 8000000 in
theorem ralls_any (NA : Option Addr) (Nc : Nat) (nodes : List Nm) (EA : Option Addr) (Ec : Nat) (edges : List (Pt × Pt)) (nl el : Nat) (w : World) (hk : Hid (GrOk w NA Nc nodes EA Ec edges nl el)) :
    Calls Try.prog 16 #[.agg #[.slice NA nl Nc, .slice EA el Ec]] w (RAllsOut ⟨NA, Nc, nodes, EA, Ec, edges⟩ w) := by
  obtain ⟨g, hg⟩ : ∃ g : Gm, g = ⟨NA, Nc, nodes, EA, Ec, edges⟩ := ⟨_, rfl⟩
  have HGV := Lib.hid hg
  obtain ⟨w0, hw0⟩ : ∃ w0, w0 = w.alloc (.cells #[.slice NA nl Nc, .slice EA el Ec] 25) := ⟨_, rfl⟩
  obtain ⟨b, hb⟩ : ∃ b, b = w.heap.size := ⟨_, rfl⟩
  have X0 : Hid (Ext w w0) := Lib.hid (by rw [hw0]; exact (Ext.refl w).alloc _)
  have BG : Hid (Bk w0 b 25 #[.slice NA nl Nc, .slice EA el Ec]) := Lib.hid (by rw [hw0, hb]; exact Bk.new _ _ _)
  have g0 := BG.out.cell 0
  have g1 := BG.out.cell 1
  have hn9 := hk.out.n9
  clear hg
  rcases check_ex g.v with hc | hc
  · have key : ∃ z : Int, CheckIs g.v z ∧ z ≠ 0 ∧ (z != 0) = true := by
      rcases hc with hc | hc
      · exact ⟨60, hc, by decide, by decide⟩
      · exact ⟨61, hc, by decide, by decide⟩
    obtain ⟨z, hz, hne, hnb⟩ := key
    have HZ := Lib.hid hz
    have HNE := Lib.hid hne
    have HC := Lib.hid (rcheck6_any NA Nc nodes EA Ec edges nl el w0 (Lib.hid (hk.out.ext X0.out)) z (Lib.hid (by rw [← HGV.out]; exact hz)))
    clear hc hz hne
    go_enter Try.func16, Try.ntmps16
    go_upto_region 1 with fail
    rw [← hw0, ← hb]
    clear hw0 hb
    go_wp2_with (go_at_call 36; go_loud (refine HC.out.mono ?_); rintro r w1 ⟨rfl, x1⟩; have X1 := Lib.hid (X0.out.trans x1); clear x1)
    go_returns
    exact ⟨none, 0, 0, [], z, rfl, by rw [← HGV.out]; exact LdOut.bad HZ.out HNE.out X1.out⟩
  have HCI := Lib.hid hc
  have HC := Lib.hid (rcheck6_any NA Nc nodes EA Ec edges nl el w0 (Lib.hid (hk.out.ext X0.out)) 0 (Lib.hid (by rw [← HGV.out]; exact hc)))
  have HN : Hid (∀ x ∈ nodes, nodeT x.v = true) := Lib.hid (by have q := nodes_ok (g := g) hc.form; rw [HGV.out] at q; exact q)
  have GK : Hid (GOK g.v) := Lib.hid (formT_ok hc.form (by rw [HGV.out]; exact hk.out.h6.g32))
  clear hc
  go_enter Try.func16, Try.ntmps16
  go_upto_region 1 with fail
  rw [← hw0, ← hb]
  clear hw0 hb
  go_upto_region 5 with (go_at_call 36; go_loud (refine HC.out.mono ?_); rintro r w1 ⟨rfl, x1⟩; have X1 := Lib.hid x1; clear x1)
  clear g0 g1 HC
  have HL0 := Lib.hid (LdI.nil w1)
  go_wp2
  go_loopg [5, 6, 7, 8, 9, 10, 11, 12, 13, 14] nl (fun z v5 v6 _ _ _ _ _ _ _ _ wr => ∃ (i n c : Nat) (A : Option Addr) (Ls : List Ld), v5 = .slice A n c ∧ v6 = .int .i64 i ∧ i ≤ nl ∧ z = nl - i ∧ n ≤ i * 128000 ∧ Hid (LdI w1 wr A n c Ls ∧ Ls.map Ld.v = totT g i))
  case atStart => exact ⟨0, 0, 0, none, [], rfl, rfl, Nat.zero_le _, rfl, Nat.le_refl _, Lib.hid ⟨HL0.out, rfl⟩⟩
  case round =>
    clear HL0
    obtain ⟨i, n, c, A, Ls, rfl, rfl, hi, rfl, hni, HLI⟩ := hrel
    obtain ⟨w2, hw2⟩ : ∃ x : World, x = wr := ⟨_, rfl⟩
    rw [← hw2] at HLI ⊢
    clear hw2
    have XW2 := Lib.hid (X1.out.trans HLI.out.1.ex)
    have g0 := (BG.out.ext XW2.out).cell 0
    by_cases hlt : i < nl
    · have hltz : (i : Int) < (nl : Int) := by omega
      have hiL : i < nodes.length := by rw [← hk.out.l]; exact hlt
      obtain ⟨ad, hNA, n0, n1, n2, n3⟩ := (hk.out.ext (X0.out.trans XW2.out)).g.nat hiL
      simp only at hNA n0 n1 n2 n3
      subst hNA
      have hnt := HN.out _ (getD_mem' Nm.zero hiL)
      have hbb : (0 ≤ (nodes.getD i Nm.zero).ins ∧ (nodes.getD i Nm.zero).ins ≤ 8) ∧ 0 ≤ (nodes.getD i Nm.zero).outs ∧ (nodes.getD i Nm.zero).outs ≤ 8 := by
        unfold nodeT at hnt
        rw [Bool.and_eq_true] at hnt
        have q := of_decide_eq_true hnt.1
        exact ⟨⟨q.2.2.1, q.2.2.2.1⟩, q.2.2.2.2.1, q.2.2.2.2.2.1⟩
      have HPD : Hid (∀ k, k < insN g i + outN g i → (g.v.dep (plc g i k)).isSome) := Lib.hid (fun k hk2 => plc_dep GK.out (by rw [HGV.out]; exact hiL) (by rw [HGV.out]; exact ⟨hbb.1.1, hbb.2.1⟩) hk2)
      obtain ⟨I, hI⟩ : ∃ I : Nat, (nodes.getD i Nm.zero).ins = I := ⟨(nodes.getD i Nm.zero).ins.toNat, by omega⟩
      obtain ⟨O, hO⟩ : ∃ O : Nat, (nodes.getD i Nm.zero).outs = O := ⟨(nodes.getD i Nm.zero).outs.toNat, by omega⟩
      have hIN : insN g i = I := by unfold insN; rw [HGV.out]; show (nodes.getD i Nm.zero).ins.toNat = I; rw [hI]; rfl
      have hON : outN g i = O := by unfold outN; rw [HGV.out]; show (nodes.getD i Nm.zero).outs.toNat = O; rw [hO]; rfl
      rw [hI] at n0
      rw [hO] at n1
      rw [hIN, hON] at HPD
      have hI8 : I ≤ 8 := by omega
      have hO8 : O ≤ 8 := by omega
      have HIN := Lib.hid hIN
      have HON := Lib.hid hON
      have N0 := Lib.hid n0
      have hwr1 : IntKind.i64.wrap ((I : Int) + (O : Int)) = ((I + O : Nat) : Int) := by rw [IntWalk.i64_left]; exact IntWalk.wrap64_in _ ⟨by omega, by omega⟩
      have hwr2 : wrap64 ((I : Int) + (O : Int)) = ((I + O : Nat) : Int) := IntWalk.wrap64_in _ ⟨by omega, by omega⟩
      clear hnt hbb hI hO hIN hON n2 n3 hiL
      go_upto_region 8 with fail
      go_quiet (fail)
      obtain ⟨w3, hw3⟩ : ∃ x, x = w2.drewN nq := ⟨_, rfl⟩
      have HL3 : Hid (LdI w1 w3 A n c Ls) := Lib.hid (by rw [hw3]; exact HLI.out.1.ext ((Ext.refl _).drewN _))
      have X23 : Hid (Ext w2 w3) := Lib.hid (by rw [hw3]; exact (Ext.refl _).drewN _)
      rw [← hw3]
      clear g0 n0 n1 hw3
      go_wp2
      go_loopg [5, 8, 9, 10, 11, 12, 13, 14] (I + O) (fun z v5 v8 _ _ _ _ _ _ wr => ∃ (k n c : Nat) (A : Option Addr) (Ls : List Ld), v5 = .slice A n c ∧ v8 = .int .i64 k ∧ k ≤ I + O ∧ z = I + O - k ∧ n ≤ i * 128000 + k * 8000 ∧ Hid (LdI w1 wr A n c Ls ∧ Ls.map Ld.v = totT g i ++ frT g i k))
      case atStart => exact ⟨0, n, c, A, Ls, rfl, rfl, Nat.zero_le _, rfl, le0 hni, Lib.hid ⟨HL3.out, by rw [frT_zero, List.append_nil]; exact HLI.out.2⟩⟩
      case round =>
        have XN := Lib.hid (HLI.out.1.ex)
        clear HL3 HLI X23 hni XW2
        obtain ⟨k, n, c, A, Ls, rfl, rfl, hkk, rfl, hni, HLI⟩ := hrel
        obtain ⟨w4, hw4⟩ : ∃ x : World, x = wr := ⟨_, rfl⟩
        rw [← hw4] at HLI ⊢
        clear hw4
        have XW4 := Lib.hid (X1.out.trans HLI.out.1.ex)
        by_cases hkl : k < I + O
        · have hkz : (k : Int) < (I : Int) + (O : Int) := by omega
          have hkz2 : (k : Int) < ((I + O : Nat) : Int) := by omega
          obtain ⟨⟨pn, po, pp⟩, hpl⟩ : ∃ p, plc g i k = p := ⟨_, rfl⟩
          have hds := HPD.out k hkl
          rw [hpl] at hds
          obtain ⟨d, hd⟩ := Option.isSome_iff_exists.1 hds
          have HPL := Lib.hid hpl
          have HDS := Lib.hid hds
          have HD := Lib.hid hd
          clear hpl hds hd
          have hiL : i < nodes.length := by rw [← hk.out.l]; exact hlt
          obtain ⟨ad2, hNA2, n0, _, _, _⟩ := (hk.out.ext (X0.out.trans XW4.out)).g.nat hiL
          injection hNA2 with hNA2
          subst hNA2
          have hins : (nodes.getD i Nm.zero).ins = I := by
            have q := HIN.out
            unfold insN at q
            rw [HGV.out] at q
            have q2 : (nodes.getD i Nm.zero).ins.toNat = I := q
            have hnt := HN.out _ (getD_mem' Nm.zero hiL)
            unfold nodeT at hnt
            rw [Bool.and_eq_true] at hnt
            have q3 := of_decide_eq_true hnt.1
            have q4 : 0 ≤ (nodes.getD i Nm.zero).ins := q3.2.2.1
            omega
          simp only at n0
          rw [hins] at n0
          obtain ⟨w5, hw5⟩ : ∃ x, x = w4.alloc (.cells #[.int .i64 i, .bool false, .int .i64 k] 27) := ⟨_, rfl⟩
          obtain ⟨fb, hfb⟩ : ∃ x, x = w4.heap.size := ⟨_, rfl⟩
          have X45 : Hid (Ext w4 w5) := Lib.hid (by rw [hw5]; exact (Ext.refl _).alloc _)
          have BF : Hid (Bk w5 fb 27 #[.int .i64 i, .bool false, .int .i64 k]) := Lib.hid (by rw [hw5, hfb]; exact Bk.new _ _ _)
          have HFB : Hid (w4.heap.size ≤ fb) := Lib.hid (by rw [hfb]; exact Nat.le_refl _)
          have g0 := (BG.out.ext (XW4.out.trans X45.out)).cell 0
          have n0 := X45.out.cell n0
          go_upto_region 13 with fail
          rw [← hw5, ← hfb]
          clear hw5 hfb hins hiL
          go_upto_if 55 with fail
          go_cut [] from 40 to 101 (fun wx => Hid (Ext w4 wx) ∧ Hid (Bk wx fb 27 #[.int .i64 pn, .bool po, .int .i64 pp]))
          case first =>
            by_cases hin : k < I
            · have hz : ¬ (I : Int) ≤ (k : Int) := by omega
              have e : (⟨i, false, k⟩ : Pt) = ⟨pn, po, pp⟩ := by rw [← HPL.out]; exact (plc_in (by rw [HIN.out]; exact hin)).symm
              injection e with e1 e2 e3
              subst e1 e2 e3
              go_wp2
              go_meet
              case rel => exact ⟨X45, BF⟩
            · have hz : (I : Int) ≤ (k : Int) := by omega
              have e : (⟨i, true, (k : Int) - (I : Int)⟩ : Pt) = ⟨pn, po, pp⟩ := by
                rw [← HPL.out]
                unfold plc
                rw [HIN.out, if_neg hin]
              injection e with e1 e2 e3
              subst e1 e2 e3
              have hwr3 : IntKind.i64.wrap ((k : Int) - (I : Int)) = (k : Int) - (I : Int) := by rw [IntWalk.i64_left]; exact IntWalk.wrap64_in _ ⟨by omega, by omega⟩
              have hwr4 : wrap64 ((k : Int) - (I : Int)) = (k : Int) - (I : Int) := IntWalk.wrap64_in _ ⟨by omega, by omega⟩
              have f0 := BF.out.free 0
              have f1 := BF.out.free 1
              have f2 := BF.out.free 2
              have c0 := BF.out.cell 0
              have c1 := BF.out.cell 1
              have c2 := BF.out.cell 2
              go_wp2
              go_meet
              case rel => exact ⟨Lib.hid (((X45.out.set HFB.out _).set HFB.out _).set HFB.out _), Lib.hid (((BF.out.set 0 _).set 1 _).set 2 _)⟩
          case rest =>
            clear g0 n0 X45 BF
            obtain ⟨X46, BF⟩ := hcut
            obtain ⟨w6, hw6⟩ : ∃ x : World, x = wc := ⟨_, rfl⟩
            rw [← hw6] at X46 BF ⊢
            clear hw6
            have XW6 := Lib.hid (XW4.out.trans X46.out)
            have g0 := (BG.out.ext XW6.out).cell 0
            have g1 := (BG.out.ext XW6.out).cell 1
            have c0 := BF.out.cell 0
            have c1 := BF.out.cell 1
            have c2 := BF.out.cell 2
            have HAL := Lib.hid (rall_any (some ad) Nc nodes EA Ec edges nl el pn po pp true d w6 (Lib.hid (hk.out.ext (X0.out.trans XW6.out))) (Lib.hid (by rw [← HGV.out]; exact GK.out)) HN (Lib.hid (by rw [← HGV.out]; exact HD.out)))
            go_upto_region 16 with (go_at_call 37; go_loud (refine HAL.out.mono ?_); rintro r w7 ⟨KA, kn, kc, KS, rfl, rt⟩; have RT := Lib.hid rt; clear rt)
            clear g0 g1 c0 c1 c2 HAL
            have HLW : Hid (∀ t, lw g.v ⟨pn, po, pp⟩ t = (kw KS t).map Pm.w) := Lib.hid (fun t => lw_eq GK.out HDS.out ⟨_, (by rw [HGV.out]; exact RT.out.tb), RT.out.so t, rfl⟩)
            have hkn9 := RT.out.n9
            have HLK : Hid (LdK w1 w7 A n c Ls KA kn kc KS fb pn po pp) := Lib.hid ⟨HLI.out.1.ext (X46.out.trans RT.out.ex), KnR.of RT.out, BF.out.ext RT.out.ex⟩
            obtain ⟨PRE, hpre⟩ : ∃ x, totT g i ++ frT g i k = x := ⟨_, rfl⟩
            have HPRE := Lib.hid hpre
            have hmv := HLI.out.2
            rw [hpre] at hmv
            have HMV := Lib.hid hmv
            clear hpre hmv X46 BF HLI XW6
            go_wp2
            go_loopg [5, 11, 12, 13, 14] nl (fun z v5 v11 _ _ _ wr => ∃ (a n c : Nat) (A : Option Addr) (Ls : List Ld), v5 = .slice A n c ∧ v11 = .int .i64 a ∧ a ≤ nl ∧ z = nl - a ∧ n ≤ i * 128000 + k * 8000 + a * 8 ∧ Hid (LdK w1 wr A n c Ls KA kn kc KS fb pn po pp ∧ Ls.map Ld.v = PRE ++ tosT g ⟨pn, po, pp⟩ a))
            case atStart => exact ⟨0, n, c, A, Ls, rfl, rfl, Nat.zero_le _, rfl, le0 hni, Lib.hid ⟨HLK.out, by rw [tosT_zero, List.append_nil]; exact HMV.out⟩⟩
            case round =>
              clear HLK HMV hni
              obtain ⟨a, n, c, A, Ls, rfl, rfl, ha9, rfl, hni, HLA⟩ := hrel
              have XWA := Lib.hid (X1.out.trans HLA.out.1.ld.ex)
              have g0 := (BG.out.ext XWA.out).cell 0
              by_cases hal : a < nl
              · have haz : (a : Int) < (nl : Int) := by omega
                have haL : a < nodes.length := by rw [← hk.out.l]; exact hal
                obtain ⟨ad2, hNA2, m0, _, _, _⟩ := (hk.out.ext X0.out).g.nat haL
                injection hNA2 with hNA2
                subst hNA2
                simp only at m0
                have hnt := HN.out _ (getD_mem' Nm.zero haL)
                have hjj : 0 ≤ (nodes.getD a Nm.zero).ins ∧ (nodes.getD a Nm.zero).ins ≤ 8 := by
                  unfold nodeT at hnt
                  rw [Bool.and_eq_true] at hnt
                  have q := of_decide_eq_true hnt.1
                  exact ⟨q.2.2.1, q.2.2.2.1⟩
                obtain ⟨J, hJ⟩ : ∃ J : Nat, (nodes.getD a Nm.zero).ins = J := ⟨(nodes.getD a Nm.zero).ins.toNat, by omega⟩
                have HJN : Hid (insN g a = J) := Lib.hid (by unfold insN; rw [HGV.out]; show (nodes.getD a Nm.zero).ins.toNat = J; rw [hJ]; rfl)
                rw [hJ] at m0
                have hJ8 : J ≤ 8 := by omega
                have M0 := Lib.hid m0
                clear hnt hjj hJ haL m0
                obtain ⟨w8, hw8⟩ : ∃ x : World, x = wr := ⟨_, rfl⟩
                rw [← hw8] at HLA XWA g0 ⊢
                clear hw8
                go_wp2
                clear g0
                go_loopg [5, 12, 13, 14] J (fun z v5 v12 _ _ wr => ∃ (q n c : Nat) (A : Option Addr) (Ls : List Ld), v5 = .slice A n c ∧ v12 = .int .i64 q ∧ q ≤ J ∧ z = J - q ∧ n ≤ i * 128000 + k * 8000 + a * 8 + q ∧ Hid (LdK w1 wr A n c Ls KA kn kc KS fb pn po pp ∧ Ls.map Ld.v = PRE ++ tosT g ⟨pn, po, pp⟩ a ++ rowT g ⟨pn, po, pp⟩ a q))
                case atStart => exact ⟨0, n, c, A, Ls, rfl, rfl, Nat.zero_le _, rfl, Nat.le_trans hni (Nat.le_add_right _ _), Lib.hid ⟨HLA.out.1, by rw [rowT_zero, List.append_nil]; exact HLA.out.2⟩⟩
                case round =>
                  clear HLA XWA hni
                  obtain ⟨q, n, c, A, Ls, rfl, rfl, hq9, rfl, hni, HLA⟩ := hrel
                  have XWA := Lib.hid (X1.out.trans HLA.out.1.ld.ex)
                  have g0 := (BG.out.ext XWA.out).cell 0
                  have m0 := XWA.out.cell M0.out
                  by_cases hql : q < J
                  · have hqz : (q : Int) < (J : Int) := by omega
                    obtain ⟨w9, hw9⟩ : ∃ x, x = wr.alloc (.cells #[.int .i64 a, .bool false, .int .i64 q] 27) := ⟨_, rfl⟩
                    obtain ⟨pb, hpb⟩ : ∃ x, x = wr.heap.size := ⟨_, rfl⟩
                    have X9 : Hid (Ext wr w9) := Lib.hid (by rw [hw9]; exact (Ext.refl _).alloc _)
                    have BP : Hid (Bk w9 pb 27 #[.int .i64 a, .bool false, .int .i64 q]) := Lib.hid (by rw [hw9, hpb]; exact Bk.new _ _ _)
                    have HK9 := HLA.out.1.kr.ext X9.out
                    have HTO := Lib.hid (rto_any KA kn kc KS a false q w9 (Lib.hid HK9.ln) (Lib.hid HK9.sl) (Lib.hid (fun x hx => (HK9.ws x hx).1)) (Lib.hid (fun x hx => (HK9.ws x hx).2)) hkn9)
                    go_upto_region 23 with fail
                    rw [← hw9, ← hpb]
                    clear hw9 hpb HK9 g0 m0
                    have c0 := BP.out.cell 0
                    have c1 := BP.out.cell 1
                    have c2 := BP.out.cell 2
                    go_upto_region 24 with (go_at_call 38; go_loud (refine HTO.out.mono ?_); rintro r wt ⟨MA, mn, mc, rfl, mw, mt, xt⟩; have MW := Lib.hid mw; have MT := Lib.hid mt; have XT := Lib.hid (X9.out.trans xt); have BPT := Lib.hid (BP.out.ext xt); clear mw mt xt)
                    clear c0 c1 c2 HTO
                    have hone := HLW.out ⟨a, false, q⟩
                    by_cases hm0 : mn = 0
                    · have hnil : kw KS ⟨a, false, q⟩ = [] := List.eq_nil_of_length_eq_zero (by rw [← MW.out.ln]; exact hm0)
                      have HONE : Hid (one g.v ⟨pn, po, pp⟩ ⟨a, false, q⟩ = []) := Lib.hid (one_nil (by rw [hone, hnil]; rfl))
                      subst hm0
                      clear hone hnil
                      go_wp2
                      go_roundg (J - (q + 1))
                      case measure => omega
                      case rel => exact ⟨q + 1, n, c, A, Ls, rfl, by go_num, by omega, rfl, by omega, Lib.hid ⟨HLA.out.1.ext XT.out, by rw [rowT_succ, HONE.out, List.append_nil]; exact HLA.out.2⟩⟩
                    · have hmz : (0 : Int) < (mn : Int) := by omega
                      have hne : (kw KS ⟨a, false, q⟩).map Pm.w ≠ [] := fun e => hm0 (by rw [MW.out.ln, ← List.length_map (f := Pm.w), e]; rfl)
                      have HONE := Lib.hid (one_some hone hne)
                      have LK := Lib.hid (HLA.out.1.ext (XT.out.alloc (.cells #[.int .i64 pn, .bool po, .int .i64 pp, .int .i64 a, .bool false, .int .i64 q, .slice MA mn mc] 67)))
                      have f0 := (HLA.out.1.ext XT.out).bk.cell 0
                      have f1 := (HLA.out.1.ext XT.out).bk.cell 1
                      have f2 := (HLA.out.1.ext XT.out).bk.cell 2
                      have c0 := BPT.out.cell 0
                      have c1 := BPT.out.cell 1
                      have c2 := BPT.out.cell 2
                      have SE := Lib.hid (Sl.one wt #[.int .i64 pn, .bool po, .int .i64 pp, .int .i64 a, .bool false, .int .i64 q, .slice MA mn mc] 67 7 rfl)
                      have hb1 := LK.out.ld.ex.size
                      have mwl : WysR wt MA (kw KS ⟨a, false, q⟩).length mc (kw KS ⟨a, false, q⟩) := by
                        have z := MW.out
                        rw [MW.out.ln] at z
                        exact z
                      have WX := Lib.hid (mwl.ext ((Ext.refl wt).alloc (.cells #[.int .i64 pn, .bool po, .int .i64 pp, .int .i64 a, .bool false, .int .i64 q, .slice MA mn mc] 67)))
                      have WT := Lib.hid (MT.out.ext ((Ext.refl wt).alloc (.cells #[.int .i64 pn, .bool po, .int .i64 pp, .int .i64 a, .bool false, .int .i64 q, .slice MA mn mc] 67)))
                      have HMN := Lib.hid MW.out.ln
                      clear hone hne hm0 mwl
                      go_wp2_with (at_builtin; go_loud (refine wpList_append_two _ elem_ld w1.heap.size _ _ rfl rfl A n c (Ls.flatMap ldC) rfl LK.out.ld.ow (some ⟨wt.heap.size, 0, none⟩) 1 1 [.int .i64 pn, .bool po, .int .i64 pp, .int .i64 a, .bool false, .int .i64 q, .slice MA mn mc] rfl SE.out (by intro u hu; simp only [List.mem_cons, List.not_mem_nil, or_false] at hu; rcases hu with rfl | rfl | rfl | rfl | rfl | rfl | rfl <;> rfl) (by omega) (by decide) hb1 ?_); intro A6 c6 w6_ o6 g6 x6; have O6 := Lib.hid o6; have G6 := Lib.hid g6; clear o6 g6 x6)
                      go_roundg (J - (q + 1))
                      case measure => omega
                      case rel =>
                        have hp := LK.out.push (x := ⟨⟨pn, po, pp⟩, ⟨a, false, q⟩, MA, mc, kw KS ⟨a, false, q⟩⟩) ⟨WX.out, WT.out⟩ G6.out (by have z := O6.out; rw [HMN.out] at z; exact z)
                        refine ⟨q + 1, n + 1, c6, A6, _, rfl, by go_num, by omega, rfl, by omega, Lib.hid ⟨hp, ?_⟩⟩
                        rw [rowT_succ, HONE.out, List.map_append, HLA.out.2, List.append_assoc (PRE ++ tosT g ⟨pn, po, pp⟩ a)]
                        rfl
                  · obtain rfl : J = q := by omega
                    have hqz : ¬ (J : Int) < (J : Int) := by omega
                    go_wp2
                    go_roundg (nl - (a + 1))
                    case measure => omega
                    case rel => exact ⟨a + 1, n, c, A, Ls, rfl, by go_num, by omega, rfl, bA hni hJ8, Lib.hid ⟨HLA.out.1, by rw [tosT_succ, HJN.out, ← List.append_assoc]; exact HLA.out.2⟩⟩
              · obtain rfl : nl = a := by omega
                have haz : ¬ (nl : Int) < (nl : Int) := by omega
                have HGL : Hid (g.nodes.length = nl) := Lib.hid (by rw [HGV.out]; exact hk.out.l.symm)
                go_wp2
                go_roundg (I + O - (k + 1))
                case measure => omega
                case rel => exact ⟨k + 1, n, c, A, Ls, rfl, by go_num, by omega, rfl, bK hni hn9, Lib.hid ⟨HLA.out.1.ld, by rw [frT_succ, HPL.out, HGL.out, ← List.append_assoc, HPRE.out]; exact HLA.out.2⟩⟩
        · obtain rfl : k = I + O := by omega
          have hkz : ¬ (I : Int) + (O : Int) < (I : Int) + (O : Int) := by omega
          go_wp2
          go_roundg (nl - (i + 1))
          case measure => omega
          case rel => exact ⟨i + 1, n, c, A, Ls, rfl, by go_num, by omega, rfl, bI hni (Nat.add_le_add hI8 hO8), Lib.hid ⟨HLI.out.1, by rw [totT_succ, HIN.out, HON.out]; exact HLI.out.2⟩⟩
    · obtain rfl : nl = i := by omega
      have hltz : ¬ (nl : Int) < (nl : Int) := by omega
      go_wp2
      go_returns
      refine ⟨A, n, c, Ls, 0, rfl, HLI.out.1.ln, HLI.out.1.ow.sl, fun x hx => (HLI.out.1.ws x hx).1, .inr ⟨by rw [← HGV.out]; exact HCI.out, rfl, ?_⟩, X0.out.trans XW2.out⟩
      rw [HLI.out.2, ← HGV.out]
      congr 1
      rw [HGV.out]; exact hk.out.l
end Go.Proofs.Yteklohamkmiphaa
namespace Go.Proofs.Yteklohamkmiphaa
open Go.RowKit

def FallOut (g : Gm) (w : World) (e : Ending) (w' : World) : Prop := ∃ (A : Option Addr) (n c : Nat) (Ls : List Ld) (z : Int), e = .returned (.tuple #[.slice A n c, .int .u16 z]) ∧ LdOut w w' g A n c Ls z
set_option maxRecDepth 100000 in
set_option maxHeartbeats 8000000 in
theorem fall_any (NA : Option Addr) (Nc : Nat) (nodes : List Nm) (EA : Option Addr) (Ec : Nat) (edges : List (Pt × Pt)) (nl el : Nat) (w : World) (hk : Hid (GrOk w NA Nc nodes EA Ec edges nl el)) :
    Calls Try.prog 15 #[.agg #[.slice NA nl Nc, .slice EA el Ec]] w (FallOut ⟨NA, Nc, nodes, EA, Ec, edges⟩ w) := by
  obtain ⟨g, hg⟩ : ∃ g : Gm, g = ⟨NA, Nc, nodes, EA, Ec, edges⟩ := ⟨_, rfl⟩
  have HGV := Lib.hid hg
  obtain ⟨w0, hw0⟩ : ∃ w0, w0 = w.alloc (.cells #[.slice NA nl Nc, .slice EA el Ec] 25) := ⟨_, rfl⟩
  obtain ⟨b, hb⟩ : ∃ b, b = w.heap.size := ⟨_, rfl⟩
  have X0 : Hid (Ext w w0) := Lib.hid (by rw [hw0]; exact (Ext.refl w).alloc _)
  have BG : Hid (Bk w0 b 25 #[.slice NA nl Nc, .slice EA el Ec]) := Lib.hid (by rw [hw0, hb]; exact Bk.new _ _ _)
  have g0 := BG.out.cell 0
  have g1 := BG.out.cell 1
  have hn9 := hk.out.n9
  clear hg
  rcases check_ex g.v with hc | hc
  · have key : ∃ z : Int, CheckIs g.v z ∧ z ≠ 0 ∧ (z != 0) = true := by
      rcases hc with hc | hc
      · exact ⟨60, hc, by decide, by decide⟩
      · exact ⟨61, hc, by decide, by decide⟩
    obtain ⟨z, hz, hne, hnb⟩ := key
    have HZ := Lib.hid hz
    have HNE := Lib.hid hne
    have HC := Lib.hid (check_lit (hk.out.ext X0.out) (c := z) (by rw [← HGV.out]; exact hz))
    clear hc hz hne
    go_enter Try.func15, Try.ntmps15
    go_upto_region 1 with fail
    rw [← hw0, ← hb]
    clear hw0 hb
    go_wp2_with (go_at_call 8; go_loud (refine HC.out.mono ?_); rintro r w1 ⟨rfl, x1⟩; have X1 := Lib.hid (X0.out.trans x1); clear x1)
    go_returns
    exact ⟨none, 0, 0, [], z, rfl, by rw [← HGV.out]; exact LdOut.bad HZ.out HNE.out X1.out⟩
  have HCI := Lib.hid hc
  have HC := Lib.hid (check_lit (hk.out.ext X0.out) (c := 0) (by rw [← HGV.out]; exact hc))
  have HN : Hid (∀ x ∈ nodes, nodeT x.v = true) := Lib.hid (by have q := nodes_ok (g := g) hc.form; rw [HGV.out] at q; exact q)
  have GK : Hid (GOK g.v) := Lib.hid (formT_ok hc.form (by rw [HGV.out]; exact hk.out.h6.g32))
  clear hc
  go_enter Try.func15, Try.ntmps15
  go_upto_region 1 with fail
  rw [← hw0, ← hb]
  clear hw0 hb
  go_upto_region 5 with (go_at_call 8; go_loud (refine HC.out.mono ?_); rintro r w1 ⟨rfl, x1⟩; have X1 := Lib.hid x1; clear x1)
  clear g0 g1 HC
  obtain ⟨w2, hw2⟩ : ∃ x, x = w1.alloc (.cells #[.slice none 0 0] 61) := ⟨_, rfl⟩
  obtain ⟨ob, hob⟩ : ∃ x, x = w1.heap.size := ⟨_, rfl⟩
  have X12 : Hid (Ext w1 w2) := Lib.hid (by rw [hw2]; exact (Ext.refl _).alloc _)
  have BO : Hid (Bk w2 ob 61 #[.slice none 0 0]) := Lib.hid (by rw [hw2, hob]; exact Bk.new _ _ _)
  have HOB : Hid (w1.heap.size ≤ ob) := Lib.hid (by rw [hob]; exact Nat.le_refl _)
  have X02 := Lib.hid (X1.out.trans X12.out)
  have K2 := hk.out.ext (X0.out.trans X02.out)
  have HST := Lib.hid (steps_any NA Nc nodes EA Ec edges nl el w2 (Lib.hid K2.l) (Lib.hid K2.e) (Lib.hid K2.g) (Lib.hid K2.h6) (Lib.hid (by have := K2.b; omega)) (by have := K2.n9; omega))
  have g0 := (BG.out.ext X02.out).cell 0
  have g1 := (BG.out.ext X02.out).cell 1
  rw [← hw2, ← hob]
  clear hw2 hob K2
  go_upto_region 6 with (go_at_call 24; go_loud (refine HST.out.mono ?_); rintro r w3 ⟨kb, L, ck, rfl, mp, x3, hml⟩; have MP := Lib.hid mp; have X3 := Lib.hid x3; have HML := Lib.hid hml; clear mp x3 hml)
  obtain ⟨w4, hw4⟩ : ∃ x, x = w3.alloc (.cells #[.map (some kb)] 74) := ⟨_, rfl⟩
  obtain ⟨mb, hmb⟩ : ∃ x, x = w3.heap.size := ⟨_, rfl⟩
  have X34 : Ext w3 w4 := by rw [hw4]; exact (Ext.refl _).alloc _
  have bm : Bk w4 mb 74 #[.map (some kb)] := by rw [hw4, hmb]; exact Bk.new _ _ _
  have FA0 : Hid (FaI w1 w2 w4 NA nl Nc EA el Ec g b mb ob kb L ck none 0 0 []) := Lib.hid ⟨(LdI.nil w1).ext (X12.out.trans (X3.out.trans X34)), BG.out.ext (X02.out.trans (X3.out.trans X34)), bm, BO.out.ext (X3.out.trans X34), HOB.out, by rw [HGV.out]; exact MP.out.ext X34, by rw [HGV.out]; exact HML.out⟩
  have HK1 := Lib.hid (hk.out.ext (X0.out.trans X1.out))
  have HG1 : Hid (GOK (Gm.v ⟨NA, Nc, nodes, EA, Ec, edges⟩)) := Lib.hid (by rw [← HGV.out]; exact GK.out)
  rw [← hw4, ← hmb]
  clear hw4 hmb X34 bm HST
  have g0 := FA0.out.bg.cell 0
  go_wp2
  clear g0
  go_loopg [8, 9, 10, 11, 23] nl (fun z _ _ _ _ v23 wr => ∃ (i n c : Nat) (A : Option Addr) (Ls : List Ld), v23 = .int .i64 i ∧ i ≤ nl ∧ z = nl - i ∧ n ≤ i * 128000 ∧ Hid (FaI w1 w2 wr NA nl Nc EA el Ec g b mb ob kb L ck A n c Ls ∧ Ls.map Ld.v = totT g i))
  case atStart => exact ⟨0, 0, 0, none, [], rfl, Nat.zero_le _, rfl, Nat.zero_le _, Lib.hid ⟨FA0.out, rfl⟩⟩
  case round =>
    clear FA0
    obtain ⟨i, n, c, A, Ls, rfl, hi, rfl, hni, HA⟩ := hrel
    by_cases hil : i < nl
    · have hiz : (i : Int) < (nl : Int) := by omega
      have hiL : i < nodes.length := by rw [← hk.out.l]; exact hil
      obtain ⟨ad, hNA, m0, m1, m2, m3⟩ := (HK1.out.ext HA.out.1.ld.ex).g.nat hiL
      simp only at hNA m0 m1 m2 m3
      subst hNA
      have hnt := HN.out _ (getD_mem' Nm.zero hiL)
      have hbb : (0 ≤ (nodes.getD i Nm.zero).ins ∧ (nodes.getD i Nm.zero).ins ≤ 8) ∧ 0 ≤ (nodes.getD i Nm.zero).outs ∧ (nodes.getD i Nm.zero).outs ≤ 8 := by
        unfold nodeT at hnt
        rw [Bool.and_eq_true] at hnt
        have q := of_decide_eq_true hnt.1
        exact ⟨⟨q.2.2.1, q.2.2.2.1⟩, q.2.2.2.2.1, q.2.2.2.2.2.1⟩
      have HPD : Hid (∀ k, k < insN g i + outN g i → (g.v.dep (plc g i k)).isSome) := Lib.hid (fun k hk2 => plc_dep GK.out (by rw [HGV.out]; exact hiL) (by rw [HGV.out]; exact ⟨hbb.1.1, hbb.2.1⟩) hk2)
      obtain ⟨I, hI⟩ : ∃ I : Nat, (nodes.getD i Nm.zero).ins = I := ⟨(nodes.getD i Nm.zero).ins.toNat, by omega⟩
      obtain ⟨O, hO⟩ : ∃ O : Nat, (nodes.getD i Nm.zero).outs = O := ⟨(nodes.getD i Nm.zero).outs.toNat, by omega⟩
      have hIN : insN g i = I := by unfold insN; rw [HGV.out]; show (nodes.getD i Nm.zero).ins.toNat = I; rw [hI]; rfl
      have hON : outN g i = O := by unfold outN; rw [HGV.out]; show (nodes.getD i Nm.zero).outs.toNat = O; rw [hO]; rfl
      rw [hIN, hON] at HPD
      have hI8 : I ≤ 8 := by omega
      have hO8 : O ≤ 8 := by omega
      have HIN := Lib.hid hIN
      have HON := Lib.hid hON
      obtain ⟨⟨nin, nou, nde, iA, ic, inner⟩, hx⟩ : ∃ e, nodes.getD i Nm.zero = e := ⟨_, rfl⟩
      rw [hx] at m0 m1 m2 m3 hI hO
      simp only at m0 m1 m2 m3 hI hO
      subst hI hO
      obtain ⟨ni, hni'⟩ : ∃ x, x = inner.length := ⟨_, rfl⟩
      rw [← hni'] at m3
      obtain ⟨w5, hw5⟩ : ∃ x, x = wr.alloc (.cells #[.int .i64 I, .int .i64 O, .int .i64 nde, .slice iA ni ic] 50) := ⟨_, rfl⟩
      obtain ⟨nb, hnb⟩ : ∃ x, x = wr.heap.size := ⟨_, rfl⟩
      have FA5 : Hid (FaI w1 w2 w5 (some ad) nl Nc EA el Ec g b mb ob kb L ck A n c Ls) := Lib.hid (by rw [hw5]; exact HA.out.1.ext ((Ext.refl _).alloc _))
      have BN5 : Hid (Bk w5 nb 50 #[.int .i64 I, .int .i64 O, .int .i64 nde, .slice iA ni ic]) := Lib.hid (by rw [hw5, hnb]; exact Bk.new _ _ _)
      have HMV := Lib.hid HA.out.2
      clear hnt hbb hIN hON hx hni' HA hiL
      go_upto_region 10 with fail
      rw [← hw5, ← hnb]
      clear hw5 hnb m0 m1 m2 m3
      have b0 := BN5.out.cell 0
      go_wp2
      clear b0
      go_loopg [10, 30] I (fun z _ v30 wr => ∃ (k n c : Nat) (A : Option Addr) (Ls : List Ld), v30 = .int .i64 k ∧ k ≤ I ∧ z = I - k ∧ n ≤ i * 128000 + k * 8000 ∧ Hid (FaI w1 w2 wr (some ad) nl Nc EA el Ec g b mb ob kb L ck A n c Ls ∧ Bk wr nb 50 #[.int .i64 I, .int .i64 O, .int .i64 nde, .slice iA ni ic] ∧ Ls.map Ld.v = totT g i ++ frT g i k))
      case atStart => exact ⟨0, n, c, A, Ls, rfl, Nat.zero_le _, rfl, le0 hni, Lib.hid ⟨FA5.out, BN5.out, by rw [frT_zero, List.append_nil]; exact HMV.out⟩⟩
      case round =>
        clear FA5 BN5 HMV hni
        obtain ⟨k, n, c, A, Ls, rfl, hkk, rfl, hni, HA⟩ := hrel
        by_cases hkl : k < I
        · have hkz : (k : Int) < (I : Int) := by omega
          have hpl : plc g i k = ⟨i, false, k⟩ := plc_in (by rw [HIN.out]; exact hkl)
          have hds := HPD.out k (by omega)
          rw [hpl] at hds
          obtain ⟨d, hd⟩ := Option.isSome_iff_exists.1 hds
          have HPL := Lib.hid hpl
          have HF1 : Hid (FaI w1 w2 wr (some ad) nl Nc EA el Ec ⟨some ad, Nc, nodes, EA, Ec, edges⟩ b mb ob kb L ck A n c Ls) := Lib.hid (by rw [← HGV.out]; exact HA.out.1)
          have HC := Lib.hid (fall1_any (some ad) Nc nodes EA Ec edges nl el i false k d w1 w2 wr b mb ob kb L ck A n c Ls HK1 HG1 HN (Lib.hid (by rw [← HGV.out]; exact hd)) HF1 (by omega))
          clear hpl hds hd
          go_wp2_with (go_at_call 35; go_loud (refine HC.out.mono ?_); rintro r w6 ⟨rfl, A6, n6, c6, Ls6, fa6, hm6, hb6, nf6⟩; have FA6 := Lib.hid fa6; have HM6 := Lib.hid hm6; have HB6 := Lib.hid hb6; have NF6 := Lib.hid (nf6 _ _ HA.out.2.1); clear fa6 hm6 hb6 nf6)
          go_roundg (I - (k + 1))
          case measure => omega
          case rel => exact ⟨k + 1, n6, c6, A6, Ls6, by go_num, by omega, rfl, bK (Nat.le_trans HB6.out (Nat.add_le_add_right hni _)) hn9, Lib.hid ⟨by rw [HGV.out]; exact FA6.out, NF6.out, by rw [frT_succ, HPL.out, ← List.append_assoc, ← HA.out.2.2, HGV.out]; exact HM6.out.trans (by rw [hk.out.l])⟩⟩
        · obtain rfl : I = k := by omega
          have hkz : ¬ (I : Int) < (I : Int) := by omega
          have b1 := HA.out.2.1.cell 1
          obtain ⟨w7, hw7⟩ : ∃ x : World, x = wr := ⟨_, rfl⟩
          rw [← hw7] at HA b1 ⊢
          clear hw7
          go_wp2
          clear b1
          go_loopg [11, 41] O (fun z _ v41 wr => ∃ (k n c : Nat) (A : Option Addr) (Ls : List Ld), v41 = .int .i64 k ∧ k ≤ O ∧ z = O - k ∧ n ≤ i * 128000 + (I + k) * 8000 ∧ Hid (FaI w1 w2 wr (some ad) nl Nc EA el Ec g b mb ob kb L ck A n c Ls ∧ Ls.map Ld.v = totT g i ++ frT g i (I + k)))
          case atStart => exact ⟨0, n, c, A, Ls, rfl, Nat.zero_le _, rfl, hni, Lib.hid ⟨HA.out.1, HA.out.2.2⟩⟩
          case round =>
            clear HA hni
            obtain ⟨k, n, c, A, Ls, rfl, hkk, rfl, hni, HA⟩ := hrel
            by_cases hkl : k < O
            · have hkz : (k : Int) < (O : Int) := by omega
              have hpl : plc g i (I + k) = ⟨i, true, k⟩ := by rw [← HIN.out]; exact plc_out
              have hds := HPD.out (I + k) (by omega)
              rw [hpl] at hds
              obtain ⟨d, hd⟩ := Option.isSome_iff_exists.1 hds
              have HPL := Lib.hid hpl
              have HF1 : Hid (FaI w1 w2 wr (some ad) nl Nc EA el Ec ⟨some ad, Nc, nodes, EA, Ec, edges⟩ b mb ob kb L ck A n c Ls) := Lib.hid (by rw [← HGV.out]; exact HA.out.1)
              have HC := Lib.hid (fall1_any (some ad) Nc nodes EA Ec edges nl el i true k d w1 w2 wr b mb ob kb L ck A n c Ls HK1 HG1 HN (Lib.hid (by rw [← HGV.out]; exact hd)) HF1 (by omega))
              clear hpl hds hd
              go_wp2_with (go_at_call 35; go_loud (refine HC.out.mono ?_); rintro r w6 ⟨rfl, A6, n6, c6, Ls6, fa6, hm6, hb6, nf6⟩; have FA6 := Lib.hid fa6; have HM6 := Lib.hid hm6; have HB6 := Lib.hid hb6; clear fa6 hm6 hb6 nf6)
              go_roundg (O - (k + 1))
              case measure => omega
              case rel => exact ⟨k + 1, n6, c6, A6, Ls6, by go_num, by omega, rfl, bK (Nat.le_trans HB6.out (Nat.add_le_add_right hni _)) hn9, Lib.hid ⟨by rw [HGV.out]; exact FA6.out, by rw [← Nat.add_assoc, frT_succ, HPL.out, ← List.append_assoc, ← HA.out.2, HGV.out]; exact HM6.out.trans (by rw [hk.out.l])⟩⟩
            · obtain rfl : O = k := by omega
              have hkz : ¬ (O : Int) < (O : Int) := by omega
              go_wp2
              go_roundg (nl - (i + 1))
              case measure => omega
              case rel => exact ⟨i + 1, n, c, A, Ls, by go_num, by omega, rfl, bI hni (Nat.add_le_add hI8 hO8), Lib.hid ⟨HA.out.1, by rw [totT_succ, HIN.out, HON.out]; exact HA.out.2⟩⟩
    · obtain rfl : nl = i := by omega
      have hiz : ¬ (nl : Int) < (nl : Int) := by omega
      have c0 := HA.out.1.bo.cell 0
      go_wp2
      go_returns
      refine ⟨A, n, c, Ls, 0, rfl, HA.out.1.ld.ln, HA.out.1.ld.ow.sl, fun x hx => (HA.out.1.ld.ws x hx).1, .inr ⟨by rw [← HGV.out]; exact HCI.out, rfl, ?_⟩, X0.out.trans (X1.out.trans HA.out.1.ld.ex)⟩
      rw [HA.out.2, ← HGV.out]
      congr 1
      rw [HGV.out]; exact hk.out.l
end Go.Proofs.Yteklohamkmiphaa
namespace Go.Proofs.Yteklohamkmiphaa
open Go.RowKit

/-- a node's numbers -/
def NdIn (n : Nd) : Prop := I64 n.ins ∧ I64 n.outs ∧ I64 n.depth ∧ ∀ y ∈ n.inner, I64 y.i ∧ I64 y.o ∧ W64 y.w
theorem g64_v {g : Gm} (h : ∀ n ∈ g.v.nodes, NdIn n) (he : ∀ e ∈ g.v.edges, P64 e.1 ∧ P64 e.2) : G64 g :=
  ⟨fun x hx => by
    obtain ⟨a, b, c, d⟩ := h x.v (List.mem_map.2 ⟨x, hx, rfl⟩)
    exact ⟨a, b, c, fun y hy => d y.v (List.mem_map.2 ⟨y, hy, rfl⟩)⟩, he⟩
theorem nodesS_len : ∀ (l : List Nm) (i : Nat), (nodesS i l).length = sumOn (fun n : Nd => n.inner.length) (l.map Nm.v)
  | [], _ => rfl
  | x :: l, i => by
    unfold nodesS
    rw [List.length_append, List.length_map, nodesS_len l, List.map_cons, sumOn_cons]
    show _ = (x.inner.map Im.v).length + _
    rw [List.length_map]
theorem allS_len (g : Gm) : (allS g).length = g.v.edges.length + sumOn (fun n => n.inner.length) g.v.nodes := by
  unfold allS
  rw [List.length_append, List.length_map, nodesS_len]
  rfl
section
variable {w : World} {NA : Option Addr} {Nc : Nat} {nodes : List Nm} {EA : Option Addr} {Ec : Nat} {edges : List (Pt × Pt)} {nl el : Nat}
theorem grok_v (hl : nl = nodes.length) (he : el = edges.length) (G : GmR w ⟨NA, Nc, nodes, EA, Ec, edges⟩) (h6 : G64 ⟨NA, Nc, nodes, EA, Ec, edges⟩) (E : List (Pt × Pt)) (hE : ∀ e ∈ edges, e ∈ E) (h1 : nodes.length + E.length + sumOn (fun n => n.inner.length) (nodes.map Nm.v) ≤ 60) (h2 : edges.length ≤ 900) : GrOk w NA Nc nodes EA Ec edges nl el := by
  refine ⟨hl, he, G, h6, ⟨E, hE, ?_⟩, ?_, by omega, by omega⟩
  · show (nodes.map Nm.v).length + _ + sumOn _ (nodes.map Nm.v) ≤ 60
    rw [List.length_map]; exact h1
  · rw [allS_len]
    show edges.length + sumOn _ (nodes.map Nm.v) ≤ 1000
    omega
end
theorem sum_mem {α : Type} (f : α → Nat) {l : List α} {x : α} (h : x ∈ l) : f x ≤ (l.map f).sum := by
  induction l with
  | nil => cases h
  | cons a l ih =>
    rw [List.map_cons, List.sum_cons]
    rcases List.mem_cons.1 h with rfl | h
    · omega
    · have := ih h; omega
theorem wt_inner (nodes : List Nm) : sumOn (fun n : Nd => n.inner.length) (nodes.map Nm.v) ≤ (nodes.map wtN).sum := by
  induction nodes with
  | nil => exact Nat.le_refl _
  | cons x l ih =>
    rw [List.map_cons, List.map_cons, sumOn_cons, List.sum_cons]
    have : x.v.inner.length ≤ wtN x := by
      show (x.inner.map Im.v).length ≤ _
      rw [List.length_map]
      unfold wtN
      omega
    omega
/-- one that comes in, and is small -/
theorem small_64 {NA : Option Addr} {Nc : Nat} {nodes : List Nm} {EA : Option Addr} {Ec : Nat} {edges : List (Pt × Pt)} (h : GIn ⟨NA, Nc, nodes, EA, Ec, edges⟩) (hw : wtG nodes edges ≤ 60) : G64 ⟨NA, Nc, nodes, EA, Ec, edges⟩ :=
  ⟨fun x hx => by
    have n := h.nd x hx
    refine ⟨n.ins, n.outs, n.depth, fun y hy => ⟨(n.inn y hy).1, (n.inn y hy).2.1, (n.inn y hy).2.2.1, (n.inn y hy).2.2.2.1, (n.inn y hy).2.2.2.2, ?_⟩⟩
    have h1 := sum_mem wtN hx
    have h2 := sum_mem wtP hy
    have e1 : wtN x = x.inner.length + (x.inner.map wtP).sum := rfl
    have e2 : wtP y = y.p.w.enter.length / 4 := rfl
    unfold wtG at hw
    simp only at h1
    omega, h.ed⟩
theorem small_ok {w : World} {NA : Option Addr} {Nc : Nat} {nodes : List Nm} {EA : Option Addr} {Ec : Nat} {edges : List (Pt × Pt)} {nl el : Nat} (hl : nl = nodes.length) (he : el = edges.length) (G : GmR w ⟨NA, Nc, nodes, EA, Ec, edges⟩) (h : GIn ⟨NA, Nc, nodes, EA, Ec, edges⟩) (hw : wtG nodes edges ≤ 60) : GrOk w NA Nc nodes EA Ec edges nl el := by
  have h1 := wt_inner nodes
  have h2 := hw
  unfold wtG at h2
  exact grok_v hl he G (small_64 h hw) edges (fun _ h => h) (by omega) (by omega)
/-- the chapter's -/
theorem ex_ok {w : World} {NA : Option Addr} {Nc : Nat} {nodes : List Nm} {EA : Option Addr} {Ec : Nat} {edges : List (Pt × Pt)} {a : Int} (G : GmR w ⟨NA, Nc, nodes, EA, Ec, edges⟩) (h : Gm.v ⟨NA, Nc, nodes, EA, Ec, edges⟩ = exG a) (h0 : 0 ≤ a) (h1 : a ≤ 4294967295) : GrOk w NA Nc nodes EA Ec edges 6 6 := by
  have hn : nodes.map Nm.v = (exG a).nodes := congrArg Gr.nodes h
  have he : edges = (exG a).edges := congrArg Gr.edges h
  have hl : nodes.length = 6 := by rw [← List.length_map Nm.v, hn]; rfl
  have hel : edges.length = 6 := by rw [he]; rfl
  refine grok_v hl.symm hel.symm G (g64_v (fun n hn => ?_) (fun e he => ?_)) edges (fun _ h => h) ?_ (by omega)
  · rw [h] at hn
    have z : U32 [(0 : Int)] := fun y hy => by simp at hy; omega
    have z0 : U32 ([] : List Int) := fun y hy => (nomatch hy)
    unfold exG idW at hn
    simp only [List.mem_cons, List.not_mem_nil, or_false] at hn
    rcases hn with rfl | rfl | rfl | rfl | rfl | rfl
    · exact ⟨by unfold I64; simp, by unfold I64; simp, by unfold I64; simp, fun y hy => (nomatch hy)⟩
    · exact ⟨by unfold I64; simp, by unfold I64; simp, by unfold I64; simp, fun y hy => by simp only [List.mem_cons, List.not_mem_nil, or_false] at hy; subst hy; exact ⟨by unfold I64; simp, by unfold I64; simp, by simp, by simp, z, by simp⟩⟩
    · exact ⟨by unfold I64; simp, by unfold I64; simp, by unfold I64; simp, fun y hy => by simp only [List.mem_cons, List.not_mem_nil, or_false] at hy; rcases hy with rfl | rfl <;> exact ⟨by unfold I64; simp, by unfold I64; simp, by simp, by simp, z0, by simp⟩⟩
    · exact ⟨by unfold I64; simp, by unfold I64; simp, by unfold I64; simp, fun y hy => by simp only [List.mem_cons, List.not_mem_nil, or_false] at hy; subst hy; exact ⟨by unfold I64; simp, by unfold I64; simp, by simp, ⟨h0, h1⟩, z0, by simp⟩⟩
    · exact ⟨by unfold I64; simp, by unfold I64; simp, by unfold I64; simp, fun y hy => by simp only [List.mem_cons, List.not_mem_nil, or_false] at hy; subst hy; exact ⟨by unfold I64; simp, by unfold I64; simp, by simp, by simp, z0, by simp⟩⟩
    · exact ⟨by unfold I64; simp, by unfold I64; simp, by unfold I64; simp, fun y hy => (nomatch hy)⟩
  · rw [h] at he
    unfold exG at he
    simp only [List.mem_cons, List.not_mem_nil, or_false] at he
    rcases he with rfl | rfl | rfl | rfl | rfl | rfl <;> exact ⟨by unfold P64 I64; simp, by unfold P64 I64; simp⟩
  · rw [hn, hl, hel]
    show 6 + 6 + 5 ≤ 60
    decide
end Go.Proofs.Yteklohamkmiphaa
namespace Go.Proofs.Yteklohamkmiphaa
open Go.RowKit

set_option maxRecDepth 100000 in
set_option maxHeartbeats 400000 in
theorem samePath_yes (L1 a1 : Int) (A1 A2 : Option Addr) (n1 n2 c1 c2 : Nat) (l1 : List Int) (w : World) (h1 : Hid (Sl w 1 A1 n1 c1 (wds l1))) (h2 : Hid (Sl w 1 A2 n2 c2 (wds l1))) :
    Calls Try.prog 34 #[.agg #[.int .i64 L1, .int .u32 a1, .slice A1 n1 c1], .agg #[.int .i64 L1, .int .u32 a1, .slice A2 n2 c2]] w fun e w' => e = .returned (.bool true) ∧ Ext w w' := by
  go_enter Try.func34, Try.ntmps34
  go_wp2_with (go_at_call 59; refine (sameWords_any A1 A2 n1 n2 c1 c2 l1 l1 _ (h1.out.ext (((Ext.refl w).alloc _).alloc _)) (h2.out.ext (((Ext.refl w).alloc _).alloc _))).mono ?_; rintro r w1 ⟨rfl, x1⟩)
  refine bodyPost_ret (v := .bool (decide (l1 = l1))) (by simp only [results, Try.results34]; go_simp) rfl ?_
  exact ⟨by simp, (((Ext.refl w).alloc _).alloc _).trans x1⟩
theorem pms_at {L M : List Pm} (h : L.map Pm.w = M.map Pm.w) {i : Nat} (hi : i < L.length) : (M.getD i Pm.zero).w = (L.getD i Pm.zero).w := by
  have hl := congrArg List.length h
  rw [List.length_map, List.length_map] at hl
  have e := congrArg (fun l : List Way => l[i]?) h
  simp only [List.getElem?_map] at e
  rw [List.getElem?_eq_getElem hi, List.getElem?_eq_getElem (by omega)] at e
  simp only [Option.map_some, Option.some.injEq] at e
  rw [List.getD_eq_getElem?_getD, List.getD_eq_getElem?_getD, List.getElem?_eq_getElem hi, List.getElem?_eq_getElem (by omega)]
  exact e.symm
set_option maxRecDepth 100000 in
set_option maxHeartbeats 4000000 in
theorem samePaths_yes (A1 A2 : Option Addr) (n m c1 c2 : Nat) (L M : List Pm) (w : World) (hn : Hid (n = L.length)) (hm : Hid (m = M.length)) (h1 : Hid (Sl w 3 A1 n c1 (L.flatMap pmC))) (h2 : Hid (Sl w 3 A2 m c2 (M.flatMap pmC))) (r1 : Hid (∀ x ∈ L, PmR w x)) (r2 : Hid (∀ x ∈ M, PmR w x)) (he : Hid (L.map Pm.w = M.map Pm.w)) :
    Calls Try.prog 14 #[.slice A1 n c1, .slice A2 m c2] w fun e w' => e = .returned (.bool true) ∧ Ext w w' := by
  have hl := congrArg List.length he.out
  rw [List.length_map, List.length_map] at hl
  obtain rfl : m = n := by rw [hn.out, hm.out, hl]
  have hbig : m ≤ 9223372036854775807 := h1.out.le
  clear hl
  go_enter Try.func14, Try.ntmps14
  go_wp2
  go_loopg [5] m (fun z v wr => ∃ k : Nat, z = m - k ∧ k ≤ m ∧ v = .int .i64 k ∧ Hid (Ext w wr))
  case atStart => exact ⟨0, rfl, Nat.zero_le _, rfl, Lib.hid (Ext.refl _)⟩
  case round =>
    obtain ⟨k, rfl, hk, rfl, HE⟩ := hrel
    by_cases hlt : k < m
    · have hkL : k < L.length := by rw [← hn.out]; exact hlt
      have hkM : k < M.length := by rw [← hm.out]; exact hlt
      obtain ⟨a1, rfl, p0, pp⟩ := els_at pmC 3 pmC_len Pm.zero (h1.out.ext HE.out) hn.out hkL (by omega)
      obtain ⟨a2, rfl, q0, qq⟩ := els_at pmC 3 pmC_len Pm.zero (h2.out.ext HE.out) hm.out hkM (by omega)
      have HX : Hid (PmR wr (L.getD k Pm.zero)) := Lib.hid ((r1.out _ (getD_mem' Pm.zero hkL)).ext HE.out)
      have HY : Hid (PmR wr (M.getD k Pm.zero)) := Lib.hid ((r2.out _ (getD_mem' Pm.zero hkM)).ext HE.out)
      have hw := pms_at he.out hkL
      obtain ⟨x, hx⟩ : ∃ x, L.getD k Pm.zero = x := ⟨_, rfl⟩
      obtain ⟨y, hy⟩ : ∃ y, M.getD k Pm.zero = y := ⟨_, rfl⟩
      rw [hx] at p0 pp HX hw
      rw [hy] at q0 qq HY hw
      obtain ⟨xA, xc, ⟨xl, xa, xe⟩⟩ := x
      obtain ⟨yA, yc, yw⟩ := y
      simp only at hw
      subst hw
      have p0 := p0 _ rfl
      have p1 := pp 0 _ rfl
      have p2 := pp 1 _ rfl
      have q0 := q0 _ rfl
      have q1 := qq 0 _ rfl
      have q2 := qq 1 _ rfl
      simp only at p0 p1 p2 q0 q1 q2
      obtain ⟨nx, hnx⟩ : ∃ nx, nx = xe.length := ⟨_, rfl⟩
      rw [← hnx] at p2 q2
      have HX : Hid (Sl wr 1 xA nx xc (wds xe)) := Lib.hid (by rw [hnx]; exact HX.out)
      have HY : Hid (Sl wr 1 yA nx yc (wds xe)) := Lib.hid (by rw [hnx]; exact HY.out)
      clear hx hy hkL hkM pp qq hnx
      go_wp2
      have X : Ext wr wr.drew := (Ext.refl wr).drew
      have y0 : ∀ y : Xt wr.drew, y.W.cell? (a1.add (k * 3)) = some (.int .i64 xl) := fun y => y.x.cell (X.cell p0)
      have y1 : ∀ y : Xt wr.drew, y.W.cell? ⟨(a1.add (k * 3)).block, (a1.add (k * 3)).off + 1, none⟩ = some (.int .u32 xa) := fun y => y.x.cell (X.cell p1)
      have y2 : ∀ y : Xt wr.drew, y.W.cell? ⟨(a1.add (k * 3)).block, (a1.add (k * 3)).off + 2, none⟩ = some (.slice xA nx xc) := fun y => y.x.cell (X.cell p2)
      have z0 : ∀ y : Xt wr.drew, y.W.cell? (a2.add (k * 3)) = some (.int .i64 xl) := fun y => y.x.cell (X.cell q0)
      have z1 : ∀ y : Xt wr.drew, y.W.cell? ⟨(a2.add (k * 3)).block, (a2.add (k * 3)).off + 1, none⟩ = some (.int .u32 xa) := fun y => y.x.cell (X.cell q1)
      have z2 : ∀ y : Xt wr.drew, y.W.cell? ⟨(a2.add (k * 3)).block, (a2.add (k * 3)).off + 2, none⟩ = some (.slice yA nx yc) := fun y => y.x.cell (X.cell q2)
      clear p0 p1 p2 q0 q1 q2
      refine wp_region_ord [0,0,3,7,0,0,48,112,255,511] (.flo [0,1,2,3,4,5,6,7] (.one 8 (.flo [9] (.fin)))) (by kernel_rfl) (by kernel_rfl) (by intro _ _ d _ _ h; cases d <;> exact h) ?_
      (refine ord_flo (pick_cons rfl (pick_cons rfl (pick_cons rfl (pick_cons rfl (pick_cons rfl (pick_cons rfl (pick_cons rfl (pick_cons rfl pick_nil)))))))) ?_; (repeat (go_big_quiet_step (fail))); refine wpQuiet_nil ?_; show ordWalk _ _ _ _ _ _ _)
      refine ord_one (pick_cons rfl pick_nil) ?_; intro K_ hK_
      go_wp2_with (go_at_call 34; go_loud (refine (samePath_yes xl xa xA yA nx nx xc yc xe _ (Lib.hid (HX.out.ext X)) (Lib.hid (HY.out.ext X))).mono ?_); rintro r w1 ⟨rfl, x1⟩)
      (refine ord_flo (pick_cons rfl pick_nil) ?_; (repeat (go_big_quiet_step (fail))); refine wpQuiet_nil ?_; show ordWalk _ _ _ _ _ _ _)
      refine ord_fin ?_
      go_wp2
      go_roundg (m - (k + 1))
      case measure => omega
      case rel => exact ⟨k + 1, by omega, by omega, by go_num, Lib.hid ((HE.out.trans X).trans x1)⟩
    · obtain rfl : k = m := by omega
      go_wp2
      go_ret
      exact ⟨rfl, HE.out⟩
end Go.Proofs.Yteklohamkmiphaa
namespace Go.Proofs.Yteklohamkmiphaa
open Go.RowKit

def WaysLit (w : World) (l : List Way) (e : Ending) (w' : World) : Prop := ∃ (A : Option Addr) (c n : Nat) (M : List Pm), e = .returned (.tuple #[.slice A n c, .int .u16 0]) ∧ n = M.length ∧ M.map Pm.w = l ∧ Sl w' 3 A n c (M.flatMap pmC) ∧ (∀ x ∈ M, PmR w' x) ∧ Ext w w'
section
variable {w : World} {NA : Option Addr} {Nc : Nat} {nodes : List Nm} {EA : Option Addr} {Ec : Nat} {edges : List (Pt × Pt)}
theorem ways_lit {fn : Int} {fo : Bool} {fp tn : Int} {too : Bool} {tp : Int} {l : List Way} (G : GmR w ⟨NA, Nc, nodes, EA, Ec, edges⟩) (h : Gm.v ⟨NA, Nc, nodes, EA, Ec, edges⟩ = exG 1) (key : ∀ l' e', WaysIs (exG 1) ⟨fn, fo, fp⟩ ⟨tn, too, tp⟩ l' e' → l' = l ∧ e' = 0) :
    Calls Try.prog 12 #[.agg #[.slice NA 6 Nc, .slice EA 6 Ec], .agg #[.int .i64 fn, .bool fo, .int .i64 fp], .agg #[.int .i64 tn, .bool too, .int .i64 tp]] w (WaysLit w l) := by
  refine (fways_any NA Nc nodes EA Ec edges 6 6 fn fo fp tn too tp w (Lib.hid (ex_ok G h (by decide) (by decide)))).mono ?_
  rintro e w' ⟨A, c, n, M, z, rfl, h1, h2, h3, h4, _, h6⟩
  rw [h] at h2
  obtain ⟨e1, rfl⟩ := key _ _ h2
  exact ⟨A, c, n, M, rfl, h1, e1, h3, h4, h6⟩
theorem excheck_lit {a c : Int} (G : GmR w ⟨NA, Nc, nodes, EA, Ec, edges⟩) (h : Gm.v ⟨NA, Nc, nodes, EA, Ec, edges⟩ = exG a) (h0 : 0 ≤ a) (h1 : a ≤ 4294967295) (hc : CheckIs (exG a) c) :
    Calls Try.prog 8 #[.agg #[.slice NA 6 Nc, .slice EA 6 Ec]] w fun e w' => e = .returned (.int .u16 c) ∧ Ext w w' := check_lit (ex_ok G h h0 h1) (by rw [h]; exact hc)
end
set_option maxRecDepth 100000 in
set_option maxHeartbeats 4000000 in
theorem known6_any (w : World) : Calls Try.prog 7 #[] w fun e w' => e = .returned (.bool true) ∧ Ext w w' := by
  go_enter Try.func7, Try.ntmps7
  go_upto_region 2 with (first
    | (go_at_call 17; go_loud (refine (graph_any 1 _).mono ?_); rintro e w1 ⟨NA, Nc, nodes, EA, Ec, edges, rfl, gm, gv, x1⟩; have X1 := Lib.hid x1; have HC := Lib.hid (ways_lit gm gv (fun _ _ h => exG1_ways1 h)); clear gm gv x1)
    | (go_at_call 12; go_loud (refine HC.out.mono ?_); rintro e w2 ⟨A1, c1, n1, M1, rfl, a1, a2, a3, a4, x2⟩; have X2 := Lib.hid (X1.out.trans x2); have HN1 := Lib.hid a1; have HM1 := Lib.hid a2; have HS1 := Lib.hid a3; have HR1 := Lib.hid a4; clear a1 a2 a3 a4 x2))
  clear HC
  go_upto_region 3 with (first
    | (go_at_call 17; go_loud (refine (graph_any 1 _).mono ?_); rintro e w3 ⟨NA, Nc, nodes, EA, Ec, edges, rfl, gm, gv, x1⟩; have X3 := Lib.hid x1; have HC := Lib.hid (ways_lit gm gv (fun _ _ h => exG1_ways2 h)); clear gm gv x1)
    | (go_at_call 12; go_loud (refine HC.out.mono ?_); rintro e w4 ⟨A2, c2, n2, M2, rfl, a1, a2, a3, a4, x2⟩; have X4 := Lib.hid (X3.out.trans x2); have HN2 := Lib.hid a1; have HM2 := Lib.hid a2; have HS2 := Lib.hid a3; have HR2 := Lib.hid a4; clear a1 a2 a3 a4 x2))
  clear HC
  go_upto_region 4 with (first
    | (go_at_call 8; have mk := X7; go_loud (refine HC7.out.mono ?_); rintro e w8 ⟨rfl, x8⟩; have X8W4 := Lib.hid (X5.out.trans (X6.out.trans (X7.out.trans x8))); have X8 := Lib.hid (X4.out.trans X8W4.out); clear x8)
    | (go_at_call 17; have mk := X6; go_loud (refine (graph_any 1 _).mono ?_); rintro e w7 ⟨NA, Nc, nodes, EA, Ec, edges, rfl, gm, gv, x1⟩; have X7 := Lib.hid x1; have HC7 := Lib.hid (excheck_lit gm gv (by decide) (by decide) exG1_check); clear gm gv x1)
    | (go_at_call 17; go_loud (refine (graph_any 0 _).mono ?_); rintro e w5 ⟨NA, Nc, nodes, EA, Ec, edges, rfl, gm, gv, x1⟩; have X5 := Lib.hid x1; have HC5 := Lib.hid (excheck_lit gm gv (by decide) (by decide) exG0_check); clear gm gv x1)
    | (go_at_call 8; go_loud (refine HC5.out.mono ?_); rintro e w6 ⟨rfl, x6⟩; have X6 := Lib.hid x6; clear x6))
  clear HC5 HC7
  have one : ∀ (W : World) (v : Way), v.enter = [] → Sl (W.alloc (.cells #[.int .i64 v.leave, .int .u32 v.add, .slice none 0 0] 47)) 3 (some ⟨W.heap.size, 0, none⟩) 1 1 ([(⟨none, 0, v⟩ : Pm)].flatMap pmC) := fun W v hv => by
    have e : [(⟨none, 0, v⟩ : Pm)].flatMap pmC = [.int .i64 v.leave, .int .u32 v.add, .slice none 0 0] := by
      show pmC ⟨none, 0, v⟩ ++ [] = _
      unfold pmC
      rw [hv]; rfl
    rw [e]
    exact Sl.one W #[.int .i64 v.leave, .int .u32 v.add, .slice none 0 0] 47 3 rfl
  have ONE := Lib.hid one
  have P1 : Hid (Calls Try.prog 14 #[.slice A1 n1 c1, .slice (some ⟨w8.heap.size, 0, none⟩) 1 1] (w8.alloc (.cells #[.int .i64 0, .int .u32 0, .slice none 0 0] 47)) fun e w' => e = .returned (.bool true) ∧ Ext (w8.alloc (.cells #[.int .i64 0, .int .u32 0, .slice none 0 0] 47)) w') := Lib.hid (by
    have x9 : Ext w2 (w8.alloc (.cells #[.int .i64 0, .int .u32 0, .slice none 0 0] 47)) := X8.out.alloc _
    exact samePaths_yes A1 _ n1 1 c1 1 M1 [⟨none, 0, idW⟩] _ HN1 (Lib.hid rfl) (Lib.hid (HS1.out.ext x9)) (Lib.hid (one w8 idW rfl)) (Lib.hid (fun x hx => (HR1.out x hx).ext x9)) (Lib.hid (fun x hx => by simp only [List.mem_cons, List.not_mem_nil, or_false] at hx; subst hx; exact Sl.nil _ _)) (Lib.hid (by rw [HM1.out]; rfl)))
  clear one
  go_wp2_with (first
    | (go_at_call 14; have mk := X10; have x11 : Ext w4 (w10.alloc (.cells #[.int .i64 0, .int .u32 1, .slice none 0 0] 47)) := (X10.out.alloc _); go_loud (refine (samePaths_yes A2 _ n2 1 c2 1 M2 [⟨none, 0, ⟨0, 1, []⟩⟩] _ HN2 (Lib.hid rfl) (Lib.hid (HS2.out.ext x11)) (Lib.hid (ONE.out w10 ⟨0, 1, []⟩ rfl)) (Lib.hid (fun x hx => (HR2.out x hx).ext x11)) (Lib.hid (fun x hx => by simp only [List.mem_cons, List.not_mem_nil, or_false] at hx; subst hx; exact Sl.nil _ _)) (Lib.hid (by rw [HM2.out]; rfl))).mono ?_); rintro e w12 ⟨rfl, x12⟩; have X12 := Lib.hid (X4.out.trans (x11.trans x12)); clear x12 x11)
    | (go_at_call 14; go_loud (refine P1.out.mono ?_); rintro e w10 ⟨rfl, x10⟩; have X10 := Lib.hid (X8W4.out.trans ((Ext.refl w8).alloc (.cells #[.int .i64 0, .int .u32 0, .slice none 0 0] 47) |>.trans x10)); clear x10))
  go_ret
  exact ⟨rfl, X2.out.trans X12.out⟩
end Go.Proofs.Yteklohamkmiphaa
namespace Go.Proofs.Yteklohamkmiphaa
open Go.RowKit

theorem all_code {g : Gm} {L : List (Pt × Pt × List Way)} {z : Int} (h : AllIs g L z) : 0 ≤ z ∧ z ≤ 61 := by
  rcases h with ⟨h1, _, _⟩ | ⟨_, h2, _⟩
  · rcases h1 with ⟨_, e⟩ | ⟨_, _, e⟩ | ⟨_, _, e⟩ <;> omega
  · omega
theorem map_getD {α β : Type} (f : α → β) (z : α) {l m : List α} (h : l.map f = m.map f) (i : Nat) : f (l.getD i z) = f (m.getD i z) := by
  have e : ∀ k : List α, f (k.getD i z) = (k.map f).getD i (f z) := fun k => by
    rw [List.getD_eq_getElem?_getD, List.getD_eq_getElem?_getD, List.getElem?_map]
    cases k[i]? <;> rfl
  rw [e, e, h]
set_option maxRecDepth 100000 in
set_option maxHeartbeats 8000000 in
theorem alls6_any (NA : Option Addr) (Nc : Nat) (nodes : List Nm) (EA : Option Addr) (Ec : Nat) (edges : List (Pt × Pt)) (nl el : Nat) (w : World) (hl : Hid (nl = nodes.length)) (he : Hid (el = edges.length)) (hG : Hid (GmR w ⟨NA, Nc, nodes, EA, Ec, edges⟩)) (hI : Hid (GIn ⟨NA, Nc, nodes, EA, Ec, edges⟩)) (hB : Hid (GmB ⟨NA, Nc, nodes, EA, Ec, edges⟩)) :
    Calls Try.prog 5 #[.agg #[.slice NA nl Nc, .slice EA el Ec]] w fun e w' => e = .returned (.bool true) ∧ Ext w w' := by
  obtain ⟨w0, hw0⟩ : ∃ w0, w0 = w.alloc (.cells #[.slice NA nl Nc, .slice EA el Ec] 25) := ⟨_, rfl⟩
  obtain ⟨b, hb⟩ : ∃ b, b = w.heap.size := ⟨_, rfl⟩
  have X0 : Hid (Ext w w0) := Lib.hid (by rw [hw0]; exact (Ext.refl w).alloc _)
  have BG : Hid (Bk w0 b 25 #[.slice NA nl Nc, .slice EA el Ec]) := Lib.hid (by rw [hw0, hb]; exact Bk.new _ _ _)
  have g0 := BG.out.cell 0
  have g1 := BG.out.cell 1
  have HM := Lib.hid (much6_any NA Nc nodes EA Ec edges nl el w0 hl he (Lib.hid (hG.out.ext X0.out)) hB)
  go_enter Try.func5, Try.ntmps5
  go_upto_region 1 with fail
  rw [← hw0, ← hb]
  clear hw0 hb
  go_upto_if 9 with (go_at_call 6; go_loud (refine HM.out.mono ?_); rintro e w1 ⟨bb, rfl, hsm, x1⟩; have X1 := Lib.hid x1; have HSM := Lib.hid hsm; clear x1 hsm)
  cases bb with
  | true =>
    go_wp2
    go_ret
    exact ⟨rfl, X0.out.trans X1.out⟩
  | false =>
    have hw60 : wtG nodes edges ≤ 60 := HSM.out rfl
    have XW := Lib.hid (X0.out.trans X1.out)
    have HK := Lib.hid (small_ok (nl := nl) (el := el) hl.out he.out (hG.out.ext XW.out) hI.out hw60)
    have HC := Lib.hid (fall_any NA Nc nodes EA Ec edges nl el w1 HK)
    clear g0 g1 hw60
    have g0 := (BG.out.ext X1.out).cell 0
    have g1 := (BG.out.ext X1.out).cell 1
    go_upto_region 4 with (go_at_call 15; go_loud (refine HC.out.mono ?_); rintro e w2 ⟨A, n, c, Ls, z, rfl, lo⟩; have LO := Lib.hid lo; clear lo)
    clear g0 g1 HC HM HSM
    have g0 := (BG.out.ext (X1.out.trans LO.out.ex)).cell 0
    have g1 := (BG.out.ext (X1.out.trans LO.out.ex)).cell 1
    have HC := Lib.hid (ralls_any NA Nc nodes EA Ec edges nl el w2 (Lib.hid (HK.out.ext LO.out.ex)))
    go_upto_region 5 with (go_at_call 16; go_loud (refine HC.out.mono ?_); rintro e w3 ⟨A2, n2, c2, Ls2, z2, rfl, lo2⟩; have LO2 := Lib.hid lo2; clear lo2)
    clear g0 g1 HC
    obtain ⟨hls, hzz⟩ := LO.out.is_.unique LO2.out.is_
    have hz9 := all_code LO.out.is_
    have hnn : n2 = n := by
      have q := congrArg List.length hls
      rw [List.length_map, List.length_map, ← LO.out.ln, ← LO2.out.ln] at q
      exact q.symm
    subst hzz hnn
    have HLS := Lib.hid hls
    have hcv : wrap64 z = z := IntWalk.wrap64_in _ ⟨by omega, by omega⟩
    have hcv2 : IntKind.i64.wrap z = z := by rw [IntWalk.i64_left]; exact hcv
    have hle : n2 ≤ 9223372036854775807 := LO2.out.sl.le
    clear hls
    go_upto_if 34 with (go_at_call 7; go_loud (refine (known6_any _).mono ?_); rintro e w4 ⟨rfl, x4⟩; have X4 := Lib.hid x4; clear x4)
    have S1 := Lib.hid (LO.out.sl.ext (LO2.out.ex.trans X4.out))
    have S2 := Lib.hid (LO2.out.sl.ext X4.out)
    go_wp2
    go_loopg [7] n2 (fun gg v7 wr => ∃ i : Nat, v7 = .int .i64 i ∧ i ≤ n2 ∧ gg = n2 - i ∧ Hid (Ext w4 wr))
    case atStart => exact ⟨0, rfl, Nat.zero_le _, rfl, Lib.hid (Ext.refl _)⟩
    case round =>
      obtain ⟨i, rfl, hi, rfl, XR⟩ := hrel
      by_cases hlt : i < n2
      · have hltz : (i : Int) < (n2 : Int) := by omega
        have hL1 : i < Ls.length := by rw [← LO.out.ln]; exact hlt
        have hL2 : i < Ls2.length := by rw [← LO2.out.ln]; exact hlt
        obtain ⟨a1, hA1, p0, p1⟩ := els_at ldC 7 ldC_len Ld.zero (S1.out.ext XR.out) LO.out.ln hL1 (by omega)
        obtain ⟨a2, hA2, q0, q1⟩ := els_at ldC 7 ldC_len Ld.zero (S2.out.ext XR.out) LO2.out.ln hL2 (by omega)
        subst hA1 hA2
        have hv := map_getD Ld.v Ld.zero HLS.out i
        have hw1 := (LO.out.ws _ (getD_mem' Ld.zero hL1)).ext (LO2.out.ex.trans (X4.out.trans XR.out))
        have hw2 := (LO2.out.ws _ (getD_mem' Ld.zero hL2)).ext (X4.out.trans XR.out)
        obtain ⟨⟨⟨an, ao, ap⟩, ⟨bn, bo, bp⟩, xA, xc, xw⟩, hx⟩ : ∃ e, Ls.getD i Ld.zero = e := ⟨_, rfl⟩
        obtain ⟨⟨⟨cn, co, cp⟩, ⟨dn, do_, dp⟩, yA, yc, yw⟩, hy⟩ : ∃ e, Ls2.getD i Ld.zero = e := ⟨_, rfl⟩
        rw [hx] at p0 p1 hv hw1
        rw [hy] at q0 q1 hv hw2
        unfold Ld.v at hv
        simp only [Prod.mk.injEq, Pt.mk.injEq] at hv
        obtain ⟨⟨h1, h2, h3⟩, ⟨h4, h5, h6⟩, h7⟩ := hv
        subst h1 h2 h3 h4 h5 h6
        have p6 := p1 5 _ rfl
        have p5 := p1 4 _ rfl
        have p4 := p1 3 _ rfl
        have p3 := p1 2 _ rfl
        have p2 := p1 1 _ rfl
        have p1 := p1 0 _ rfl
        have p0 := p0 _ rfl
        have q6 := q1 5 _ rfl
        have q5 := q1 4 _ rfl
        have q4 := q1 3 _ rfl
        have q3 := q1 2 _ rfl
        have q2 := q1 1 _ rfl
        have q1 := q1 0 _ rfl
        have q0 := q0 _ rfl
        simp only at p0 p1 p2 p3 p4 p5 p6 q0 q1 q2 q3 q4 q5 q6 hw1 hw2
        obtain ⟨xn, hxn⟩ : ∃ x, x = xw.length := ⟨_, rfl⟩
        obtain ⟨yn, hyn⟩ : ∃ x, x = yw.length := ⟨_, rfl⟩
        rw [← hxn] at p6 hw1
        rw [← hyn] at q6 hw2
        have HSP := Lib.hid (fun W (x : Ext wr W) => samePaths_yes xA yA xn yn xc yc xw yw W (Lib.hid hxn) (Lib.hid hyn) (Lib.hid (hw1.sl.ext x)) (Lib.hid (hw2.sl.ext x)) (Lib.hid (fun y hy => (hw1.pr y hy).1.ext x)) (Lib.hid (fun y hy => (hw2.pr y hy).1.ext x)) (Lib.hid h7))
        have XE : Ext wr wr.drew := (Ext.refl wr).drew
        have P0 : ∀ y : Xt wr.drew, y.W.cell? (a1.add (i * 7)) = some (.int .i64 an) := fun y => (XE.trans y.x).cell p0
        have P1 : ∀ y : Xt wr.drew, y.W.cell? ⟨(a1.add (i * 7)).block, (a1.add (i * 7)).off + 1, none⟩ = some (.bool ao) := fun y => (XE.trans y.x).cell p1
        have P2 : ∀ y : Xt wr.drew, y.W.cell? ⟨(a1.add (i * 7)).block, (a1.add (i * 7)).off + 2, none⟩ = some (.int .i64 ap) := fun y => (XE.trans y.x).cell p2
        have P3 : ∀ y : Xt wr.drew, y.W.cell? ⟨(a1.add (i * 7)).block, (a1.add (i * 7)).off + 3, none⟩ = some (.int .i64 bn) := fun y => (XE.trans y.x).cell p3
        have P4 : ∀ y : Xt wr.drew, y.W.cell? ⟨(a1.add (i * 7)).block, (a1.add (i * 7)).off + 4, none⟩ = some (.bool bo) := fun y => (XE.trans y.x).cell p4
        have P5 : ∀ y : Xt wr.drew, y.W.cell? ⟨(a1.add (i * 7)).block, (a1.add (i * 7)).off + 5, none⟩ = some (.int .i64 bp) := fun y => (XE.trans y.x).cell p5
        have P6 : ∀ y : Xt wr.drew, y.W.cell? ⟨(a1.add (i * 7)).block, (a1.add (i * 7)).off + 6, none⟩ = some (.slice xA xn xc) := fun y => (XE.trans y.x).cell p6
        have Q0 : ∀ y : Xt wr.drew, y.W.cell? (a2.add (i * 7)) = some (.int .i64 an) := fun y => (XE.trans y.x).cell q0
        have Q1 : ∀ y : Xt wr.drew, y.W.cell? ⟨(a2.add (i * 7)).block, (a2.add (i * 7)).off + 1, none⟩ = some (.bool ao) := fun y => (XE.trans y.x).cell q1
        have Q2 : ∀ y : Xt wr.drew, y.W.cell? ⟨(a2.add (i * 7)).block, (a2.add (i * 7)).off + 2, none⟩ = some (.int .i64 ap) := fun y => (XE.trans y.x).cell q2
        have Q3 : ∀ y : Xt wr.drew, y.W.cell? ⟨(a2.add (i * 7)).block, (a2.add (i * 7)).off + 3, none⟩ = some (.int .i64 bn) := fun y => (XE.trans y.x).cell q3
        have Q4 : ∀ y : Xt wr.drew, y.W.cell? ⟨(a2.add (i * 7)).block, (a2.add (i * 7)).off + 4, none⟩ = some (.bool bo) := fun y => (XE.trans y.x).cell q4
        have Q5 : ∀ y : Xt wr.drew, y.W.cell? ⟨(a2.add (i * 7)).block, (a2.add (i * 7)).off + 5, none⟩ = some (.int .i64 bp) := fun y => (XE.trans y.x).cell q5
        have Q6 : ∀ y : Xt wr.drew, y.W.cell? ⟨(a2.add (i * 7)).block, (a2.add (i * 7)).off + 6, none⟩ = some (.slice yA yn yc) := fun y => (XE.trans y.x).cell q6
        clear hx hy hxn hyn hw1 hw2 h7 hL1 hL2 p0 p1 p2 p3 p4 p5 p6 q0 q1 q2 q3 q4 q5 q6
        go_upto_region 10 with fail
        refine wp_region_ord [0,0,3,7,15,0,0,96,224,480,1023,2047,4095,4095,16383,32767,65535,4095,4095,397311,921599,1970175,4194303,8388607,16777215,33554431,33554431,134217727,268435455,536870911,33554431,33554431,3254779903,7549747199,16139681791,34359738367,68719476735,137438953471] (.flo [0,1,2,3,4,5,6,7,8,9,10,11,12,13,14,15,16,17,18,19,20,21,22,23,24,25,26,27,28,29,30,31,32,33,34] (.one 35 (.flo [36,37] (.fin)))) (by kernel_rfl) (by kernel_rfl) (by intro _ _ d _ _ h; cases d <;> exact h) ?_
        (refine ord_flo (pick_cons rfl (pick_cons rfl (pick_cons rfl (pick_cons rfl (pick_cons rfl (pick_cons rfl (pick_cons rfl (pick_cons rfl (pick_cons rfl (pick_cons rfl (pick_cons rfl (pick_cons rfl (pick_cons rfl (pick_cons rfl (pick_cons rfl (pick_cons rfl (pick_cons rfl (pick_cons rfl (pick_cons rfl (pick_cons rfl (pick_cons rfl (pick_cons rfl (pick_cons rfl (pick_cons rfl (pick_cons rfl (pick_cons rfl (pick_cons rfl (pick_cons rfl (pick_cons rfl (pick_cons rfl (pick_cons rfl (pick_cons rfl (pick_cons rfl (pick_cons rfl (pick_cons rfl pick_nil))))))))))))))))))))))))))))))))))) ?_; (repeat (go_big_quiet_step (fail))); refine wpQuiet_nil ?_; show ordWalk _ _ _ _ _ _ _)
        refine ord_one (pick_cons rfl pick_nil) ?_; intro K_ hK_
        go_wp2_with (go_at_call 14; go_loud (refine (HSP.out _ XE).mono ?_); rintro e w5 ⟨rfl, x5⟩; have X5 := Lib.hid (XE.trans x5); clear x5)
        (refine ord_flo (pick_cons rfl (pick_cons rfl pick_nil)) ?_; (repeat (go_big_quiet_step (fail))); refine wpQuiet_nil ?_; show ordWalk _ _ _ _ _ _ _)
        refine ord_fin ?_
        clear P0 P1 P2 P3 P4 P5 P6 Q0 Q1 Q2 Q3 Q4 Q5 Q6 XE
        go_wp2
        go_roundg (n2 - (i + 1))
        case measure => omega
        case rel => exact ⟨i + 1, by go_num, by omega, rfl, Lib.hid (XR.out.trans X5.out)⟩
      · obtain rfl : n2 = i := by omega
        have hltz : ¬ (n2 : Int) < (n2 : Int) := by omega
        go_wp2
        go_ret
        exact ⟨rfl, XW.out.trans (LO.out.ex.trans (LO2.out.ex.trans (X4.out.trans XR.out)))⟩
end Go.Proofs.Yteklohamkmiphaa
