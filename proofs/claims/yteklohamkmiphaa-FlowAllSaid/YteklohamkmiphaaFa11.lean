/- flow.Check. flow.copied. flow.Ways. flow.All$1: of one place, all inputs. penstockref06.Depth: whether there is a place, and of what depth. penstockref06.node: whether a node may be. FlowGoes, plainly: a time that goes along a graph comes nowhere ahead of where one of the least ways lets it come. The frame of every law of this seat: a law that reads, makes new memory and returns true has its post; ways, times and integers that come in; the witness's world. What comes in: times, lists of counters, integers. Conditions: each theorem states its own. -/
import Derived.Test.YteklohamkmiphaaFa10
import Derived.Test.YteklohamkmiphaaFa6
import Derived.Test.YteklohamkmiphaaFa2
import Derived.Deep.LoopGhost
import Derived.Test.YteklohamkmiphaaFa9
import Derived.Test.YteklohamkmiphaaFa8
import Derived.Test.YteklohamkmiphaaFa4
import Derived.Test.YteklohamkmiphaaFa1
import Derived.Test.YteklohamkmiphaaRows
import Derived.ProofKit
import Derived.OpenShut
import Derived.Lay
import Derived.Lib.SmallJoins
import Derived.Deep.DeepHandedRow
import Derived.MakeChecks
namespace Go.Proofs.Yteklohamkmiphaa
open Go.RowKit

def CheckOut (w : World) (g : Gm) (e : Ending) (w' : World) : Prop := ∃ c : Int, e = .returned (.int .u16 c) ∧ CheckIs g.v c ∧ Ext w w'
theorem form_eq (g : Gm) : formT g.v = ((g.nodes.all fun x => nodeT x.v) && g.edges.all (edgeT g.v)) := by
  unfold formT
  show ((g.nodes.map Nm.v).all nodeT && g.edges.all (edgeT g.v)) = _
  rw [List.all_map]
  rfl
theorem any_not {α : Type} (p : α → Bool) (l : List α) : (l.any fun x => !p x) = !l.all p := by
  induction l with
  | nil => rfl
  | cons a l ih => rw [List.any_cons, List.all_cons, ih]; cases p a <;> rfl
theorem pred_node {w : World} {g : Gm} (hG : GmR w g) (h6 : G64 g) : Pred_nm 19 (fun x => !nodeT x.v) g.nodes w := fun W x hx e => by
  obtain ⟨i, o, d, A, c, inner⟩ := x
  exact check1_any i o d A inner.length c inner W (Lib.hid rfl) (Lib.hid ((hG.nd _ hx).ext e)) (Lib.hid (h6.nd _ hx))
theorem pred_edge {w : World} {NA : Option Addr} {Nc : Nat} {nodes : List Nm} {EA : Option Addr} {Ec : Nat} {edges : List (Pt × Pt)} {nl el b : Nat} (hl : nl = nodes.length) (hG : GmR w ⟨NA, Nc, nodes, EA, Ec, edges⟩) (hN : ∀ x ∈ nodes, nodeT x.v = true) (hb : Bk w b 25 #[.slice NA nl Nc, .slice EA el Ec]) :
    Pred_ed 22 (.pointer (some ⟨b, 0, none⟩)) (fun e => !edgeT (Gm.v ⟨NA, Nc, nodes, EA, Ec, edges⟩) e) edges w := fun W x _ e => by
  obtain ⟨⟨fn, fo, fp⟩, ⟨tn, too, tp⟩⟩ := x
  have hb2 := hb.ext e
  exact check2_any NA Nc nodes EA Ec edges fn fo fp tn too tp nl el b W (Lib.hid hl) (Lib.hid (hG.ext e)) (Lib.hid hN) (Lib.hid ⟨hb2.cell 0, hb2.cell 1⟩)
set_option maxRecDepth 100000 in
set_option maxHeartbeats 4000000 in
theorem checkG_any (NA : Option Addr) (Nc : Nat) (nodes : List Nm) (EA : Option Addr) (Ec : Nat) (edges : List (Pt × Pt)) (nl el : Nat) (w : World) (hl : Hid (nl = nodes.length)) (he : Hid (el = edges.length)) (hG : Hid (GmR w ⟨NA, Nc, nodes, EA, Ec, edges⟩)) (h6 : Hid (G64 ⟨NA, Nc, nodes, EA, Ec, edges⟩)) (hF : Hid (GFew (Gm.v ⟨NA, Nc, nodes, EA, Ec, edges⟩))) (hb : Hid ((allS ⟨NA, Nc, nodes, EA, Ec, edges⟩).length ≤ 1000)) (hnl : nl ≤ 1000) (hel : el ≤ 1000) :
    Calls Try.prog 8 #[.agg #[.slice NA nl Nc, .slice EA el Ec]] w (CheckOut w ⟨NA, Nc, nodes, EA, Ec, edges⟩) := by
  obtain ⟨w0, hw0⟩ : ∃ w0, w0 = w.alloc (.cells #[.slice NA nl Nc, .slice EA el Ec] 25) := ⟨_, rfl⟩
  have X0 : Hid (Ext w w0) := Lib.hid (by rw [hw0]; exact (Ext.refl w).alloc _)
  obtain ⟨bg, hbg⟩ : ∃ b, b = w.heap.size := ⟨_, rfl⟩
  have B0 : Hid (Bk w0 bg 25 #[.slice NA nl Nc, .slice EA el Ec]) := Lib.hid (by rw [hw0, hbg]; exact Bk.new _ _ _)
  have c0 := B0.out.cell 0
  have c1 := B0.out.cell 1
  have z1 : ¬ (4000 : Int) < (nl : Int) := by omega
  have z2 : ¬ (16000 : Int) < (el : Int) := by omega
  have hG0 := hG.out.ext X0.out
  have P1 := Lib.hid (contains_nm (fun x => !nodeT x.v) 19 (fun _ _ => by kernel_rfl) NA Nc nl nodes w0 hl (Lib.hid hG0.ns) (Lib.hid (pred_node hG0 h6.out)))
  have hform := form_eq ⟨NA, Nc, nodes, EA, Ec, edges⟩
  have hA := any_not (fun x : Nm => nodeT x.v) nodes
  simp only at hform
  cases ha : nodes.all (fun x => nodeT x.v) with
  | false =>
    rw [ha] at hA hform
    rw [hA] at P1
    have HFM : Hid (formT (Gm.v ⟨NA, Nc, nodes, EA, Ec, edges⟩) = false) := Lib.hid (by rw [hform]; rfl)
    clear ha hA hform hG0
    go_enter Try.func8, Try.ntmps8
    go_upto_region 1 with fail
    rw [← hw0, ← hbg]
    clear hw0 hbg
    go_wp2_with (first | (go_at_call 18; go_loud (refine P1.out.mono ?_); rintro e w1 ⟨rfl, x1⟩; have X1 := Lib.hid (X0.out.trans x1); clear x1))
    go_returns
    exact ⟨60, rfl, .inl ⟨HFM.out, rfl⟩, X1.out⟩
  | true =>
    have hN : ∀ x ∈ nodes, nodeT x.v = true := List.all_eq_true.1 ha
    rw [ha] at hA hform
    rw [hA] at P1
    have hB := any_not (fun e : Pt × Pt => edgeT (Gm.v ⟨NA, Nc, nodes, EA, Ec, edges⟩) e) edges
    have P2 : Hid (∀ w1, Ext w0 w1 → Calls Try.prog 21 #[.slice EA el Ec, .func (.func 22) #[] #[.pointer (some ⟨bg, 0, none⟩)]] w1 fun e w' => e = .returned (.bool (edges.any fun e => !edgeT (Gm.v ⟨NA, Nc, nodes, EA, Ec, edges⟩) e)) ∧ Ext w1 w') := Lib.hid (fun w1 e => contains_ed (fun e => !edgeT (Gm.v ⟨NA, Nc, nodes, EA, Ec, edges⟩) e) 22 (.pointer (some ⟨bg, 0, none⟩)) (fun _ _ => by kernel_rfl) EA Ec el edges w1 he (Lib.hid (hG0.es.ext e)) (Lib.hid (pred_edge hl.out (hG0.ext e) hN (B0.out.ext e))))
    cases hbb : edges.all (edgeT (Gm.v ⟨NA, Nc, nodes, EA, Ec, edges⟩)) with
    | false =>
      rw [show (edges.all fun e : Pt × Pt => edgeT (Gm.v ⟨NA, Nc, nodes, EA, Ec, edges⟩) e) = false from hbb] at hB
      rw [hbb] at hform
      rw [hB] at P2
      have HFM : Hid (formT (Gm.v ⟨NA, Nc, nodes, EA, Ec, edges⟩) = false) := Lib.hid (by rw [hform]; rfl)
      clear ha hA hform hG0 hN hB hbb
      go_enter Try.func8, Try.ntmps8
      go_upto_region 1 with fail
      rw [← hw0, ← hbg]
      clear hw0 hbg
      go_wp2_with (first
        | (go_at_call 18; go_loud (refine P1.out.mono ?_); rintro e w1 ⟨rfl, x1⟩; have X1 := Lib.hid x1; have d1 := (B0.out.ext x1).cell 1; clear x1)
        | (go_at_call 21; go_loud (refine (P2.out _ X1.out).mono ?_); rintro e w2 ⟨rfl, x2⟩; have X2 := Lib.hid (X0.out.trans (X1.out.trans x2)); clear x2))
      go_returns
      exact ⟨60, rfl, .inl ⟨HFM.out, rfl⟩, X2.out⟩
    | true =>
      rw [show (edges.all fun e : Pt × Pt => edgeT (Gm.v ⟨NA, Nc, nodes, EA, Ec, edges⟩) e) = true from hbb] at hB
      rw [hbb] at hform
      rw [hB] at P2
      have hfm : formT (Gm.v ⟨NA, Nc, nodes, EA, Ec, edges⟩) = true := by rw [hform]; rfl
      have HG : Hid (GOK (Gm.v ⟨NA, Nc, nodes, EA, Ec, edges⟩)) := Lib.hid (formT_ok hfm h6.out.g32)
      have HFM := Lib.hid hfm
      have HPT : Hid (∀ p, ((Gm.v ⟨NA, Nc, nodes, EA, Ec, edges⟩).dep p).isSome → P64 p) := Lib.hid (fun p hp => G64.p64 h6.out (by show nodes.length ≤ _; rw [← hl.out]; omega) p hp)
      have HNN := Lib.hid hN
      clear ha hA hform hN hB hbb
      go_enter Try.func8, Try.ntmps8
      go_upto_region 1 with fail
      rw [← hw0, ← hbg]
      clear hw0 hbg
      have HG0 := Lib.hid hG0
      clear hG0
      go_wp2_with (first
        | (go_at_call 18; go_loud (refine P1.out.mono ?_); rintro e w1 ⟨rfl, x1⟩; have X1 := Lib.hid x1; have d1 := (B0.out.ext x1).cell 1; clear x1)
        | (go_at_call 21; go_loud (refine (P2.out _ X1.out).mono ?_); rintro e w2 ⟨rfl, x2⟩; have X2 := Lib.hid (X1.out.trans x2); have e0 := (B0.out.ext X2.out).cell 0; have e1 := (B0.out.ext X2.out).cell 1; clear x2)
        | (go_at_call 24; go_loud (refine (steps_any NA Nc nodes EA Ec edges nl el w2 hl he (Lib.hid (HG0.out.ext X2.out)) h6 (Lib.hid (by have := hb.out; omega)) (by omega)).mono ?_); intro e w3 h3; obtain ⟨kb, rfl, st3, x3⟩ := h3.st HG.out (HG0.out.ext X2.out) hb.out; have ST3 := Lib.hid st3; have X3 := Lib.hid (X2.out.trans x3); clear st3 x3 h3)
        | (go_at_call 25; go_loud (refine (rounds_any kb _ w3 ST3 (Lib.hid (nxt_p64 HG.out HPT.out)) (Lib.hid (fun p => Nat.le_trans (mvs_len _ HG.out p) hb.out))).mono ?_); rintro e w4 ⟨kl, Lf, ckf, F, rfl, sf, hr, x4⟩; have SF := Lib.hid sf; have HRE := Lib.hid hr; have ST4 := Lib.hid (ST3.out.ext x4); have X4 := Lib.hid (X3.out.trans x4); have f0 := (B0.out.ext X4.out).cell 0; clear sf hr x4))
      obtain ⟨g, hg⟩ : ∃ g, g = Gm.v ⟨NA, Nc, nodes, EA, Ec, edges⟩ := ⟨_, rfl⟩
      have HGE := Lib.hid hg
      rw [← hg] at HG HFM HPT ST4 HRE hF
      have HST4 := ST4
      have HDI : Hid (∀ q : Pt, q.o = false → (g.dep q).isSome → 0 ≤ q.n ∧ q.n < nodes.length ∧ 0 ≤ q.p ∧ q.p < (nodes.getD q.n.toNat Nm.zero).ins) := Lib.hid (fun q ho hd => by
        have h := dep_input (g := ⟨NA, Nc, nodes, EA, Ec, edges⟩) (by rw [← hg]; exact hd) ho
        exact ⟨h.1, h.2.1, h.2.2.1, h.2.2.2.1⟩)
      have HID : Hid (∀ (i : Nat) (k : Int), i < nodes.length → 0 ≤ k → k < (nodes.getD i Nm.zero).ins → g.dep ⟨i, false, k⟩ = some (nodes.getD i Nm.zero).depth) := Lib.hid (fun i k hi h0 h1 => by
        rw [hg]; exact input_dep (g := ⟨NA, Nc, nodes, EA, Ec, edges⟩) hi h0 h1)
      clear hg P1 P2 d1 e0 e1 f0 ST3 ST4
      have E00 := Lib.hid (Ext.refl w4)
      go_loopg [5, 6, 7, 8, 9, 36] nl (fun gg _ _ _ _ _ s36 wr => ∃ i : Nat, s36 = .int .i64 i ∧ i ≤ nl ∧ gg = nl - i ∧ Hid (Ext w4 wr) ∧ Hid (∀ q : Pt, q.o = false → q.n < i → (g.dep q).isSome → NoCyc g q))
      case atStart => exact ⟨0, rfl, Nat.zero_le _, rfl, E00, Lib.hid (fun q ho hlt hd => by have := (HDI.out q ho hd).1; omega)⟩
      case round =>
        clear E00
        obtain ⟨i, rfl, hi, rfl, HX, HC⟩ := hrel
        by_cases hlt : i < nl
        · have hil : i < nodes.length := by rw [← hl.out]; exact hlt
          have hltz : (i : Int) < (nl : Int) := by omega
          obtain ⟨ad, hNA, h0, h1, h2, h3⟩ := (HG0.out.ext (X4.out.trans HX.out)).nat hil
          simp only at hNA
          subst hNA
          have hnm := getD_mem' Nm.zero hil
          have hnT := HNN.out _ hnm
          obtain ⟨⟨nin, nou, nde, iA, ic, inner⟩, hnd⟩ : ∃ e, nodes.getD i Nm.zero = e := ⟨_, rfl⟩
          simp only at h0 h1 h2 h3
          rw [hnd] at h0 h1 h2 h3 hnT
          simp only at h0 h1 h2 h3
          obtain ⟨nn, hnn⟩ : ∃ n, n = inner.length := ⟨_, rfl⟩
          rw [← hnn] at h3
          have hin : 0 ≤ nin ∧ nin ≤ 8 := by
            unfold nodeT at hnT
            simp only [Bool.and_eq_true, decide_eq_true_eq] at hnT
            exact ⟨hnT.1.2.2.1, hnT.1.2.2.2.1⟩
          obtain ⟨ni, rfl⟩ : ∃ n : Nat, nin = n := ⟨nin.toNat, by omega⟩
          have hdep : ∀ k : Int, 0 ≤ k → k < ni → g.dep ⟨i, false, k⟩ = some nde := fun k k0 k1 => by
            have := HID.out i k hil k0 (by rw [hnd]; exact k1)
            rw [hnd] at this
            exact this
          have hinp : ∀ q : Pt, q.o = false → q.n = i → (g.dep q).isSome → 0 ≤ q.p ∧ q.p < ni := fun q ho hq hd => by
            have h5 := HDI.out q ho hd
            rw [hq, show ((i : Int)).toNat = i by omega, hnd] at h5
            exact ⟨h5.2.2.1, h5.2.2.2⟩
          obtain ⟨wA, hwA⟩ : ∃ wA, wA = wr.alloc (.cells #[.int .i64 ni, .int .i64 nou, .int .i64 nde, .slice iA nn ic] 50) := ⟨_, rfl⟩
          obtain ⟨nb, hnb⟩ : ∃ b, b = wr.heap.size := ⟨_, rfl⟩
          have XA : Hid (Ext wr wA) := Lib.hid (by rw [hwA]; exact (Ext.refl wr).alloc _)
          have BN : Hid (Bk wA nb 50 #[.int .i64 ni, .int .i64 nou, .int .i64 nde, .slice iA nn ic]) := Lib.hid (by rw [hwA, hnb]; exact Bk.new _ _ _)
          have HWA := Lib.hid hwA
          have HNB := Lib.hid hnb
          have HDEP := Lib.hid hdep
          have HINP := Lib.hid hinp
          have HND := Lib.hid hnd
          have hi8 : ni ≤ 8 := by omega
          have E00 := Lib.hid (Ext.refl wA)
          clear hnm hnT hnd hnn hdep hinp hwA hnb hin
          go_wp2
          rw [← HWA.out, ← HNB.out]
          go_loopg [7, 8, 9, 43] ni (fun gg _ _ _ s43 wr => ∃ k : Nat, s43 = .int .i64 k ∧ k ≤ ni ∧ gg = ni - k ∧ Hid (Ext wA wr) ∧ Hid (∀ q : Pt, q.o = false → q.n = i → q.p < k → (g.dep q).isSome → NoCyc g q))
          case atStart => exact ⟨0, rfl, Nat.zero_le _, rfl, E00, Lib.hid (fun q ho hq hp hd => by have := (HINP.out q ho hq hd).1; omega)⟩
          case round =>
            clear E00
            obtain ⟨k, rfl, hk, rfl, HY, HCK⟩ := hrel
            by_cases hkl : k < ni
            · have hkz : (k : Int) < (ni : Int) := by omega
              have hd := HDEP.out (k : Int) (by omega) hkz
              have h6 := HPT.out ⟨(i : Int), false, (k : Int)⟩ (by rw [hd]; rfl)
              obtain ⟨w9, hw9⟩ : ∃ w9, w9 = wr.alloc (.cells #[.int .i64 i, .bool false, .int .i64 k] 27) := ⟨_, rfl⟩
              obtain ⟨pb, hpb⟩ : ∃ b, b = wr.heap.size := ⟨_, rfl⟩
              have X9 : Hid (Ext wr w9) := Lib.hid (by rw [hw9]; exact (Ext.refl wr).alloc _)
              have BP : Hid (Bk w9 pb 27 #[.int .i64 i, .bool false, .int .i64 k]) := Lib.hid (by rw [hw9, hpb]; exact Bk.new _ _ _)
              have EW : Hid (Ext w4 w9) := Lib.hid (HX.out.trans (XA.out.trans (HY.out.trans X9.out)))
              have hlk := (SF.out.ext EW.out).look h6
              unfold ptV at hlk
              simp only at hlk
              have p0 := BP.out.cell 0
              have p1 := BP.out.cell 1
              have p2 := BP.out.cell 2
              obtain ⟨fb, hfb⟩ : ∃ b, F ⟨(i : Int), false, (k : Int)⟩ = b := ⟨_, rfl⟩
              rw [hfb] at hlk
              have HD := Lib.hid hd
              have H6 := Lib.hid h6
              have HFB := Lib.hid hfb
              have HW9 := Lib.hid hw9
              have HPB := Lib.hid hpb
              rw [hw9] at hlk p0 p1 p2
              rw [hpb] at p0 p1 p2
              clear hd h6 hfb hw9 hpb
              cases fb with
              | false =>
                go_wp2
                go_roundg (ni - (k + 1))
                case measure => omega
                case rel =>
                  refine ⟨k + 1, by go_num, by omega, rfl, Lib.hid (by rw [← HW9.out]; exact HY.out.trans X9.out), Lib.hid (fun q ho hq hp hd => ?_)⟩
                  by_cases e : q.p = k
                  · have e2 : q = ⟨(i : Int), false, (k : Int)⟩ := by cases q; simp only at ho hq e; rw [ho, hq, e]
                    rw [e2]
                    exact nocyc_left (fun h => by have := HRE.out _ h; rw [HFB.out] at this; cases this)
                  · exact HCK.out q ho hq (by omega) hd
              | true =>
                go_upto_region 16 with fail
                rw [← HW9.out, ← HPB.out]
                have xd : Ext w9 w9.drew := (Ext.refl w9).drew
                have EW2 : Ext w4 w9.drew := EW.out.trans xd
                have BPd := BP.out.ext xd
                have BNd := ((BN.out.ext HY.out).ext X9.out).ext xd
                have Q1 : ∀ y : Zt Ext w9.drew, y.W.cell? ⟨pb, 0, none⟩ = some (.int .i64 i) := fun y => (BPd.ext y.x).cell 0
                have Q2 : ∀ y : Zt Ext w9.drew, y.W.cell? ⟨pb, 1, none⟩ = some (.bool false) := fun y => (BPd.ext y.x).cell 1
                have Q3 : ∀ y : Zt Ext w9.drew, y.W.cell? ⟨pb, 2, none⟩ = some (.int .i64 k) := fun y => (BPd.ext y.x).cell 2
                have Q4 : ∀ y : Zt Ext w9.drew, y.W.cell? ⟨nb, 2, none⟩ = some (.int .i64 nde) := fun y => (BNd.ext y.x).cell 2
                have HL9 := Lib.hid (least_any false kb g (i : Int) false (k : Int) nde w9.drew (Lib.hid (HST4.out.ext EW2)) HG hF HD HPT)
                have HEW2 := Lib.hid EW2
                have HBN := Lib.hid BNd
                clear EW2 BPd BNd p0 p1 p2 hlk
                refine wp_region_ordS (R := Ext) [0,0,0,4,15,0,63,0,255] (.flo [0,1,2,3,5,7] (.ext 4 (.flo [6] (.one 8 (.fin))))) (by kernel_rfl) (by kernel_rfl) (by intro _ _ d _ _ h; cases d <;> exact h) ?_
                (refine ord_floS (pick_cons rfl (pick_cons rfl (pick_cons rfl (pick_cons rfl (pick_cons rfl (pick_cons rfl pick_nil)))))) ?_; (repeat (go_big_quiet_step (fail))); refine wpQuiet_nil ?_; show ordWalkS _ _ _ _ _ _ _ _)
                refine ord_extS (pick_cons rfl pick_nil) ?_; intro K_ hK_
                clear Q1 Q2 Q3 Q4
                go_wp2_with (go_at_call 29; go_loud (refine HL9.out.mono ?_); rintro e w10 ⟨kk, rfl, lm⟩; have LM := Lib.hid lm; clear lm)
                refine ordNextS.mk LM.out.x ?_
                obtain ⟨L2, ck2, K, km, T, _, hfw, hf32⟩ := LM.out.ex
                obtain ⟨lA, lc, la⟩ := km.ls ⟨(i : Int), false, (k : Int)⟩
                obtain ⟨n2, hn2⟩ : ∃ n, n = (K ⟨(i : Int), false, (k : Int)⟩).length := ⟨_, rfl⟩
                have Q5 : ∀ y : Zt Ext w10, (Instr.lookup 81 (.map (some kk)) (.agg #[.int .i64 i, .bool false, .int .i64 k]) false).run Try.prog y.W = .ok (.slice lA n2 lc) y.W := fun y => by
                  have := (km.ext y.x).tm.look H6.out Try.underlying81 (zeroPs y.W)
                  rw [show (getE L2 ⟨(i : Int), false, (k : Int)⟩).getD (.slice none 0 0) = _ from la.hd, ← hn2] at this
                  exact this
                have PC := contains_pm (fun x => pl x.w idW nde) 26 (.pointer (some ⟨nb, 0, none⟩)) (fun _ _ => by kernel_rfl) lA lc n2 (K ⟨(i : Int), false, (k : Int)⟩) w10 (Lib.hid hn2) (Lib.hid la.ow.sl) (Lib.hid (fun W x hx e => by
                  obtain ⟨xA, xc, ⟨xl, xa, xe⟩⟩ := x
                  have q := hf32 _ _ hx
                  exact check3_any xl xa xA xe.length xc xe nde nb W (Lib.hid ((km.wy _ _ hx).ext e).pmR) (Lib.hid q.1) q.2 (((HBN.out.ext LM.out.x).ext e).cell 2)))
                have hT0 : Tab g ⟨(i : Int), false, (k : Int)⟩ False (fun q => (K q).map Pm.w) := by
                  have e : (false = true) = False := by simp
                  rw [e] at T; exact T
                have hdp : g.dp ⟨(i : Int), false, (k : Int)⟩ = nde := by unfold Gr.dp; rw [HD.out]; rfl
                obtain ⟨bb, hbb⟩ : ∃ b, (K ⟨(i : Int), false, (k : Int)⟩).any (fun x => pl x.w idW nde) = b := ⟨_, rfl⟩
                rw [hbb] at PC
                have HPC := Lib.hid PC
                have HT0 := Lib.hid hT0
                have HDP := Lib.hid hdp
                have HBB := Lib.hid hbb
                clear km T hfw hf32 la hn2 PC hT0 hdp hbb
                (refine ord_floS (pick_cons rfl pick_nil) ?_; (repeat (go_big_quiet_step (fail))); refine wpQuiet_nil ?_; show ordWalkS _ _ _ _ _ _ _ _)
                refine ord_oneS (pick_cons rfl pick_nil) ?_; intro K_ hK_
                clear Q5
                cases bb with
                | true =>
                  go_wp2_with (go_at_call 28; go_loud (refine HPC.out.mono ?_); rintro e w11 ⟨rfl, x11⟩; have X11 := Lib.hid x11; clear x11)
                  refine ord_finS ?_
                  go_wp2
                  go_returns
                  refine ⟨61, rfl, .inr (.inl ⟨by rw [← HGE.out]; exact HFM.out, ?_, rfl⟩), X0.out.trans (X4.out.trans (HEW2.out.trans (LM.out.x.trans X11.out)))⟩
                  rw [← HGE.out]
                  obtain ⟨x, hx, hpx⟩ := List.any_eq_true.1 HBB.out
                  exact ⟨_, x.w, rfl, by rw [HD.out]; rfl, HT0.out.rt _ _ (List.mem_map.2 ⟨x, hx, rfl⟩), by rw [HDP.out]; exact hpx⟩
                | false =>
                  go_wp2_with (go_at_call 28; go_loud (refine HPC.out.mono ?_); rintro e w11 ⟨rfl, x11⟩; have X11 := Lib.hid x11; clear x11)
                  refine ord_finS ?_
                  go_wp2
                  go_roundg (ni - (k + 1))
                  case measure => omega
                  case rel =>
                    refine ⟨k + 1, by go_num, by omega, rfl, Lib.hid ((((HY.out.trans X9.out).trans xd).trans LM.out.x).trans X11.out), Lib.hid (fun q ho hq hp hd => ?_)⟩
                    by_cases e : q.p = k
                    · have e2 : q = ⟨(i : Int), false, (k : Int)⟩ := by cases q; simp only at ho hq e; rw [ho, hq, e]
                      rw [e2]
                      refine nocyc_tab HG.out (by rw [HD.out]; rfl) HT0.out (fun x hx => ?_)
                      obtain ⟨y, hy, rfl⟩ := List.mem_map.1 hx
                      have := List.any_eq_false.1 HBB.out y hy
                      rw [HDP.out]
                      simpa using this
                    · exact HCK.out q ho hq (by omega) hd
            · obtain rfl : k = ni := by omega
              go_wp2
              go_roundg (nl - (i + 1))
              case measure => omega
              case rel =>
                refine ⟨i + 1, by go_num, by omega, rfl, Lib.hid (HX.out.trans (XA.out.trans HY.out)), Lib.hid (fun q ho hq hd => ?_)⟩
                by_cases e : q.n = i
                · exact HCK.out q ho e (HINP.out q ho e hd).2 hd
                · exact HC.out q ho (by omega) hd
        · obtain rfl : i = nl := by omega
          go_wp2
          go_returns
          refine ⟨0, rfl, .inr (.inr ⟨by rw [← HGE.out]; exact HFM.out, ?_, rfl⟩), X0.out.trans (X4.out.trans HX.out)⟩
          rw [← HGE.out]
          refine nocyc_all (fun q ho hd => HC.out q ho ?_ hd)
          rw [hl.out]; exact (HDI.out q ho hd).2.1
end Go.Proofs.Yteklohamkmiphaa
namespace Go.Proofs.Yteklohamkmiphaa
open Go.RowKit

set_option maxRecDepth 100000 in
set_option maxHeartbeats 400000 in
theorem clone_pms (A : Option Addr) (n c : Nat) (xs : List Value) (w : World) (hs : Hid (Sl w 3 A n c xs)) (h1 : Hid (∀ u ∈ xs, u.oneCell' = true)) (hn : n ≤ 1263007198127) :
    Calls Try.prog 57 #[.slice A n c] w fun e w' => ∃ A' c', e = .returned (.slice A' n c') ∧ Own w' w.heap.size 47 3 A' n c' xs ∧ Ext w w' := by
  have hnil := fun (W : World) => Lib.run_eql_slice_nil (P := Try.prog) W 42 47 A n c 0 0 Try.underlying42
  rcases A with _ | a
  · obtain rfl : c = 0 := hs.out.2.2.2.1 rfl
    have hn0 : n = 0 := by have := hs.out.2.1; omega
    subst hn0
    have hx : xs = [] := List.eq_nil_of_length_eq_zero (by simpa using hs.out.1)
    rw [hx]
    go_enter Try.func57, Try.ntmps57
    go_wp2
    go_ret
    exact ⟨none, 0, rfl, Own.nil _ _ _ _, Ext.refl _⟩
  · go_enter Try.func57, Try.ntmps57
    go_wp2_with (at_builtin; refine wpList_append_gen _ elem_pm w.heap.size _ _ (by rfl) (by rfl) _ 0 0 [] (by rfl) (Own.empty _ _ _ _ _) (some a) n c xs (by rfl) (hs.out.ext ((Ext.refl w).alloc _)) h1.out (by omega) (by omega) (by simp) ?_; intro A' c' w1 ho1 hg1 hk1)
    go_ret
    refine ⟨A', c', by simp, by simpa using ho1, ?_⟩
    exact ((Ext.refl w).alloc _).grown hg1 (by simp [blk])
theorem pms_set1 : ∀ (L : List Pm) (i : Nat) (A : Option Addr) (c : Nat), i < L.length → (L.flatMap pmC).set (i * 3 + 2) (.slice A (L.getD i Pm.zero).w.enter.length c) = (L.set i ⟨A, c, (L.getD i Pm.zero).w⟩).flatMap pmC
  | [], i, A, c, h => absurd h (Nat.not_lt_zero _)
  | d :: L, 0, A, c, _ => rfl
  | d :: L, i + 1, A, c, h => by
    have ih := pms_set1 L i A c (Nat.lt_of_succ_lt_succ h)
    rw [List.set_cons_succ, List.flatMap_cons, List.flatMap_cons]
    have l3 : (pmC d).length = 3 := rfl
    rw [List.set_append_right _ _ (by omega), show (i + 1) * 3 + 2 - (pmC d).length = i * 3 + 2 by omega]
    rw [show (d :: L).getD (i + 1) Pm.zero = L.getD i Pm.zero from rfl, ih]
/-- copies so far -/
structure CpI (w wr : World) (l M : List Pm) (i n c : Nat) (A : Option Addr) : Prop where
  ex : Ext w wr
  o : Own wr w.heap.size 47 3 A n c (M.flatMap pmC)
  ln : M.length = n
  mw : M.map Pm.w = l.map Pm.w
  lo : ∀ j, j < i → Wy w wr (M.getD j Pm.zero)
  hi : ∀ j, i ≤ j → M.getD j Pm.zero = l.getD j Pm.zero
theorem CpI.next {w wr w1 : World} {l M : List Pm} {i n c g c1 : Nat} {A1 : Option Addr} (I : CpI w wr l M i n c (some ⟨g, 0, none⟩)) (hi : i < n) (hc : 0 < c) (x1 : Ext wr w1) (o1 : Own w1 w.heap.size 45 1 A1 (M.getD i Pm.zero).w.enter.length c1 (wds (M.getD i Pm.zero).w.enter)) :
    CpI w (w1.setCell ⟨g, i * 3 + 2, none⟩ (.slice A1 (M.getD i Pm.zero).w.enter.length c1)) l (M.set i ⟨A1, c1, (M.getD i Pm.zero).w⟩) (i + 1) n c (some ⟨g, 0, none⟩) := by
  have hb : blk (some (⟨g, 0, none⟩ : Addr)) c = some g := by cases c with | zero => omega | succ c => rfl
  have ho := I.o.ext x1
  have hiM : i < M.length := by rw [I.ln]; exact hi
  have hlt := ho.lt g hb
  have gt := ho.ty hb
  have hget : ∀ j, (M.set i ⟨A1, c1, (M.getD i Pm.zero).w⟩).getD j Pm.zero = if j = i then ⟨A1, c1, (M.getD i Pm.zero).w⟩ else M.getD j Pm.zero := fun j => by
    rw [List.getD_eq_getElem?_getD, List.getElem?_set, List.getD_eq_getElem?_getD]
    by_cases e : i = j
    · subst e; simp [hiM]
    · rw [if_neg e, if_neg (fun h => e h.symm), List.getD_eq_getElem?_getD]
  have keep : ∀ {x : Pm}, Wy w w1 x → Wy w (w1.setCell ⟨g, i * 3 + 2, none⟩ (.slice A1 (M.getD i Pm.zero).w.enter.length c1)) x := fun h => Own.far h (fun e => absurd (gt.ne (Own.ty h e)) (by decide)) _
  refine ⟨(I.ex.trans x1).set (by exact hlt.1) _, ?_, by rw [List.length_set]; exact I.ln, ?_, fun j hj => ?_, fun j hj => ?_⟩
  · have := ho.put (i * 3 + 2) (.slice A1 (M.getD i Pm.zero).w.enter.length c1)
    rw [pms_set1 M i A1 c1 hiM] at this
    exact this
  · rw [List.map_set, ← I.mw]
    refine List.ext_getElem? fun j => ?_
    rw [List.getElem?_set]
    by_cases e : i = j
    · subst e
      rw [if_pos rfl, List.length_map, if_pos hiM, List.getElem?_map, List.getElem?_eq_getElem hiM, List.getD_eq_getElem?_getD, List.getElem?_eq_getElem hiM]
      rfl
    · rw [if_neg e]
  · rw [hget]
    by_cases e : j = i
    · rw [if_pos e]; exact keep o1
    · rw [if_neg e]; exact keep ((I.lo j (by omega)).ext x1)
  · rw [hget, if_neg (by omega)]; exact I.hi j (by omega)
theorem own_free {w : World} {B s g n c : Nat} {T : TypeId} {xs : List Value} (h : Own w B T s (some ⟨g, 0, none⟩) n c xs) (hn : 0 < n) (j : Nat) : w.frozen? ⟨g, j, none⟩ = false := by
  obtain ⟨g', e, _, _, _, _, hf⟩ := h.form hn
  injection e with e
  injection e with e
  rw [e]; exact hf j
def CopyOut (w : World) (l : List Pm) (n : Nat) (e : Ending) (w' : World) : Prop := ∃ (A' : Option Addr) (c' : Nat) (M : List Pm), e = .returned (.slice A' n c') ∧ M.map Pm.w = l.map Pm.w ∧ Sl w' 3 A' n c' (M.flatMap pmC) ∧ (∀ x ∈ M, PmR w' x) ∧ Ext w w'
def CopyOwn (w : World) (l : List Pm) (n : Nat) (e : Ending) (w' : World) : Prop := ∃ (A' : Option Addr) (c' : Nat) (M : List Pm), e = .returned (.slice A' n c') ∧ M.map Pm.w = l.map Pm.w ∧ Own w' w.heap.size 47 3 A' n c' (M.flatMap pmC) ∧ (∀ x ∈ M, Wy w w' x) ∧ Ext w w'
set_option maxRecDepth 100000 in
set_option maxHeartbeats 2000000 in
theorem copied_own (A : Option Addr) (n c : Nat) (l : List Pm) (w : World) (hm : Hid (n = l.length)) (h : Hid (Sl w 3 A n c (l.flatMap pmC))) (hr : Hid (∀ x ∈ l, PmR w x)) (hf : Hid (∀ x ∈ l, x.w.enter.length ≤ 1000000)) (hn : n ≤ 1263007198127) :
    Calls Try.prog 33 #[.slice A n c] w (CopyOwn w l n) := by
  have HC := Lib.hid (clone_pms A n c (l.flatMap pmC) w h (Lib.hid (els_one pmC_one l)) hn)
  go_enter Try.func33, Try.ntmps33
  go_wp2_with (first | (go_at_call 57; go_loud (refine HC.out.mono ?_); rintro e w1 ⟨A1, c1, rfl, o1, x1⟩; have HI0 : Hid (CpI w w1 l l 0 n c1 A1) := Lib.hid ⟨x1, o1, hm.out.symm, rfl, fun j hj => absurd hj (Nat.not_lt_zero _), fun j _ => rfl⟩; clear o1 x1))
  go_loopg [4, 5, 10] n (fun gg _ _ s10 wr => ∃ (i : Nat) (M : List Pm), s10 = .int .i64 i ∧ i ≤ n ∧ gg = n - i ∧ Hid (CpI w wr l M i n c1 A1))
  case atStart => exact ⟨0, l, rfl, Nat.zero_le _, rfl, HI0⟩
  case round =>
    clear HI0
    obtain ⟨i, M, rfl, hi, rfl, HI⟩ := hrel
    by_cases hlt : i < n
    · have hltz : (i : Int) < (n : Int) := by omega
      have hiM : i < M.length := by rw [HI.out.ln]; exact hlt
      have hil : i < l.length := by rw [← hm.out]; exact hlt
      obtain ⟨gb, hA1, hb, _⟩ := HI.out.o.form (by omega)
      subst hA1
      have hc0 : 0 < c1 := by
        cases c1 with
        | zero => rw [blk_zero] at hb; cases hb
        | succ c => omega
      obtain ⟨ad, had, h0, h1⟩ := els_at pmC 3 pmC_len Pm.zero HI.out.o.sl HI.out.ln.symm hiM (by omega)
      injection had with had
      subst had
      have hMl := HI.out.hi i (Nat.le_refl _)
      have hwm := (hr.out _ (getD_mem' Pm.zero hil)).ext HI.out.ex
      have hfm := hf.out _ (getD_mem' Pm.zero hil)
      have HN : Hid (∀ (w1 : World) (A2 : Option Addr) (c2 : Nat), Ext wr w1 → Own w1 w.heap.size 45 1 A2 (M.getD i Pm.zero).w.enter.length c2 (wds (M.getD i Pm.zero).w.enter) → CpI w (w1.setCell ⟨gb, i * 3 + 2, none⟩ (.slice A2 (M.getD i Pm.zero).w.enter.length c2)) l (M.set i ⟨A2, c2, (M.getD i Pm.zero).w⟩) (i + 1) n c1 (some ⟨gb, 0, none⟩)) := Lib.hid (fun w1 A2 c2 x o => HI.out.next hlt hc0 x o)
      rw [← hMl] at hwm hfm
      obtain ⟨⟨pA, pc, ⟨pl, pa, pe⟩⟩, hp⟩ : ∃ p, M.getD i Pm.zero = p := ⟨_, rfl⟩
      rw [hp] at h0 h1 hwm hfm HN
      have q0 := h0 _ rfl
      have q1 := h1 0 _ rfl
      have q2 := h1 1 _ rfl
      rw [addr_at] at q0 q1 q2
      simp only [Nat.zero_add] at q0 q1 q2
      simp only at hfm
      obtain ⟨np, hnp⟩ : ∃ n, n = pe.length := ⟨_, rfl⟩
      simp only at HN
      rw [← hnp] at q2 hfm HN
      have HS : ∀ w1, Ext wr w1 → Sl w1 1 pA np pc (wds pe) := fun w1 e => by rw [hnp]; exact hwm.ext e
      have HS := Lib.hid HS
      have EA : Hid (Ext wr (wr.alloc (.cells #[.int .i64 pl, .int .u32 pa, .slice pA np pc] 47))) := Lib.hid ((Ext.refl wr).alloc _)
      have HO := Lib.hid HI.out.o
      have HX := Lib.hid HI.out.ex
      clear h0 h1 hMl hwm hp hnp hb hiM hil
      go_wp2_with (first | (go_at_call 58; go_loud (refine (clone_words pA np pc _ _ (HS.out _ EA.out) (wds_one _) (by omega)).mono ?_); rintro e w2 ⟨A2, c2, rfl, o2, x2⟩; have O2 := Lib.hid o2; have X2 := Lib.hid (EA.out.trans x2); have fr := own_free (HO.out.ext X2.out) (by omega) (i * 3 + 2); have cc := X2.out.cell q2; clear o2 x2))
      go_roundg (n - (i + 1))
      case measure => omega
      case rel => exact ⟨i + 1, _, by go_num, by omega, rfl, Lib.hid (HN.out w2 A2 c2 X2.out (Own.mono (by have q := O2.out; exact q) (by have h1 := HX.out.size; have h2 := EA.out.size; omega)))⟩
    · obtain rfl : i = n := by omega
      go_wp2
      go_ret
      refine ⟨A1, c1, M, rfl, HI.out.mw, HI.out.o, fun x hx => ?_, HI.out.ex⟩
      obtain ⟨j, hj⟩ := List.getElem?_of_mem hx
      have h1 := (List.getElem?_eq_some_iff.1 hj).1
      have := HI.out.lo j (by rw [HI.out.ln] at h1; exact h1)
      rw [List.getD_eq_getElem?_getD, hj] at this
      exact this
theorem copied_any (A : Option Addr) (n c : Nat) (l : List Pm) (w : World) (hm : Hid (n = l.length)) (h : Hid (Sl w 3 A n c (l.flatMap pmC))) (hr : Hid (∀ x ∈ l, PmR w x)) (hf : Hid (∀ x ∈ l, x.w.enter.length ≤ 1000000)) (hn : n ≤ 1263007198127) :
    Calls Try.prog 33 #[.slice A n c] w (CopyOut w l n) :=
  (copied_own A n c l w hm h hr hf hn).mono fun e w' ⟨A', c', M, h1, h2, h3, h4, h5⟩ => ⟨A', c', M, h1, h2, h3.sl, fun x hx => (h4 x hx).pmR, h5⟩
end Go.Proofs.Yteklohamkmiphaa
namespace Go.Proofs.Yteklohamkmiphaa
open Go.RowKit

def FWaysOut (w : World) (g : Gm) (fr tt : Pt) (e : Ending) (w' : World) : Prop := ∃ (A : Option Addr) (c n : Nat) (M : List Pm) (z : Int), e = .returned (.tuple #[.slice A n c, .int .u16 z]) ∧ n = M.length ∧ WaysIs g.v fr tt (M.map Pm.w) z ∧ Sl w' 3 A n c (M.flatMap pmC) ∧ (∀ x ∈ M, PmR w' x) ∧ n ≤ 1263007198127 ∧ Ext w w'
theorem check_ex (g : Gr) : (CheckIs g 60 ∨ CheckIs g 61) ∨ CheckIs g 0 := by
  cases hf : formT g with
  | false => exact .inl (.inl (.inl ⟨hf, rfl⟩))
  | true =>
    by_cases hc : Cyc g
    · exact .inl (.inr (.inr (.inl ⟨hf, hc, rfl⟩)))
    · exact .inr (.inr (.inr ⟨hf, hc, rfl⟩))
section
variable {NA : Option Addr} {Nc : Nat} {nodes : List Nm} {EA : Option Addr} {Ec : Nat} {edges : List (Pt × Pt)} {nl el : Nat}
/-- what is asked of a graph -/
structure GrOk (w : World) (NA : Option Addr) (Nc : Nat) (nodes : List Nm) (EA : Option Addr) (Ec : Nat) (edges : List (Pt × Pt)) (nl el : Nat) : Prop where
  l : nl = nodes.length
  e : el = edges.length
  g : GmR w ⟨NA, Nc, nodes, EA, Ec, edges⟩
  h6 : G64 ⟨NA, Nc, nodes, EA, Ec, edges⟩
  f : GFew (Gm.v ⟨NA, Nc, nodes, EA, Ec, edges⟩)
  b : (allS ⟨NA, Nc, nodes, EA, Ec, edges⟩).length ≤ 1000
  n9 : nl ≤ 1000
  e9 : el ≤ 1000
theorem GrOk.ext {w w' : World} (h : GrOk w NA Nc nodes EA Ec edges nl el) (e : Ext w w') : GrOk w' NA Nc nodes EA Ec edges nl el := ⟨h.l, h.e, h.g.ext e, h.h6, h.f, h.b, h.n9, h.e9⟩
theorem check_lit {w : World} (h : GrOk w NA Nc nodes EA Ec edges nl el) {c : Int} (hc : CheckIs (Gm.v ⟨NA, Nc, nodes, EA, Ec, edges⟩) c) : Calls Try.prog 8 #[.agg #[.slice NA nl Nc, .slice EA el Ec]] w fun e w' => e = .returned (.int .u16 c) ∧ Ext w w' := by
  refine (checkG_any NA Nc nodes EA Ec edges nl el w (Lib.hid h.l) (Lib.hid h.e) (Lib.hid h.g) (Lib.hid h.h6) (Lib.hid h.f) (Lib.hid h.b) h.n9 h.e9).mono ?_
  rintro e w' ⟨c', rfl, h1, x⟩
  rw [h1.unique hc]
  exact ⟨rfl, x⟩
theorem depth_lit {pn : Int} {po : Bool} {pp : Int} {b : Bool} (w : World) (h : GrOk w NA Nc nodes EA Ec edges nl el) (hN : ∀ x ∈ nodes, nodeT x.v = true) (hb : ((Gm.v ⟨NA, Nc, nodes, EA, Ec, edges⟩).dep ⟨pn, po, pp⟩).isSome = b) :
    Calls Try.prog 32 #[.agg #[.slice NA nl Nc, .slice EA el Ec], .agg #[.int .i64 pn, .bool po, .int .i64 pp]] w fun e w' => ∃ d, e = .returned (.tuple #[.int .i64 d, .bool b]) ∧ Ext w w' := by
  cases hd : (Gm.v ⟨NA, Nc, nodes, EA, Ec, edges⟩).dep ⟨pn, po, pp⟩ with
  | none =>
    rw [hd] at hb
    subst hb
    exact depth_none w (Lib.hid h.l) (Lib.hid h.g) (Lib.hid hN) (Lib.hid hd)
  | some d =>
    rw [hd] at hb
    subst hb
    exact (depth_some w (Lib.hid h.l) (Lib.hid h.g) (Lib.hid hN) (Lib.hid hd)).mono fun e w' h => ⟨d, h⟩
end
theorem nodes_ok {g : Gm} (h : formT g.v = true) : ∀ x ∈ g.nodes, nodeT x.v = true := by
  rw [form_eq, Bool.and_eq_true] at h
  exact List.all_eq_true.1 h.1
set_option maxRecDepth 100000 in
set_option maxHeartbeats 4000000 in
theorem fways_any (NA : Option Addr) (Nc : Nat) (nodes : List Nm) (EA : Option Addr) (Ec : Nat) (edges : List (Pt × Pt)) (nl el : Nat) (fn : Int) (fo : Bool) (fp tn : Int) (too : Bool) (tp : Int) (w : World) (hk : Hid (GrOk w NA Nc nodes EA Ec edges nl el)) :
    Calls Try.prog 12 #[.agg #[.slice NA nl Nc, .slice EA el Ec], .agg #[.int .i64 fn, .bool fo, .int .i64 fp], .agg #[.int .i64 tn, .bool too, .int .i64 tp]] w (FWaysOut w ⟨NA, Nc, nodes, EA, Ec, edges⟩ ⟨fn, fo, fp⟩ ⟨tn, too, tp⟩) := by
  obtain ⟨w0, hw0⟩ : ∃ w0, w0 = ((w.alloc (.cells #[.slice NA nl Nc, .slice EA el Ec] 25)).alloc (.cells #[.int .i64 fn, .bool fo, .int .i64 fp] 27)).alloc (.cells #[.int .i64 tn, .bool too, .int .i64 tp] 27) := ⟨_, rfl⟩
  obtain ⟨b, hb⟩ : ∃ b, b = w.heap.size := ⟨_, rfl⟩
  have X0 : Hid (Ext w w0) := Lib.hid (by rw [hw0]; exact (((Ext.refl w).alloc _).alloc _).alloc _)
  have BG : Hid (Bk w0 b 25 #[.slice NA nl Nc, .slice EA el Ec]) := Lib.hid (by rw [hw0, hb]; exact ((Bk.new _ _ _).alloc _).alloc _)
  have BF : Hid (Bk w0 (b + 1) 27 #[.int .i64 fn, .bool fo, .int .i64 fp]) := Lib.hid (by rw [hw0, hb]; exact (Bk.at (by simp)).alloc _)
  have BT : Hid (Bk w0 (b + 2) 27 #[.int .i64 tn, .bool too, .int .i64 tp]) := Lib.hid (by rw [hw0, hb]; exact Bk.at (by simp))
  have K0 := hk.out.ext X0.out
  have g0 := BG.out.cell 0
  have g1 := BG.out.cell 1
  rcases check_ex (Gm.v ⟨NA, Nc, nodes, EA, Ec, edges⟩) with hc | hc
  · have key : ∃ c : Int, CheckIs (Gm.v ⟨NA, Nc, nodes, EA, Ec, edges⟩) c ∧ (c != 0) = true ∧ c ≠ 0 := by
      rcases hc with hc | hc
      · exact ⟨60, hc, by decide, by decide⟩
      · exact ⟨61, hc, by decide, by decide⟩
    obtain ⟨c, hc, hne, hnz⟩ := key
    have HC := Lib.hid (check_lit K0 hc)
    have HCI := Lib.hid hc
    have HNZ := Lib.hid hnz
    clear hc hnz K0
    go_enter Try.func12, Try.ntmps12
    go_upto_region 1 with fail
    rw [← hw0, ← hb]
    clear hw0 hb
    go_wp2_with (first | (go_at_call 8; go_loud (refine HC.out.mono ?_); rintro e w1 ⟨rfl, x1⟩; have X1 := Lib.hid (X0.out.trans x1); clear x1))
    go_returns
    exact ⟨none, 0, 0, [], c, rfl, rfl, .inl ⟨HCI.out, HNZ.out, rfl⟩, Sl.nil _ _, fun x hx => (nomatch hx), by omega, X1.out⟩
  · have HC := Lib.hid (check_lit K0 hc)
    have hN := nodes_ok (g := ⟨NA, Nc, nodes, EA, Ec, edges⟩) hc.form
    have HCI := Lib.hid hc
    have HK0 := Lib.hid K0
    have HN := Lib.hid hN
    clear hc K0 hN
    by_cases hp : PlacesT (Gm.v ⟨NA, Nc, nodes, EA, Ec, edges⟩) ⟨fn, fo, fp⟩ ⟨tn, too, tp⟩
    · obtain ⟨h1, h2, h3⟩ := hp
      have h3 : too = false := h3
      subst h3
      obtain ⟨d, hd⟩ := Option.isSome_iff_exists.1 h1
      obtain ⟨d2, hd2⟩ := Option.isSome_iff_exists.1 h2
      have HP : Hid (PlacesT (Gm.v ⟨NA, Nc, nodes, EA, Ec, edges⟩) ⟨fn, fo, fp⟩ ⟨tn, false, tp⟩) := Lib.hid ⟨h1, h2, rfl⟩
      have HD := Lib.hid hd
      have HD2 := Lib.hid hd2
      have D1 : Hid (∀ w1, Ext w0 w1 → Calls Try.prog 32 #[.agg #[.slice NA nl Nc, .slice EA el Ec], .agg #[.int .i64 fn, .bool fo, .int .i64 fp]] w1 fun e w' => e = .returned (.tuple #[.int .i64 d, .bool true]) ∧ Ext w1 w') := Lib.hid (fun w1 x => depth_some w1 (Lib.hid HK0.out.l) (Lib.hid (HK0.out.g.ext x)) HN HD)
      have D2 : Hid (∀ w1, Ext w0 w1 → Calls Try.prog 32 #[.agg #[.slice NA nl Nc, .slice EA el Ec], .agg #[.int .i64 tn, .bool false, .int .i64 tp]] w1 fun e w' => e = .returned (.tuple #[.int .i64 d2, .bool true]) ∧ Ext w1 w') := Lib.hid (fun w1 x => depth_some w1 (Lib.hid HK0.out.l) (Lib.hid (HK0.out.g.ext x)) HN HD2)
      clear h1 h2 hd hd2
      go_enter Try.func12, Try.ntmps12
      go_upto_region 1 with fail
      rw [← hw0, ← hb]
      clear hw0 hb
      go_upto_region 8 with (first
        | (go_at_call 8; go_loud (refine HC.out.mono ?_); rintro e w1 ⟨rfl, x1⟩; have X1 := Lib.hid x1; have m1 := BG.out.ext x1; have m2 := BF.out.ext x1; have a0 := m1.cell 0; have a1 := m1.cell 1; have f0 := m2.cell 0; have f1 := m2.cell 1; have f2 := m2.cell 2; clear x1 m1 m2)
        | (go_at_call 32; have mk := X2; refine (D2.out _ X2.out).mono ?_; rintro e w3 ⟨rfl, x3⟩; have X3 := Lib.hid (X2.out.trans x3); have t4 := (BT.out.ext X3.out).cell 1; clear x3)
        | (go_at_call 32; go_loud (refine (D1.out _ X1.out).mono ?_); rintro e w2 ⟨rfl, x2⟩; have X2 := Lib.hid (X1.out.trans x2); have m1 := BG.out.ext X2.out; have m2 := BT.out.ext X2.out; have r0 := m1.cell 0; have r1 := m1.cell 1; have t0 := m2.cell 0; have t1 := m2.cell 1; have t2 := m2.cell 2; clear x2 m1 m2))
      obtain ⟨g, hg⟩ : ∃ g, g = Gm.v ⟨NA, Nc, nodes, EA, Ec, edges⟩ := ⟨_, rfl⟩
      have HGE := Lib.hid hg
      have HGk : Hid (GOK g) := Lib.hid (by rw [hg]; exact formT_ok HCI.out.form HK0.out.h6.g32)
      have HGF : Hid (GFew g) := Lib.hid (by rw [hg]; exact HK0.out.f)
      have HD1 : Hid (g.dep ⟨fn, fo, fp⟩ = some d) := Lib.hid (by rw [hg]; exact HD.out)
      have HPT : Hid (∀ p, (g.dep p).isSome → P64 p) := Lib.hid (by rw [hg]; exact fun p hp => G64.p64 HK0.out.h6 (by show nodes.length ≤ _; rw [← HK0.out.l]; have := HK0.out.n9; omega) p hp)
      have H6 : Hid (P64 ⟨tn, false, tp⟩) := Lib.hid (by rw [hg] at HPT; exact HPT.out _ (by rw [HD2.out]; rfl))
      have xd : Ext w3 w3.drew := (Ext.refl w3).drew
      have ED : Hid (Ext w0 w3.drew) := Lib.hid (X3.out.trans xd)
      have KD := Lib.hid (HK0.out.ext ED.out)
      have BGd := BG.out.ext ED.out
      have BFd := BF.out.ext ED.out
      have BTd : Bk w3.drew (b + 1 + 1) 27 #[.int .i64 tn, .bool false, .int .i64 tp] := BT.out.ext ED.out
      have Q1 : ∀ y : Zt Ext w3.drew, y.W.cell? ⟨b, 0, none⟩ = some (.slice NA nl Nc) := fun y => (BGd.ext y.x).cell 0
      have Q2 : ∀ y : Zt Ext w3.drew, y.W.cell? ⟨b, 1, none⟩ = some (.slice EA el Ec) := fun y => (BGd.ext y.x).cell 1
      have Q3 : ∀ y : Zt Ext w3.drew, y.W.cell? ⟨b + 1, 0, none⟩ = some (.int .i64 fn) := fun y => (BFd.ext y.x).cell 0
      have Q4 : ∀ y : Zt Ext w3.drew, y.W.cell? ⟨b + 1, 1, none⟩ = some (.bool fo) := fun y => (BFd.ext y.x).cell 1
      have Q5 : ∀ y : Zt Ext w3.drew, y.W.cell? ⟨b + 1, 2, none⟩ = some (.int .i64 fp) := fun y => (BFd.ext y.x).cell 2
      have Q6 : ∀ y : Zt Ext w3.drew, y.W.cell? ⟨b + 1 + 1, 0, none⟩ = some (.int .i64 tn) := fun y => (BTd.ext y.x).cell 0
      have Q7 : ∀ y : Zt Ext w3.drew, y.W.cell? ⟨b + 1 + 1, 1, none⟩ = some (.bool false) := fun y => (BTd.ext y.x).cell 1
      have Q8 : ∀ y : Zt Ext w3.drew, y.W.cell? ⟨b + 1 + 1, 2, none⟩ = some (.int .i64 tp) := fun y => (BTd.ext y.x).cell 2
      have HST := Lib.hid (steps_any NA Nc nodes EA Ec edges nl el w3.drew (Lib.hid KD.out.l) (Lib.hid KD.out.e) (Lib.hid KD.out.g) (Lib.hid KD.out.h6) (Lib.hid (by have := KD.out.b; omega)) (by have := KD.out.n9; omega))
      have BTH := Lib.hid BTd
      clear BGd BFd BTd xd hg t0 t1 t2 t4 r0 r1 f0 f1 f2 a0 a1 g0 g1
      refine wp_region_ordS (R := Ext) [0,1,0,0,15,0,63,127,255,511] (.flo [0,2,3,5] (.ext 1 (.ext 4 (.flo [6] (.one 7 (.flo [8,9] (.fin))))))) (by kernel_rfl) (by kernel_rfl) (by intro _ _ d _ _ h; cases d <;> exact h) ?_
      (refine ord_floS (pick_cons rfl (pick_cons rfl (pick_cons rfl (pick_cons rfl pick_nil)))) ?_; (repeat (go_big_quiet_step (fail))); refine wpQuiet_nil ?_; show ordWalkS _ _ _ _ _ _ _ _)
      refine ord_extS (pick_cons rfl pick_nil) ?_; intro K_ hK_
      clear Q1 Q2 Q3 Q4 Q5 Q6 Q7 Q8
      go_wp2_with (go_at_call 24; go_loud (refine HST.out.mono ?_); intro e w4 h4; obtain ⟨kb, rfl, st4, x4⟩ := h4.st (by rw [← HGE.out]; exact HGk.out) KD.out.g KD.out.b; have X4 := Lib.hid x4; have HST4 := Lib.hid st4; clear st4 x4 h4)
      refine ordNextS.mk X4.out ?_
      rw [← HGE.out] at HST4
      have HL := Lib.hid (least_any true kb g fn fo fp d w4 HST4 HGk HGF HD1 HPT)
      refine ord_extS (pick_cons rfl pick_nil) ?_; intro K_ hK_
      go_wp2_with (go_at_call 29; go_loud (refine HL.out.mono ?_); rintro e w5 ⟨kk, rfl, lm⟩; have LM := Lib.hid lm; clear lm)
      refine ordNextS.mk LM.out.x ?_
      have BT5 := (BTH.out.ext X4.out).ext LM.out.x
      have Q6 : ∀ y : Zt Ext w5, y.W.cell? ⟨b + 1 + 1, 0, none⟩ = some (.int .i64 tn) := fun y => (BT5.ext y.x).cell 0
      have Q7 : ∀ y : Zt Ext w5, y.W.cell? ⟨b + 1 + 1, 1, none⟩ = some (.bool false) := fun y => (BT5.ext y.x).cell 1
      have Q8 : ∀ y : Zt Ext w5, y.W.cell? ⟨b + 1 + 1, 2, none⟩ = some (.int .i64 tp) := fun y => (BT5.ext y.x).cell 2
      obtain ⟨L2, ck2, K, km, T, hso, hfw, hf32⟩ := LM.out.ex
      obtain ⟨lA, lc, la⟩ := km.ls ⟨tn, false, tp⟩
      obtain ⟨n2, hn2⟩ : ∃ n, n = (K ⟨tn, false, tp⟩).length := ⟨_, rfl⟩
      have Q9 : ∀ y : Zt Ext w5, (Instr.lookup 81 (.map (some kk)) (.agg #[.int .i64 tn, .bool false, .int .i64 tp]) false).run Try.prog y.W = .ok (.slice lA n2 lc) y.W := fun y => by
        have := (km.ext y.x).tm.look H6.out Try.underlying81 (zeroPs y.W)
        rw [show (getE L2 ⟨tn, false, tp⟩).getD (.slice none 0 0) = _ from la.hd, ← hn2] at this
        exact this
      have hfew : n2 ≤ 1263007198127 := by rw [hn2]; exact hfw _
      have PC := copied_any lA n2 lc (K ⟨tn, false, tp⟩) w5 (Lib.hid hn2) (Lib.hid (by rw [hn2]; exact la.ow.sl)) (Lib.hid (fun x hx => (km.wy _ _ hx).pmR)) (Lib.hid (fun x hx => (hf32 _ _ hx).2)) hfew
      have hT0 : Tab g ⟨fn, fo, fp⟩ True (fun q => (K q).map Pm.w) := by simpa using T
      have HIS : Hid (LeastIs g ⟨fn, fo, fp⟩ ⟨tn, false, tp⟩ ((K ⟨tn, false, tp⟩).map Pm.w)) := Lib.hid ⟨_, hT0, hso _, rfl⟩
      have HPC := Lib.hid PC
      have HN2 := Lib.hid hn2
      have HFEW := Lib.hid hfew
      clear km T hso hfw hf32 la hn2 PC hT0 hfew BT5
      (refine ord_floS (pick_cons rfl pick_nil) ?_; (repeat (go_big_quiet_step (fail))); refine wpQuiet_nil ?_; show ordWalkS _ _ _ _ _ _ _ _)
      refine ord_oneS (pick_cons rfl pick_nil) ?_; intro K_ hK_
      go_wp2_with (go_at_call 33; go_loud (refine HPC.out.mono ?_); rintro e w6 ⟨A6, c6, M6, rfl, hm6, sl6, hr6, x6⟩; have HM6 := Lib.hid hm6; have HSL6 := Lib.hid sl6; have HR6 := Lib.hid hr6; have X6 := Lib.hid x6; clear hm6 sl6 hr6 x6)
      (refine ord_floS (pick_cons rfl (pick_cons rfl pick_nil)) ?_; (repeat (go_big_quiet_step (fail))); refine wpQuiet_nil ?_; show ordWalkS _ _ _ _ _ _ _ _)
      refine ord_finS ?_
      go_wp2
      go_returns
      exact ⟨A6, c6, _, M6, 0, rfl, by rw [HN2.out]; simpa using (congrArg List.length HM6.out).symm, .inr (.inr ⟨HCI.out, HP.out, rfl, by rw [HM6.out, ← HGE.out]; exact HIS.out⟩), HSL6.out, HR6.out, HFEW.out, X0.out.trans (ED.out.trans (X4.out.trans (LM.out.x.trans X6.out)))⟩
    · obtain ⟨y1, hy1⟩ : ∃ x, ((Gm.v ⟨NA, Nc, nodes, EA, Ec, edges⟩).dep ⟨fn, fo, fp⟩).isSome = x := ⟨_, rfl⟩
      obtain ⟨y2, hy2⟩ : ∃ x, ((Gm.v ⟨NA, Nc, nodes, EA, Ec, edges⟩).dep ⟨tn, too, tp⟩).isSome = x := ⟨_, rfl⟩
      have D1 : Hid (∀ w1, Ext w0 w1 → Calls Try.prog 32 #[.agg #[.slice NA nl Nc, .slice EA el Ec], .agg #[.int .i64 fn, .bool fo, .int .i64 fp]] w1 fun e w' => ∃ d, e = .returned (.tuple #[.int .i64 d, .bool y1]) ∧ Ext w1 w') := Lib.hid (fun w1 x => depth_lit w1 (HK0.out.ext x) HN.out hy1)
      have D2 : Hid (∀ w1, Ext w0 w1 → Calls Try.prog 32 #[.agg #[.slice NA nl Nc, .slice EA el Ec], .agg #[.int .i64 tn, .bool too, .int .i64 tp]] w1 fun e w' => ∃ d, e = .returned (.tuple #[.int .i64 d, .bool y2]) ∧ Ext w1 w') := Lib.hid (fun w1 x => depth_lit w1 (HK0.out.ext x) HN.out hy2)
      have hbad : y1 = false ∨ (y1 = true ∧ y2 = false) ∨ (y1 = true ∧ y2 = true ∧ too = true) := by
        cases y1 with
        | false => exact .inl rfl
        | true =>
          cases y2 with
          | false => exact .inr (.inl ⟨rfl, rfl⟩)
          | true =>
            cases too with
            | true => exact .inr (.inr ⟨rfl, rfl, rfl⟩)
            | false => exact absurd ⟨hy1, hy2, rfl⟩ hp
      have HP := Lib.hid hp
      clear hy1 hy2 hp
      have fin : ∀ w', Ext w0 w' → FWaysOut w ⟨NA, Nc, nodes, EA, Ec, edges⟩ ⟨fn, fo, fp⟩ ⟨tn, too, tp⟩ (.returned (.tuple #[.slice none 0 0, .int .u16 60])) w' := fun w' x => ⟨none, 0, 0, [], 60, rfl, rfl, .inr (.inl ⟨HCI.out, HP.out, rfl, rfl⟩), Sl.nil _ _, fun x hx => (nomatch hx), by omega, X0.out.trans x⟩
      have FIN := Lib.hid fin
      clear fin HP
      rcases hbad with rfl | ⟨rfl, rfl⟩ | ⟨rfl, rfl, rfl⟩
      all_goals
        go_enter Try.func12, Try.ntmps12
        go_upto_region 1 with fail
        rw [← hw0, ← hb]
        clear hw0 hb
        go_wp2_with (first
          | (go_at_call 8; go_loud (refine HC.out.mono ?_); rintro e w1 ⟨rfl, x1⟩; have X1 := Lib.hid x1; have m1 := BG.out.ext x1; have m2 := BF.out.ext x1; have a0 := m1.cell 0; have a1 := m1.cell 1; have f0 := m2.cell 0; have f1 := m2.cell 1; have f2 := m2.cell 2; clear x1 m1 m2)
          | (go_at_call 32; have mk := X2; refine (D2.out _ X2.out).mono ?_; rintro e w3 ⟨d2, rfl, x3⟩; have X3 := Lib.hid (X2.out.trans x3); have t4 := (BT.out.ext X3.out).cell 1; clear x3)
          | (go_at_call 32; go_loud (refine (D1.out _ X1.out).mono ?_); rintro e w2 ⟨d, rfl, x2⟩; have X2 := Lib.hid (X1.out.trans x2); have m1 := BG.out.ext X2.out; have m2 := BT.out.ext X2.out; have r0 := m1.cell 0; have r1 := m1.cell 1; have t0 := m2.cell 0; have t1 := m2.cell 1; have t2 := m2.cell 2; clear x2 m1 m2))
        go_returns
        exact FIN.out _ X3.out
end Go.Proofs.Yteklohamkmiphaa
namespace Go.Proofs.Yteklohamkmiphaa
open Go.RowKit

def Fall1Out (w w0 wa : World) (NA : Option Addr) (nl Nc : Nat) (EA : Option Addr) (el Ec : Nat) (g : Gm) (gb mb ob kb : Nat) (L : List Pe) (ck : Nat) (fr : Pt) (n : Nat) (L0 : List (Pt × Pt × List Way)) (e : Ending) (w' : World) : Prop :=
  e = .returned (.tuple #[]) ∧ ∃ (A' : Option Addr) (n' c' : Nat) (Ls' : List Ld), FaI w0 wa w' NA nl Nc EA el Ec g gb mb ob kb L ck A' n' c' Ls' ∧ Ls'.map Ld.v = L0 ++ tosT g fr nl ∧ n' ≤ n + nl * 8 ∧ ∀ b cs, Bk w b 50 cs → Bk w' b 50 cs
theorem one_no {g : Gr} {fr t : Pt} (h : lw g fr t = []) : one g fr t = [] := by unfold one; rw [if_pos h]
theorem one_yes {g : Gr} {fr t : Pt} {l : List Way} (h : lw g fr t = l) (hl : l ≠ []) : one g fr t = [(fr, t, l)] := by unfold one; rw [h, if_neg hl]
theorem few_map {l m : List Pm} (h : l.map Pm.w = m.map Pm.w) (f : ∀ x ∈ m, Few32 x.w) : ∀ x ∈ l, Few32 x.w := fun x hx => by
  have : x.w ∈ m.map Pm.w := by rw [← h]; exact List.mem_map.2 ⟨x, hx, rfl⟩
  obtain ⟨y, hy, e⟩ := List.mem_map.1 this
  rw [← e]; exact f y hy
set_option maxRecDepth 100000 in
set_option maxHeartbeats 8000000 in
theorem fall1_any (NA : Option Addr) (Nc : Nat) (nodes : List Nm) (EA : Option Addr) (Ec : Nat) (edges : List (Pt × Pt)) (nl el : Nat) (pn : Int) (po : Bool) (pp : Int) (d : Int) (w0 wa w : World) (gb mb ob kb : Nat) (L : List Pe) (ck : Nat) (A : Option Addr) (n c : Nat) (Ls : List Ld)
    (hk : Hid (GrOk w0 NA Nc nodes EA Ec edges nl el)) (hG : Hid (GOK (Gm.v ⟨NA, Nc, nodes, EA, Ec, edges⟩))) (hN : Hid (∀ x ∈ nodes, nodeT x.v = true)) (hd : Hid ((Gm.v ⟨NA, Nc, nodes, EA, Ec, edges⟩).dep ⟨pn, po, pp⟩ = some d)) (hF : Hid (FaI w0 wa w NA nl Nc EA el Ec ⟨NA, Nc, nodes, EA, Ec, edges⟩ gb mb ob kb L ck A n c Ls)) (hn : n ≤ 1000000000) :
    Calls Try.prog 35 #[.agg #[.int .i64 pn, .bool po, .int .i64 pp], .pointer (some ⟨gb, 0, none⟩), .pointer (some ⟨mb, 0, none⟩), .pointer (some ⟨ob, 0, none⟩)] w (Fall1Out w w0 wa NA nl Nc EA el Ec ⟨NA, Nc, nodes, EA, Ec, edges⟩ gb mb ob kb L ck ⟨pn, po, pp⟩ n (Ls.map Ld.v)) := by
  obtain ⟨g, hg⟩ : ∃ g : Gm, g = ⟨NA, Nc, nodes, EA, Ec, edges⟩ := ⟨_, rfl⟩
  have HGV := Lib.hid hg
  rw [← hg] at hF ⊢
  have GK : Hid (GOK g.v) := Lib.hid (by rw [hg]; exact hG.out)
  have GF : Hid (GFew g.v) := Lib.hid (by rw [hg]; exact hk.out.f)
  have HD : Hid (g.v.dep ⟨pn, po, pp⟩ = some d) := Lib.hid (by rw [hg]; exact hd.out)
  have HPT : Hid (∀ p, (g.v.dep p).isSome → P64 p) := Lib.hid (by rw [hg]; exact fun p hp => G64.p64 hk.out.h6 (by show nodes.length ≤ _; rw [← hk.out.l]; have := hk.out.n9; omega) p hp)
  obtain ⟨L0, hl0⟩ : ∃ x, Ls.map Ld.v = x := ⟨_, rfl⟩
  have HL0 := Lib.hid hl0
  rw [hl0]
  obtain ⟨n0, hn0⟩ : ∃ x, x = n := ⟨_, rfl⟩
  have HN0 := Lib.hid hn0
  have hn0' : n0 ≤ 1000000000 := by rw [hn0]; exact hn
  rw [← hn0]
  have hnle : n ≤ n0 := by rw [hn0]; exact Nat.le_refl _
  obtain ⟨w1, hw1⟩ : ∃ x, x = w.alloc (.cells #[.int .i64 pn, .bool po, .int .i64 pp] 27) := ⟨_, rfl⟩
  obtain ⟨fb, hfb⟩ : ∃ x, x = w.heap.size := ⟨_, rfl⟩
  have X1 : Hid (Ext w w1) := Lib.hid (by rw [hw1]; exact (Ext.refl _).alloc _)
  have BF : Hid (Bk w1 fb 27 #[.int .i64 pn, .bool po, .int .i64 pp]) := Lib.hid (by rw [hw1, hfb]; exact Bk.new _ _ _)
  have F1 := Lib.hid (hF.out.ext X1.out)
  have K1 := Lib.hid (hk.out.ext F1.out.ld.ex)
  have HC : Hid (Calls Try.prog 32 #[.agg #[.slice NA nl Nc, .slice EA el Ec], .agg #[.int .i64 pn, .bool po, .int .i64 pp]] w1 fun e w' => e = .returned (.tuple #[.int .i64 d, .bool true]) ∧ Ext w1 w') := Lib.hid (depth_some w1 (Lib.hid K1.out.l) (Lib.hid K1.out.g) hN hd)
  have hn9 := hk.out.n9
  have g0 := F1.out.bg.cell 0
  have g1 := F1.out.bg.cell 1
  have f0 := BF.out.cell 0
  have f1 := BF.out.cell 1
  have f2 := BF.out.cell 2
  clear hg hl0 hn0 hn
  go_enter Try.func35, Try.ntmps35
  go_upto_region 1 with fail
  rw [← hw1, ← hfb]
  clear hw1 hfb
  go_upto_region 2 with (go_at_call 32; go_loud (refine HC.out.mono ?_); rintro r w2 ⟨rfl, x2⟩; have X2 := Lib.hid x2; clear x2)
  clear g0 g1 f0 f1 f2 HC
  have F2 := Lib.hid (F1.out.ext X2.out)
  have BF2 := Lib.hid (BF.out.ext X2.out)
  have hst := str_of F2.out.mp F2.out.ml GK.out (by rw [HGV.out]; exact (K1.out.ext X2.out).g) (by rw [HGV.out]; exact hk.out.b)
  have HL := Lib.hid (least_any true kb g.v pn po pp d w2 (Lib.hid hst) GK GF HD HPT)
  have m0 := F2.out.bm.cell 0
  have f0 := BF2.out.cell 0
  have f1 := BF2.out.cell 1
  have f2 := BF2.out.cell 2
  clear hst
  go_upto_region 3 with (go_at_call 29; go_loud (refine HL.out.mono ?_); rintro r w3 ⟨kk, rfl, lm⟩; have LM := Lib.hid lm; clear lm)
  clear m0 f0 f1 f2 HL
  obtain ⟨L2, ck2, K, km, T, hso, hfw, hf32⟩ := LM.out.ex
  have hT0 : Tab g.v ⟨pn, po, pp⟩ True (fun q => (K q).map Pm.w) := by simpa using T
  have HDS : Hid ((g.v.dep ⟨pn, po, pp⟩).isSome) := Lib.hid (by rw [HD.out]; rfl)
  have HLW : Hid (∀ t, lw g.v ⟨pn, po, pp⟩ t = (K t).map Pm.w) := Lib.hid (fun t => lw_eq GK.out HDS.out ⟨_, hT0, hso t, rfl⟩)
  have HFW := Lib.hid hfw
  have HF32 := Lib.hid hf32
  have HK0 : Hid (FaK w w0 wa w2 w3 NA nl Nc EA el Ec g gb mb ob kb L ck A n c Ls kk L2 ck2 K fb pn po pp) := Lib.hid ⟨F2.out.ext LM.out.x, km, BF2.out.ext LM.out.x, fun b cs q => ((q.ext X1.out).ext X2.out).ext LM.out.x⟩
  have g0 := (F2.out.ext LM.out.x).bg.cell 0
  clear km T hso hfw hf32 hT0
  go_wp2
  clear g0
  go_loopg [8, 9, 10, 11, 12, 26] nl (fun z _ _ _ _ _ v26 wr => ∃ (a n c : Nat) (A : Option Addr) (Ls : List Ld), v26 = .int .i64 a ∧ a ≤ nl ∧ z = nl - a ∧ n ≤ n0 + a * 8 ∧ Hid (FaK w w0 wa w2 wr NA nl Nc EA el Ec g gb mb ob kb L ck A n c Ls kk L2 ck2 K fb pn po pp ∧ Ls.map Ld.v = L0 ++ tosT g ⟨pn, po, pp⟩ a))
  case atStart => exact ⟨0, n, c, A, Ls, rfl, Nat.zero_le _, rfl, Nat.le_trans hnle (Nat.le_add_right _ _), Lib.hid ⟨HK0.out, by rw [tosT_zero, List.append_nil]; exact HL0.out⟩⟩
  case round =>
    clear HK0 hnle HL0
    obtain ⟨a, n, c, A, Ls, rfl, ha, rfl, hni, HA⟩ := hrel
    by_cases hal : a < nl
    · have haz : (a : Int) < (nl : Int) := by omega
      have haL : a < nodes.length := by rw [← hk.out.l]; exact hal
      obtain ⟨ad, hNA, m0, m1, m2, m3⟩ := (hk.out.ext HA.out.1.fa.ld.ex).g.nat haL
      simp only at hNA m0 m1 m2 m3
      subst hNA
      have hnt := hN.out _ (getD_mem' Nm.zero haL)
      have hjj : 0 ≤ (nodes.getD a Nm.zero).ins ∧ (nodes.getD a Nm.zero).ins ≤ 8 := by
        unfold nodeT at hnt
        rw [Bool.and_eq_true] at hnt
        have q := of_decide_eq_true hnt.1
        exact ⟨q.2.2.1, q.2.2.2.1⟩
      obtain ⟨J, hJ⟩ : ∃ J : Nat, (nodes.getD a Nm.zero).ins = J := ⟨(nodes.getD a Nm.zero).ins.toNat, by omega⟩
      have HJN : Hid (insN g a = J) := Lib.hid (by unfold insN; rw [HGV.out]; show (nodes.getD a Nm.zero).ins.toNat = J; rw [hJ]; rfl)
      have HDQ : Hid (∀ q : Nat, q < J → (g.v.dep ⟨a, false, q⟩).isSome) := Lib.hid (fun q hq => by
        rw [HGV.out, dep_in (g := ⟨some ad, Nc, nodes, EA, Ec, edges⟩) haL (by omega)]
        simp only [Bool.false_eq_true, if_false]
        rw [if_pos (by show (q : Int) < (nodes.getD a Nm.zero).ins; rw [hJ]; omega)]
        rfl)
      obtain ⟨⟨nin, nou, nde, iA, ic, inner⟩, hx⟩ : ∃ e, nodes.getD a Nm.zero = e := ⟨_, rfl⟩
      rw [hx] at m0 m1 m2 m3 hJ
      simp only at m0 m1 m2 m3 hJ
      subst hJ
      obtain ⟨ni, hni'⟩ : ∃ x, x = inner.length := ⟨_, rfl⟩
      rw [← hni'] at m3
      have hJ8 : J ≤ 8 := by
        have q := hjj.2
        rw [hx] at q
        simp only at q
        omega
      have FA2 := Lib.hid (HA.out.1.ext ((Ext.refl wr).alloc (.cells #[.int .i64 J, .int .i64 nou, .int .i64 nde, .slice iA ni ic] 50)))
      obtain ⟨w5, hw5⟩ : ∃ x, x = wr.alloc (.cells #[.int .i64 J, .int .i64 nou, .int .i64 nde, .slice iA ni ic] 50) := ⟨_, rfl⟩
      rw [← hw5] at FA2
      have HW5 := Lib.hid hw5
      have HMV := Lib.hid HA.out.2
      clear hnt hjj hx hni' haL hw5 HA
      go_upto_region 6 with fail
      clear m0 m1 m2 m3
      go_wp2
      rw [← HW5.out]
      go_loopg [10, 11, 12, 33] J (fun z _ _ _ v33 wr => ∃ (q n c : Nat) (A : Option Addr) (Ls : List Ld), v33 = .int .i64 q ∧ q ≤ J ∧ z = J - q ∧ n ≤ n0 + a * 8 + q ∧ Hid (FaK w w0 wa w2 wr (some ad) nl Nc EA el Ec g gb mb ob kb L ck A n c Ls kk L2 ck2 K fb pn po pp ∧ Ls.map Ld.v = L0 ++ tosT g ⟨pn, po, pp⟩ a ++ rowT g ⟨pn, po, pp⟩ a q))
      case atStart => exact ⟨0, n, c, A, Ls, rfl, Nat.zero_le _, rfl, Nat.le_trans hni (Nat.le_add_right _ _), Lib.hid ⟨FA2.out, by rw [rowT_zero, List.append_nil]; exact HMV.out⟩⟩
      case round =>
        clear FA2 HMV hni HW5
        obtain ⟨q, n, c, A, Ls, rfl, hq9, rfl, hni, HA⟩ := hrel
        by_cases hql : q < J
        · have hqz : (q : Int) < (J : Int) := by omega
          have H6 := HPT.out _ (HDQ.out q hql)
          obtain ⟨w8, hw8⟩ : ∃ x, x = wr.alloc (.cells #[.int .i64 a, .bool false, .int .i64 q] 27) := ⟨_, rfl⟩
          obtain ⟨tb, htb⟩ : ∃ x, x = wr.heap.size := ⟨_, rfl⟩
          have X8 : Hid (Ext wr w8) := Lib.hid (by rw [hw8]; exact (Ext.refl _).alloc _)
          have BT : Hid (Bk w8 tb 27 #[.int .i64 a, .bool false, .int .i64 q]) := Lib.hid (by rw [hw8, htb]; exact Bk.new _ _ _)
          have F8 := Lib.hid (HA.out.1.ext X8.out)
          obtain ⟨kA, kc, ka⟩ := F8.out.km.ls ⟨a, false, q⟩
          obtain ⟨nk, hnk⟩ : ∃ x, x = (K ⟨a, false, q⟩).length := ⟨_, rfl⟩
          have hlk : (Instr.lookup 81 (.map (some kk)) (.agg #[.int .i64 a, .bool false, .int .i64 q]) false).run Try.prog w8 = .ok (.slice kA nk kc) w8 := by
            have z := F8.out.km.tm.look H6 Try.underlying81 (zeroPs w8)
            rw [show (getE L2 ⟨a, false, q⟩).getD (.slice none 0 0) = _ from ka.hd, ← hnk] at z
            exact z
          have HKA := Lib.hid ka
          have HNK := Lib.hid hnk
          have hfk : nk ≤ 1263007198127 := by rw [hnk]; exact HFW.out _
          have hone := HLW.out ⟨a, false, q⟩
          go_upto_region 10 with fail
          rw [← hw8, ← htb]
          have c0 := BT.out.cell 0
          have c1 := BT.out.cell 1
          have c2 := BT.out.cell 2
          clear hw8 htb H6 ka hnk
          go_upto_if 44 with fail
          clear hlk c0 c1 c2
          by_cases hk0 : nk = 0
          · have hnil : K ⟨a, false, q⟩ = [] := List.eq_nil_of_length_eq_zero (by rw [← HNK.out]; exact hk0)
            have HONE : Hid (one g.v ⟨pn, po, pp⟩ ⟨a, false, q⟩ = []) := Lib.hid (one_no (by rw [hone, hnil]; rfl))
            subst hk0
            clear hone hnil
            go_wp2
            go_roundg (J - (q + 1))
            case measure => omega
            case rel => exact ⟨q + 1, n, c, A, Ls, by go_num, by omega, rfl, Nat.le_trans hni (Nat.le_succ _), Lib.hid ⟨F8.out, by rw [rowT_succ, HONE.out, List.append_nil]; exact HA.out.2⟩⟩
          · have hkz : (0 : Int) < (nk : Int) := by omega
            have hne : (K ⟨a, false, q⟩).map Pm.w ≠ [] := fun e => hk0 (by rw [HNK.out, ← List.length_map (f := Pm.w), e]; rfl)
            have HONE := Lib.hid (one_yes hone hne)
            have XE : Ext w8 w8.drew := (Ext.refl w8).drew
            have HCO := Lib.hid (fun W (x : Ext w8 W) => copied_own kA nk kc (K ⟨a, false, q⟩) W HNK (Lib.hid (by rw [HNK.out]; exact (HKA.out.ow.ext x).sl)) (Lib.hid (fun y hy => ((F8.out.km.ext x).wy _ _ hy).pmR)) (Lib.hid (fun y hy => (HF32.out _ _ hy).2)) hfk)
            have C0 : ∀ y : Xt w8.drew, y.W.cell? ⟨ob, 0, none⟩ = some (.slice A n c) := fun y => (F8.out.fa.bo.ext (XE.trans y.x)).cell 0
            have C1 : ∀ y : Xt w8.drew, y.W.cell? ⟨fb, 0, none⟩ = some (.int .i64 pn) := fun y => (F8.out.bf.ext (XE.trans y.x)).cell 0
            have C2 : ∀ y : Xt w8.drew, y.W.cell? ⟨fb, 1, none⟩ = some (.bool po) := fun y => (F8.out.bf.ext (XE.trans y.x)).cell 1
            have C3 : ∀ y : Xt w8.drew, y.W.cell? ⟨fb, 2, none⟩ = some (.int .i64 pp) := fun y => (F8.out.bf.ext (XE.trans y.x)).cell 2
            have C4 : ∀ y : Xt w8.drew, y.W.cell? ⟨tb, 0, none⟩ = some (.int .i64 a) := fun y => (BT.out.ext (XE.trans y.x)).cell 0
            have C5 : ∀ y : Xt w8.drew, y.W.cell? ⟨tb, 1, none⟩ = some (.bool false) := fun y => (BT.out.ext (XE.trans y.x)).cell 1
            have C6 : ∀ y : Xt w8.drew, y.W.cell? ⟨tb, 2, none⟩ = some (.int .i64 q) := fun y => (BT.out.ext (XE.trans y.x)).cell 2
            clear hone hne hk0
            go_upto_region 12 with fail
            refine wp_region_ord [0,0,0,0,8,30,62,127,255] (.flo [0,1,2,3] (.ext 4 (.flo [5] (.ext 6 (.one 7 (.one 8 (.fin))))))) (by kernel_rfl) (by kernel_rfl) (by intro _ _ d _ _ h; cases d <;> exact h) ?_
            (refine ord_flo (pick_cons rfl (pick_cons rfl (pick_cons rfl (pick_cons rfl pick_nil)))) ?_; (repeat (go_big_quiet_step (fail))); refine wpQuiet_nil ?_; show ordWalk _ _ _ _ _ _ _)
            refine ord_ext (pick_cons rfl pick_nil) ?_; intro K_ hK_
            go_wp2_with (go_at_call 33; go_loud (refine (HCO.out _ XE).mono ?_); rintro r w9 ⟨MA, mc, M, rfl, hmw, mo, my, x9⟩; have HMW := Lib.hid hmw; have MO := Lib.hid mo; have MY := Lib.hid my; have X9 := Lib.hid (XE.trans x9); have x99 := x9; clear hmw mo my x9)
            refine ordNext.mk x99 ?_
            (refine ord_flo (pick_cons rfl pick_nil) ?_; (repeat (go_big_quiet_step (fail))); refine wpQuiet_nil ?_; show ordWalk _ _ _ _ _ _ _)
            refine ord_ext (pick_cons rfl pick_nil) ?_; intro K_ hK_
            go_wp2
            refine ordNext.mk ((Ext.refl _).alloc _) ?_
            clear C0 C1 C2 C3 C4 C5 C6 XE
            have F9 := Lib.hid ((F8.out.ext X9.out).ext ((Ext.refl w9).alloc (.cells #[.int .i64 pn, .bool po, .int .i64 pp, .int .i64 a, .bool false, .int .i64 q, .slice MA nk mc] 67)))
            have SE := Lib.hid (Sl.one w9 #[.int .i64 pn, .bool po, .int .i64 pp, .int .i64 a, .bool false, .int .i64 q, .slice MA nk mc] 67 7 rfl)
            have hb1 := F9.out.fa.ld.ex.size
            have hlen : nk = M.length := by have z := congrArg List.length HMW.out; rw [List.length_map, List.length_map, ← HNK.out] at z; exact z.symm
            have HLEN := Lib.hid hlen
            have wx : WysR w9 MA M.length mc M := ⟨rfl, by have z := MO.out.sl; rw [hlen] at z; exact z, fun y hy => ⟨(MY.out y hy).pmR, few_map HMW.out (HF32.out _) y hy⟩⟩
            have wt : WysT w9 MA mc M := ⟨fun k hk => MO.out.ty hk, fun y hy k hk => Own.ty (MY.out y hy) hk⟩
            have WX := Lib.hid (wx.ext ((Ext.refl w9).alloc (.cells #[.int .i64 pn, .bool po, .int .i64 pp, .int .i64 a, .bool false, .int .i64 q, .slice MA nk mc] 67)))
            have WT := Lib.hid (wt.ext ((Ext.refl w9).alloc (.cells #[.int .i64 pn, .bool po, .int .i64 pp, .int .i64 a, .bool false, .int .i64 q, .slice MA nk mc] 67)))
            clear wx wt hlen
            refine ord_one (pick_cons rfl pick_nil) ?_; intro K_ hK_
            go_wp2_with (at_builtin; go_loud (refine wpList_append_two _ elem_ld w0.heap.size _ _ rfl rfl A n c (Ls.flatMap ldC) rfl F9.out.fa.ld.ow (some ⟨w9.heap.size, 0, none⟩) 1 1 [.int .i64 pn, .bool po, .int .i64 pp, .int .i64 a, .bool false, .int .i64 q, .slice MA nk mc] rfl SE.out (by intro u hu; simp only [List.mem_cons, List.not_mem_nil, or_false] at hu; rcases hu with rfl | rfl | rfl | rfl | rfl | rfl | rfl <;> rfl) (by omega) (by decide) hb1 ?_); intro A6 c6 w6_ o6 g6 x6; have O6 := Lib.hid o6; have G6 := Lib.hid g6; have BK := F9.out.fa.bo.grown g6 (fun e => absurd ((F9.out.fa.ld.ow.ty e).ne F9.out.fa.bo.ty) (by decide)); have k5 := BK.cell 0; have f5 := BK.free 0; clear o6 g6 x6 BK)
            go_simp
            refine ord_one (pick_cons rfl pick_nil) ?_; intro K_ hK_
            go_wp2
            refine ord_fin ?_
            clear k5 f5
            go_wp2
            go_roundg (J - (q + 1))
            case measure => omega
            case rel =>
              have hp := F9.out.push (x := ⟨⟨pn, po, pp⟩, ⟨a, false, q⟩, MA, mc, M⟩) ⟨WX.out, WT.out⟩ G6.out (by have z := O6.out; rw [HLEN.out] at z; exact z)
              refine ⟨q + 1, n + 1, c6, A6, _, by go_num, by omega, rfl, Nat.succ_le_succ hni, Lib.hid ⟨hp, ?_⟩⟩
              rw [rowT_succ, HONE.out, List.map_append, HA.out.2, List.append_assoc (L0 ++ tosT g ⟨pn, po, pp⟩ a), ← HMW.out]
              rfl
        · obtain rfl : J = q := by omega
          have hqz : ¬ (J : Int) < (J : Int) := by omega
          go_wp2
          go_roundg (nl - (a + 1))
          case measure => omega
          case rel => exact ⟨a + 1, n, c, A, Ls, by go_num, by omega, rfl, by omega, Lib.hid ⟨HA.out.1, by rw [tosT_succ, HJN.out, ← List.append_assoc]; exact HA.out.2⟩⟩
    · obtain rfl : nl = a := by omega
      have haz : ¬ (nl : Int) < (nl : Int) := by omega
      go_wp2
      go_returns
      exact ⟨rfl, A, n, c, Ls, HA.out.1.fa, HA.out.2, hni, HA.out.1.nf⟩
end Go.Proofs.Yteklohamkmiphaa
namespace Go.Proofs.Yteklohamkmiphaa
open Go.RowKit

theorem rturns_at {i o d : Int} {A : Option Addr} {n c : Nat} {b : Bool} (w : World) (h : Hid (turnsI i o n = b)) : Calls Try.prog 30 #[.agg #[.int .i64 i, .int .i64 o, .int .i64 d, .slice A n c]] w fun e w' => e = .returned (.bool b) ∧ Ext w w' := by
  have := rturns_any i o d A n c w
  rw [h.out] at this
  exact this
set_option maxRecDepth 100000 in
set_option maxHeartbeats 4000000 in
theorem rdepth_any (NA : Option Addr) (Nc : Nat) (nodes : List Nm) (EA : Option Addr) (Ec : Nat) (edges : List (Pt × Pt)) (pn : Int) (po : Bool) (pp : Int) (nl el : Nat) (w : World) (hl : Hid (nl = nodes.length)) (hG : Hid (GmR w ⟨NA, Nc, nodes, EA, Ec, edges⟩)) (hN : Hid (∀ x ∈ nodes, nodeT x.v = true)) :
    Calls Try.prog 9 #[.agg #[.slice NA nl Nc, .slice EA el Ec], .agg #[.int .i64 pn, .bool po, .int .i64 pp]] w (DepOut (Gm.v ⟨NA, Nc, nodes, EA, Ec, edges⟩) ⟨pn, po, pp⟩ w) := by
  obtain ⟨g, hg⟩ : ∃ g : Gm, g = ⟨NA, Nc, nodes, EA, Ec, edges⟩ := ⟨_, rfl⟩
  have x2 : Ext w ((w.alloc (Obj.cells #[.slice NA nl Nc, .slice EA el Ec] 25)).alloc (Obj.cells #[.int .i64 pn, .bool po, .int .i64 pp] 27)) := ((Ext.refl w).alloc _).alloc _
  have hlo := hl.out
  by_cases h1 : pn < 0
  · go_enter Try.func9, Try.ntmps9
    go_wp2
    go_returns
    exact DepOut.none (dep_off (.inl h1)) (by have e1 := Ext.refl w; (repeat' (first | with_reducible exact e1 | with_reducible refine Ext.drew ?_ | with_reducible refine Ext.drewN ?_ _ | with_reducible refine Ext.alloc ?_ _ | with_reducible refine Ext.set ?_ ?_ _ | omega | (simp; done) | (simp; omega))))
  by_cases h2 : (nl : Int) ≤ pn
  · go_enter Try.func9, Try.ntmps9
    clear hlo
    go_wp2
    go_returns
    exact DepOut.none (dep_off (.inr (.inl (by rw [hl.out] at h2; exact h2)))) (by have e1 := Ext.refl w; (repeat' (first | with_reducible exact e1 | with_reducible refine Ext.drew ?_ | with_reducible refine Ext.drewN ?_ _ | with_reducible refine Ext.alloc ?_ _ | with_reducible refine Ext.set ?_ ?_ _ | omega | (simp; done) | (simp; omega))))
  by_cases h3 : pp < 0
  · go_enter Try.func9, Try.ntmps9
    clear hlo
    go_wp2
    go_returns
    exact DepOut.none (dep_off (.inr (.inr h3))) (by have e1 := Ext.refl w; (repeat' (first | with_reducible exact e1 | with_reducible refine Ext.drew ?_ | with_reducible refine Ext.drewN ?_ _ | with_reducible refine Ext.alloc ?_ _ | with_reducible refine Ext.set ?_ ?_ _ | omega | (simp; done) | (simp; omega))))
  obtain ⟨i, rfl⟩ : ∃ i : Nat, pn = i := ⟨pn.toNat, by omega⟩
  have hi : i < nodes.length := by omega
  have hd := Lib.hid (dep_in (g := ⟨NA, Nc, nodes, EA, Ec, edges⟩) (o := po) hi (show 0 ≤ pp by omega))
  obtain ⟨ad, hA, q0, q1, q2, q3⟩ := (hG.out.ext x2).nat hi
  have hx := Lib.hid (hN.out _ (getD_mem' Nm.zero hi))
  have hR := Lib.hid (hG.out.nd _ (getD_mem' Nm.zero hi))
  obtain ⟨x, hxx⟩ : ∃ x, nodes.getD i Nm.zero = x := ⟨_, rfl⟩
  simp only at hd q0 q1 q2 q3 hx hR hA
  rw [hxx] at hd q0 q1 q2 q3 hx hR
  clear hxx hlo
  subst hA
  cases po with
  | false =>
    go_enter Try.func9, Try.ntmps9
    go_wp2
    go_quiet (fail)
    go_wp2
    go_returns
    exact DepOut.some (by rw [hd.out]; simp) (by
      have e1 := Ext.refl w
      (repeat' (first | with_reducible exact e1 | with_reducible refine Ext.drew ?_ | with_reducible refine Ext.drewN ?_ _ | with_reducible refine Ext.alloc ?_ _ | with_reducible refine Ext.set ?_ ?_ _ | omega | (simp; done) | (simp; omega))))
  | true =>
    cases ht : x.v.turns with
    | false =>
      have ct := fun W => rturns_at (d := x.depth) (A := x.A) (c := x.c) W (Lib.hid ((turnsI_eq x).trans ht))
      have ho : x.v.outDep = x.depth := by unfold Nd.outDep; rw [if_neg (by rw [ht]; simp)]; rfl
      have HO := Lib.hid ho
      clear ho ht
      go_enter Try.func9, Try.ntmps9
      go_wp2_with (go_at_call 30; refine (ct _).mono ?_; rintro r w1 ⟨rfl, x1⟩; have HX := Lib.hid x1; have u0 : w1.cell? ⟨w.heap.size + 1 + 1, 0, none⟩ = some (.int .i64 x.ins) := x1.cell (by go_simp); have u1 : w1.cell? ⟨w.heap.size + 1 + 1, 1, none⟩ = some (.int .i64 x.outs) := x1.cell (by go_simp); have u2 : w1.cell? ⟨w.heap.size + 1 + 1, 2, none⟩ = some (.int .i64 x.depth) := x1.cell (by go_simp); have u3 : w1.cell? ⟨w.heap.size + 1, 2, none⟩ = some (.int .i64 pp) := x1.cell (by go_simp); clear x1)
      go_quiet (fail)
      go_wp2
      go_returns
      exact DepOut.some (by rw [hd.out, HO.out]; simp) (by
        have e1 := Ext.refl w
        have e2 : Ext w _ := Ext.trans (by (repeat' (first | with_reducible exact e1 | with_reducible refine Ext.drew ?_ | with_reducible refine Ext.drewN ?_ _ | with_reducible refine Ext.alloc ?_ _ | with_reducible refine Ext.set ?_ ?_ _ | omega | (simp; done) | (simp; omega)))) HX.out
        (repeat' (first | with_reducible exact e2 | with_reducible refine Ext.drew ?_ | with_reducible refine Ext.drewN ?_ _ | with_reducible refine Ext.alloc ?_ _ | with_reducible refine Ext.set ?_ ?_ _ | omega | (simp; done) | (simp; omega))))
    | true =>
      obtain ⟨xi, xo, xd, xA, xc, xl⟩ := x
      obtain ⟨hl1, ho⟩ := inner_head ht
      have hxo : xo = 1 := by unfold Nd.turns Nm.v at ht; exact (of_decide_eq_true ht).2.1
      subst hxo
      obtain ⟨y, rfl⟩ : ∃ y, xl = [y] := List.length_eq_one_iff.1 hl1
      have ct := fun W => rturns_at (d := xd) (A := xA) (c := xc) W (Lib.hid ((turnsI_eq ⟨xi, 1, xd, xA, xc, [y]⟩).trans ht))
      obtain ⟨a2, hA2, r0, r1, r2, r3, r4⟩ := (hR.out.ext x2).at (i := 0) (by simp)
      simp only at hA2
      subst hA2
      simp only [List.getD_cons_zero, Nat.zero_mul] at r0 r1 r2 r3 r4 ho
      simp only [List.length_singleton] at q3 ct
      have hz : a2.add 0 = a2 := by unfold Addr.add; simp
      rw [hz] at r2 r3 r4
      have HM : Hid (0 ≤ y.p.w.leave ∧ y.p.w.leave ≤ xd ∧ xd ≤ 3 ∧ madeT xd y.p.w ≤ 3) := by
        have := hx.out
        unfold nodeT at this
        simp only [Bool.and_eq_true, decide_eq_true_eq, List.all_eq_true] at this
        have h2 := this.2 y.v (by unfold Nm.v; simp)
        unfold innT at h2
        have h2 := of_decide_eq_true h2
        exact Lib.hid ⟨h2.2.2.2.2.1, h2.2.2.2.2.2.1, this.1.2.1, h2.2.2.2.2.2.2.2.1⟩
      have HO := Lib.hid ho
      clear ho ht hl1
      obtain ⟨yi, yo, yA, yc, yL, ya, ye⟩ := y
      obtain ⟨ne, hne⟩ : ∃ ne, ye.length = ne := ⟨_, rfl⟩
      simp only at r2 r3 r4
      rw [hne] at r4
      have HNE := Lib.hid hne
      clear hne
      go_enter Try.func9, Try.ntmps9
      go_wp2_with (go_at_call 30; refine (ct _).mono ?_; rintro r w1 ⟨rfl, x1⟩; have HX := Lib.hid x1; have u1 : w1.cell? ⟨w.heap.size + 1 + 1, 1, none⟩ = some (.int .i64 1) := x1.cell (by go_simp); have u2 : w1.cell? ⟨w.heap.size + 1 + 1, 2, none⟩ = some (.int .i64 xd) := x1.cell (by go_simp); have u3 : w1.cell? ⟨w.heap.size + 1, 2, none⟩ = some (.int .i64 pp) := x1.cell (by go_simp); have u4 : w1.cell? ⟨w.heap.size + 1 + 1, 3, none⟩ = some (.slice (some a2) 1 xc) := x1.cell (by go_simp); have XX : Ext (((w.alloc (Obj.cells #[.slice (some ad) nl Nc, .slice EA el Ec] 25)).alloc (Obj.cells #[.int .i64 i, .bool true, .int .i64 pp] 27))) w1 := Ext.trans (by have e1 := Ext.refl ((w.alloc (Obj.cells #[.slice (some ad) nl Nc, .slice EA el Ec] 25)).alloc (Obj.cells #[.int .i64 i, .bool true, .int .i64 pp] 27)); (repeat' (first | with_reducible exact e1 | with_reducible refine Ext.drew ?_ | with_reducible refine Ext.drewN ?_ _ | with_reducible refine Ext.alloc ?_ _ | with_reducible refine Ext.set ?_ ?_ _ | omega | (simp; done) | (simp; omega)))) x1; have v2 := XX.cell r2; have v3 := XX.cell r3; have v4 := XX.cell r4; clear x1)
      have f1 : ∀ y : Xt w1, y.W.cell? ⟨w.heap.size + 1 + 1, 1, none⟩ = some (.int .i64 1) := fun y => y.x.cell u1
      have f2 : ∀ y : Xt w1, y.W.cell? ⟨w.heap.size + 1 + 1, 2, none⟩ = some (.int .i64 xd) := fun y => y.x.cell u2
      have f3 : ∀ y : Xt w1, y.W.cell? ⟨w.heap.size + 1, 2, none⟩ = some (.int .i64 pp) := fun y => y.x.cell u3
      have f4 : ∀ y : Xt w1, y.W.cell? ⟨w.heap.size + 1 + 1, 3, none⟩ = some (.slice (some a2) 1 xc) := fun y => y.x.cell u4
      have g2 := fun y : Xt w1 => y.x.cell v2
      have g3 := fun y : Xt w1 => y.x.cell v3
      have g4 := fun y : Xt w1 => y.x.cell v4
      (refine wp_region_ext (by kernel_rfl) (by kernel_rfl) ?_; (repeat (go_big_quiet_step ((go_at_call 31; exact call_ext (rmade_any _ _ _ _ _ _ _))))); refine wpQuiet_nil ?_; rintro _ ⟨y, rfl⟩)
      go_wp2
      go_returns
      exact DepOut.some (by
        have h : 0 ≤ yL ∧ yL ≤ xd ∧ xd ≤ 3 ∧ xd - yL + ye.length ≤ 3 := HM.out
        rw [hd.out, HO.out, ← madeI_eq (w := ⟨yL, ya, ye⟩) (by show 0 ≤ yL ∧ yL ≤ 1000; omega) (by omega) (by show ye.length ≤ 1000000; omega)]
        simp [HNE.out]) (by
        have e1 := Ext.refl w
        have e2 : Ext w _ := Ext.trans (by (repeat' (first | with_reducible exact e1 | with_reducible refine Ext.drew ?_ | with_reducible refine Ext.drewN ?_ _ | with_reducible refine Ext.alloc ?_ _ | with_reducible refine Ext.set ?_ ?_ _ | omega | (simp; done) | (simp; omega)))) HX.out
        exact e2.trans y.x)
end Go.Proofs.Yteklohamkmiphaa
namespace Go.Proofs.Yteklohamkmiphaa
open Go.RowKit

theorem innT_iff (n : Nm) (x : Im) : innT n.v x.v = true ↔ (0 ≤ x.i ∧ x.i < n.ins ∧ 0 ≤ x.o ∧ x.o < n.outs ∧ 0 ≤ x.p.w.leave ∧ x.p.w.leave ≤ n.depth ∧ ¬ (x.p.w.leave = n.depth ∧ 0 < x.p.w.add) ∧ madeT n.depth x.p.w ≤ 3 ∧ (n.v.turns = true ∨ madeT n.depth x.p.w = n.depth)) := by
  unfold innT
  exact decide_eq_true_iff
theorem nodeT_one {n : Nm} {k : Nat} (hk : k < n.inner.length) (h : innT n.v (n.inner.getD k Im.zero).v = false) : nodeT n.v = false := by
  unfold nodeT
  rw [Bool.and_eq_false_iff]
  right
  show (n.inner.map Im.v).all (innT n.v) = false
  rw [List.all_map]
  refine Bool.eq_false_iff.2 fun e => ?_
  have := List.all_eq_true.1 e _ (getD_mem' Im.zero hk)
  rw [Function.comp_apply, h] at this
  cases this
theorem nodeT_all {x : Nm} (h1 : 0 ≤ x.depth ∧ x.depth ≤ 3) (h2 : 0 ≤ x.ins ∧ x.ins ≤ 8) (h3 : 0 ≤ x.outs ∧ x.outs ≤ 8) (h4 : x.inner.length ≤ 64) (h : ∀ k, k < x.inner.length → innT x.v (x.inner.getD k Im.zero).v = true) : nodeT x.v = true := by
  unfold nodeT
  have e : decide (0 ≤ x.v.depth ∧ x.v.depth ≤ 3 ∧ 0 ≤ x.v.ins ∧ x.v.ins ≤ 8 ∧ 0 ≤ x.v.outs ∧ x.v.outs ≤ 8 ∧ x.v.inner.length ≤ 64) = true := decide_eq_true ⟨h1.1, h1.2, h2.1, h2.2, h3.1, h3.2, by unfold Nm.v; simpa using h4⟩
  rw [e, Bool.true_and]
  show (x.inner.map Im.v).all (innT x.v) = true
  rw [List.all_map]
  refine List.all_eq_true.2 fun y hy => ?_
  obtain ⟨k, hk, rfl⟩ := List.getElem_of_mem hy
  have := h k hk
  rw [List.getD_eq_getElem?_getD, List.getElem?_eq_getElem hk] at this
  exact this
set_option maxRecDepth 100000 in
set_option maxHeartbeats 4000000 in
theorem rnode_any (ins outs depth : Int) (A : Option Addr) (n c : Nat) (inner : List Im) (w : World) (hn : Hid (n = inner.length)) (hr : Hid (NmR w ⟨ins, outs, depth, A, c, inner⟩)) (h64 : Hid (N64 ⟨ins, outs, depth, A, c, inner⟩)) (nv : Bool) (hnv : Hid (nodeT (Nm.v ⟨ins, outs, depth, A, c, inner⟩) = nv)) :
    Calls Try.prog 60 #[.agg #[.int .i64 ins, .int .i64 outs, .int .i64 depth, .slice A n c]] w fun e w' => e = .returned (.bool nv) ∧ Ext w w' := by
  obtain ⟨w0, hw0⟩ : ∃ w0, w0 = w.alloc (.cells #[.int .i64 ins, .int .i64 outs, .int .i64 depth, .slice A n c] 50) := ⟨_, rfl⟩
  obtain ⟨b, hb⟩ : ∃ b, b = w.heap.size := ⟨_, rfl⟩
  have X0 : Hid (Ext w w0) := Lib.hid (by rw [hw0]; exact (Ext.refl w).alloc _)
  have BN : Hid (Bk w0 b 50 #[.int .i64 ins, .int .i64 outs, .int .i64 depth, .slice A n c]) := Lib.hid (by rw [hw0, hb]; exact Bk.new _ _ _)
  have hle : n ≤ 9223372036854775807 := by rw [hn.out]; exact hr.out.sl.le
  have b0 := BN.out.cell 0
  have b1 := BN.out.cell 1
  have b2 := BN.out.cell 2
  have b3 := BN.out.cell 3
  by_cases hbad : ¬ (0 ≤ depth ∧ depth ≤ 3) ∨ ¬ (0 ≤ ins ∧ ins ≤ 8) ∨ ¬ (0 ≤ outs ∧ outs ≤ 8) ∨ ¬ n ≤ 64
  · have e := nodeT_bad (x := ⟨ins, outs, depth, A, c, inner⟩) (by rw [← hn.out]; exact hbad)
    rw [hnv.out] at e
    subst e
    have hc : depth < 0 ∨ (¬ depth < 0 ∧ (3 < depth ∨ (¬ 3 < depth ∧ (ins < 0 ∨ (¬ ins < 0 ∧ (8 < ins ∨ (¬ 8 < ins ∧ (outs < 0 ∨ (¬ outs < 0 ∧ (8 < outs ∨ (¬ 8 < outs ∧ (64 : Int) < (n : Int)))))))))))) := by omega
    clear hbad
    rcases hc with h1 | ⟨h1, (h2 | ⟨h2, (h3 | ⟨h3, (h4 | ⟨h4, (h5 | ⟨h5, (h6 | ⟨h6, h7⟩)⟩)⟩)⟩)⟩)⟩
    all_goals
      go_enter Try.func60, Try.ntmps60
      go_upto_region 1 with fail
      rw [← hw0, ← hb]
      clear hw0 hb
      go_wp2
      go_ret
      exact ⟨rfl, X0.out⟩
  have hd : 0 ≤ depth ∧ depth ≤ 3 := by omega
  have hi : 0 ≤ ins ∧ ins ≤ 8 := by omega
  have ho : 0 ≤ outs ∧ outs ≤ 8 := by omega
  have hz1 : ¬ depth < 0 := by omega
  have hz2 : ¬ 3 < depth := by omega
  have hz3 : ¬ ins < 0 := by omega
  have hz4 : ¬ 8 < ins := by omega
  have hz5 : ¬ outs < 0 := by omega
  have hz6 : ¬ 8 < outs := by omega
  have hz7 : ¬ (64 : Int) < (n : Int) := by omega
  have hn64 : n ≤ 64 := by omega
  obtain ⟨t, ht⟩ : ∃ t, turnsI ins outs n = t := ⟨_, rfl⟩
  have HTV : Hid (t = (Nm.v ⟨ins, outs, depth, A, c, inner⟩).turns) := Lib.hid (by rw [← ht, hn.out]; exact turnsI_eq ⟨ins, outs, depth, A, c, inner⟩)
  have HT := Lib.hid (rturns_at (d := depth) (A := A) (c := c) w0 (Lib.hid ht))
  have HALL : Hid ((∀ k, k < n → innT (Nm.v ⟨ins, outs, depth, A, c, inner⟩) (inner.getD k Im.zero).v = true) → nv = true) := Lib.hid (fun h => by rw [← hnv.out]; exact nodeT_all hd hi ho (by rw [← hn.out]; omega) (by rw [← hn.out]; exact h))
  have HONE : Hid (∀ k, k < n → innT (Nm.v ⟨ins, outs, depth, A, c, inner⟩) (inner.getD k Im.zero).v = false → nv = false) := Lib.hid (fun k hk h => by rw [← hnv.out]; exact nodeT_one (n := ⟨ins, outs, depth, A, c, inner⟩) (k := k) (by rw [← hn.out]; exact hk) h)
  clear hbad ht
  go_enter Try.func60, Try.ntmps60
  go_upto_region 1 with fail
  rw [← hw0, ← hb]
  clear hw0 hb
  go_upto_region 4 with (go_at_call 30; go_loud (refine HT.out.mono ?_); rintro r w1 ⟨rfl, x1⟩; have X1 := Lib.hid x1; clear x1)
  clear b0 b1 b2 b3 hz1 hz2 hz3 hz4 hz5 hz6 hz7
  go_wp2
  go_loopg [4, 5, 6] n (fun z v4 _ _ wr => ∃ i : Nat, v4 = .int .i64 i ∧ i ≤ n ∧ z = n - i ∧ Hid (∀ k, k < i → innT (Nm.v ⟨ins, outs, depth, A, c, inner⟩) (inner.getD k Im.zero).v = true) ∧ Hid (Ext w1 wr))
  case atStart => exact ⟨0, rfl, Nat.zero_le _, rfl, Lib.hid (fun i h => absurd h (Nat.not_lt_zero _)), Lib.hid (Ext.refl _)⟩
  case round =>
    obtain ⟨i, rfl, hi9, rfl, HIN, XR⟩ := hrel
    have b3 := (BN.out.ext (X1.out.trans XR.out)).cell 3
    by_cases hlt : i < n
    · have hltz : (i : Int) < (n : Int) := by omega
      have hiL : i < inner.length := by rw [← hn.out]; exact hlt
      obtain ⟨ad, hA, p0, p1, p2, p3, p4⟩ := (hr.out.ext (X0.out.trans (X1.out.trans XR.out))).at hiL
      simp only at hA p0 p1 p2 p3 p4
      subst hA
      have hone := HONE.out i hlt
      have h6 := h64.out.inn _ (getD_mem' Im.zero hiL)
      have hif := innT_iff ⟨ins, outs, depth, some ad, c, inner⟩ (inner.getD i Im.zero)
      have HNX : Hid (innT (Nm.v ⟨ins, outs, depth, some ad, c, inner⟩) (inner.getD i Im.zero).v = true → ∀ k, k < i + 1 → innT (Nm.v ⟨ins, outs, depth, some ad, c, inner⟩) (inner.getD k Im.zero).v = true) := Lib.hid (fun h k hk => by
        by_cases e : k = i
        · rw [e]; exact h
        · exact HIN.out k (by omega))
      obtain ⟨⟨xi, xo, ⟨pA, pc, ⟨pl_, pa, pe⟩⟩⟩, hx⟩ : ∃ e, inner.getD i Im.zero = e := ⟨_, rfl⟩
      rw [hx] at p0 p1 p2 p3 p4 hone h6 hif HNX
      simp only at p0 p1 p2 p3 p4 hif h6
      obtain ⟨np, hnp⟩ : ∃ x, x = pe.length := ⟨_, rfl⟩
      rw [← hnp] at p4
      have hfalse : ¬ (0 ≤ xi ∧ xi < ins ∧ 0 ≤ xo ∧ xo < outs ∧ 0 ≤ pl_ ∧ pl_ ≤ depth ∧ ¬ (pl_ = depth ∧ 0 < pa) ∧ madeT depth ⟨pl_, pa, pe⟩ ≤ 3 ∧ ((Nm.v ⟨ins, outs, depth, some ad, c, inner⟩).turns = true ∨ madeT depth ⟨pl_, pa, pe⟩ = depth)) → nv = false := fun h => hone (Bool.eq_false_iff.2 fun e => h (hif.1 e))
      have HFS := Lib.hid hfalse
      have HIF := Lib.hid hif
      have HM : Hid (0 ≤ pl_ ∧ pl_ ≤ depth → madeI depth pl_ np = madeT depth ⟨pl_, pa, pe⟩) := Lib.hid (fun h => by rw [hnp]; exact madeI_eq (w := ⟨pl_, pa, pe⟩) ⟨h.1, (show pl_ ≤ 1000 by have := h.2; have := hd.2; omega)⟩ ⟨hd.1, by omega⟩ h6.2.2.2.2.2)
      clear hx hnp hone h6 hif hfalse hiL
      go_upto_region 8 with fail
      obtain ⟨w2, hw2⟩ : ∃ x, x = wr.alloc (.cells #[.int .i64 xi, .int .i64 xo, .int .i64 pl_, .int .u32 pa, .slice pA np pc] 52) := ⟨_, rfl⟩
      obtain ⟨xb, hxb⟩ : ∃ x, x = wr.heap.size := ⟨_, rfl⟩
      have X2 : Hid (Ext w1 w2) := Lib.hid (by rw [hw2]; exact XR.out.alloc _)
      have BX : Hid (Bk w2 xb 52 #[.int .i64 xi, .int .i64 xo, .int .i64 pl_, .int .u32 pa, .slice pA np pc]) := Lib.hid (by rw [hw2, hxb]; exact Bk.new _ _ _)
      rw [← hw2, ← hxb]
      clear hw2 hxb p0 p1 p2 p3 p4 b3
      have X12 := Lib.hid (X1.out.trans X2.out)
      have b0 := (BN.out.ext X12.out).cell 0
      have b1 := (BN.out.ext X12.out).cell 1
      have b2 := (BN.out.ext X12.out).cell 2
      have x0 := BX.out.cell 0
      have x1 := BX.out.cell 1
      have x2 := BX.out.cell 2
      have x3 := BX.out.cell 3
      have x4 := BX.out.cell 4
      by_cases hbad : xi < 0 ∨ (¬ xi < 0 ∧ (ins ≤ xi ∨ (¬ ins ≤ xi ∧ (xo < 0 ∨ (¬ xo < 0 ∧ (outs ≤ xo ∨ (¬ outs ≤ xo ∧ (pl_ < 0 ∨ (¬ pl_ < 0 ∧ (depth < pl_ ∨ (¬ depth < pl_ ∧ pl_ = depth ∧ 0 < pa)))))))))))
      · have hnf : nv = false := HFS.out (fun h => by omega)
        subst hnf
        rcases hbad with h1 | ⟨h1, (h2 | ⟨h2, (h3 | ⟨h3, (h4 | ⟨h4, (h5 | ⟨h5, (h6 | ⟨h6, h7, h8⟩)⟩)⟩)⟩)⟩)⟩
        · go_wp2
          go_ret
          exact ⟨rfl, X0.out.trans X12.out⟩
        · go_wp2
          go_ret
          exact ⟨rfl, X0.out.trans X12.out⟩
        · go_wp2
          go_ret
          exact ⟨rfl, X0.out.trans X12.out⟩
        · go_wp2
          go_ret
          exact ⟨rfl, X0.out.trans X12.out⟩
        · go_wp2
          go_ret
          exact ⟨rfl, X0.out.trans X12.out⟩
        · go_wp2
          go_ret
          exact ⟨rfl, X0.out.trans X12.out⟩
        · have hpd : (pl_ == depth) = true := by simp [h7]
          have HH := Lib.hid h7
          clear h7
          go_wp2
          go_ret
          exact ⟨rfl, X0.out.trans X12.out⟩
      · have hg : 0 ≤ xi ∧ xi < ins ∧ 0 ≤ xo ∧ xo < outs ∧ 0 ≤ pl_ ∧ pl_ ≤ depth ∧ ¬ (pl_ = depth ∧ 0 < pa) := by omega
        have HGD := Lib.hid hg
        have hy1 : ¬ xi < 0 := by omega
        have hy2 : ¬ ins ≤ xi := by omega
        have hy3 : ¬ xo < 0 := by omega
        have hy4 : ¬ outs ≤ xo := by omega
        have hy5 : ¬ pl_ < 0 := by omega
        have hy6 : ¬ depth < pl_ := by omega
        obtain ⟨MT, hMT⟩ : ∃ x, madeT depth ⟨pl_, pa, pe⟩ = x := ⟨_, rfl⟩
        have hM := HM.out ⟨by omega, by omega⟩
        rw [hMT] at hM HFS HIF
        have HMI := Lib.hid (fun W (_ : Ext w2 W) => (by have q := rmade_any depth pl_ pa pA np pc W; rw [hM] at q; exact q : Calls Try.prog 31 #[.int .i64 depth, .agg #[.int .i64 pl_, .int .u32 pa, .slice pA np pc]] W fun e w' => e = .returned (.int .i64 MT) ∧ Ext W w'))
        clear hbad hM hMT HM hg
        go_cut [104] from 43 to 121 (fun v wx => v = .bool false ∧ wx = w2)
        case first =>
          by_cases hpd : pl_ = depth
          · have hpb : (pl_ == depth) = true := by simp [hpd]
            have hpa : ¬ 0 < pa := fun h => HGD.out.2.2.2.2.2.2 ⟨hpd, h⟩
            clear hpd
            go_wp2_with fail
            go_meet
            case rel => exact ⟨rfl, rfl⟩
          · have hpb : (pl_ == depth) = false := by simp [hpd]
            clear hpd
            go_wp2_with fail
            go_meet
            case rel => exact ⟨rfl, rfl⟩
        case rest =>
          obtain ⟨rfl, hwc⟩ := hcut
          rw [hwc]
          clear hwc hy1 hy2 hy3 hy4 hy5 hy6
          have facts : ∀ W, Ext w2 W → W.cell? ⟨b, 2, none⟩ = some (.int .i64 depth) := fun W e => (BN.out.ext (X12.out.trans e)).cell 2
          have FC := Lib.hid facts
          clear facts
          by_cases hm3 : 3 < MT
          · have hnf : nv = false := HFS.out (fun h => by omega)
            subst hnf
            go_wp2_with (go_at_call 31; go_loud (refine (HMI.out _ (Ext.refl _)).mono ?_); rintro r w3 ⟨rfl, x3⟩; have X3 := Lib.hid x3; have c2 := FC.out _ x3; clear x3)
            go_ret
            exact ⟨rfl, X0.out.trans (X12.out.trans X3.out)⟩
          · cases t with
            | true =>
              have hin := HIF.out.2 ⟨HGD.out.1, HGD.out.2.1, HGD.out.2.2.1, HGD.out.2.2.2.1, HGD.out.2.2.2.2.1, HGD.out.2.2.2.2.2.1, HGD.out.2.2.2.2.2.2, by omega, .inl HTV.out.symm⟩
              have HNX2 := Lib.hid (HNX.out hin)
              clear hin
              go_wp2_with (go_at_call 31; go_loud (refine (HMI.out _ (Ext.refl _)).mono ?_); rintro r w3 ⟨rfl, x3⟩; have X3 := Lib.hid x3; have c2 := FC.out _ x3; clear x3)
              go_roundg (n - (i + 1))
              case measure => omega
              case rel => exact ⟨i + 1, by go_num, by omega, rfl, HNX2, Lib.hid (X2.out.trans X3.out)⟩
            | false =>
              by_cases hmd : MT = depth
              · have hmb : (MT != depth) = false := by simp [hmd]
                have hin := HIF.out.2 ⟨HGD.out.1, HGD.out.2.1, HGD.out.2.2.1, HGD.out.2.2.2.1, HGD.out.2.2.2.2.1, HGD.out.2.2.2.2.2.1, HGD.out.2.2.2.2.2.2, by omega, .inr hmd⟩
                have HNX2 := Lib.hid (HNX.out hin)
                clear hin hmd
                go_wp2_with (go_at_call 31; go_loud (refine (HMI.out _ (Ext.refl _)).mono ?_); rintro r w3 ⟨rfl, x3⟩; have X3 := Lib.hid x3; have c2 := FC.out _ x3; clear x3)
                go_roundg (n - (i + 1))
                case measure => omega
                case rel => exact ⟨i + 1, by go_num, by omega, rfl, HNX2, Lib.hid (X2.out.trans X3.out)⟩
              · have hmb : (MT != depth) = true := by simp [hmd]
                have hnf : nv = false := HFS.out (fun h => by
                  rcases h.2.2.2.2.2.2.2.2 with q | q
                  · have := HTV.out; rw [q] at this; cases this
                  · exact hmd q)
                subst hnf
                clear hmd
                go_wp2_with (go_at_call 31; go_loud (refine (HMI.out _ (Ext.refl _)).mono ?_); rintro r w3 ⟨rfl, x3⟩; have X3 := Lib.hid x3; have c2 := FC.out _ x3; clear x3)
                go_ret
                exact ⟨rfl, X0.out.trans (X12.out.trans X3.out)⟩
    · obtain rfl : n = i := by omega
      have hltz : ¬ (n : Int) < (n : Int) := by omega
      obtain rfl : nv = true := HALL.out HIN.out
      go_wp2
      go_ret
      exact ⟨rfl, X0.out.trans (X1.out.trans XR.out)⟩
end Go.Proofs.Yteklohamkmiphaa
namespace Go.Proofs.Yteklohamkmiphaa
open Go.RowKit

theorem apply_id {te : Int} {tl : List Int} (u : U32 tl) (h : tl.length ≤ 3) (he : te ≤ 18446744073709551615) : applyT idW.leave idW.add idW.enter te tl = ((te, tl), 0) := by
  unfold applyT idW
  simp only
  rw [if_neg (by omega)]
  unfold applyK
  by_cases h0 : tl.length - (0 : Int).toNat = 0
  · rw [if_pos h0, if_neg (by omega), if_neg (by decide)]
    have : tl = [] := List.eq_nil_of_length_eq_zero (by simpa using h0)
    rw [this]; simp
  · have hk : tl.length - 1 < tl.length := by have q : (0 : Int).toNat = 0 := rfl; rw [q] at h0; omega
    have := (u.getD (tl.length - 1)).2
    have e0 : tl.length - (0 : Int).toNat = tl.length := by simp
    rw [if_neg h0, e0, if_neg (by omega), if_neg (by show ¬ 3 < tl.length + 0; omega)]
    have e1 : tl.take (tl.length - 1) ++ [tl.getD (tl.length - 1) 0 + 0] ++ [] = tl := by
      rw [Int.add_zero, List.append_nil, List.getD_eq_getElem?_getD, List.getElem?_eq_getElem hk]
      show tl.take (tl.length - 1) ++ [tl[tl.length - 1]] = tl
      rw [← List.take_succ_eq_append_getElem hk, List.take_of_length_le (by omega)]
    rw [e1]
theorem apply_range {L a : Int} {m l : List Int} {e : Int} {x : Int × List Int} (h : applyT L a m e l = (x, 0)) (um : U32 m) (ul : U32 l) (a0 : 0 ≤ a) (e0 : 0 ≤ e) (e1 : e ≤ 18446744073709551615) : (0 ≤ x.1 ∧ x.1 ≤ 18446744073709551615) ∧ U32 x.2 := by
  unfold applyT at h
  by_cases c : L < 0 ∨ (l.length : Int) < L
  · rw [if_pos c] at h; simp at h
  · rw [if_neg c] at h
    unfold applyK at h
    by_cases k : l.length - L.toNat = 0
    · rw [if_pos k] at h
      split at h
      · simp at h
      · split at h
        · simp at h
        · injection h with h _
          subst h
          exact ⟨⟨by simp only; omega, by simp only; omega⟩, um⟩
    · rw [if_neg k] at h
      split at h
      · simp at h
      · split at h
        · simp at h
        · injection h with h _
          subst h
          have q := ul.getD (l.length - L.toNat - 1)
          refine ⟨⟨e0, e1⟩, fun y hy => ?_⟩
          rcases List.mem_append.1 hy with hy | hy
          · rcases List.mem_append.1 hy with hy | hy
            · exact ul y (List.mem_of_mem_take hy)
            · simp only [List.mem_cons, List.not_mem_nil, or_false] at hy
              subst hy
              exact ⟨by omega, by omega⟩
          · exact um y hy
/-- where one is, and at what time, is what a route's way does -/
def GoS (g : Gr) (fr : Pt) (te : Int) (tl : List Int) (at_ : Pt) (ne : Int) (nl : List Int) : Prop := ∃ w, Route g fr at_ w ∧ applyT w.leave w.add w.enter te tl = ((ne, nl), 0)
section
variable {g : Gr} {fr : Pt} {te : Int} {tl : List Int} {at_ : Pt} {ne : Int} {nl : List Int}
theorem GoS.start (u : U32 tl) (h : tl.length ≤ 3) (he : te ≤ 18446744073709551615) : GoS g fr te tl fr te tl := ⟨idW, .nil, apply_id u h he⟩
theorem GoS.dep (S : GoS g fr te tl at_ ne nl) (G : GOK g) (hf : (g.dep fr).isSome) : (g.dep at_).isSome := by
  obtain ⟨w, r, _⟩ := S
  exact (G.route hf r).1
theorem GoS.range (S : GoS g fr te tl at_ ne nl) (G : GOK g) (hf : (g.dep fr).isSome) (u : U32 tl) (hl : (tl.length : Int) = g.dp fr) (e0 : 0 ≤ te) (e1 : te ≤ 18446744073709551615) : (0 ≤ ne ∧ ne ≤ 18446744073709551615) ∧ U32 nl ∧ nl.length ≤ 3 := by
  obtain ⟨w, r, h⟩ := S
  have gw := (G.route hf r).2
  have q := apply_range h gw.u u gw.a0 e0 e1
  have q2 := (apply_at gw hl h).1
  simp only at q q2
  exact ⟨q.1, q.2, by have := gw.p3; omega⟩
theorem GoS.step (S : GoS g fr te tl at_ ne nl) (G : GOK g) (hf : (g.dep fr).isSome) (u : U32 tl) (hl : (tl.length : Int) = g.dp fr) (e0 : 0 ≤ te) {t : Pt} {b : Way} (s : Stp g at_ t b) {ye : Int} {yl : List Int} (h2 : applyT b.leave b.add b.enter ne nl = ((ye, yl), 0)) : GoS g fr te tl t ye yl := by
  obtain ⟨w, r, h⟩ := S
  obtain ⟨m, hm, ht, hb⟩ := stp_to s
  obtain ⟨hd, gw⟩ := G.route hf r
  obtain ⟨B, _⟩ := G.goodB hm hd
  rw [ht, hb] at B
  have bz : b.leave = g.dp at_ → b.add = 0 := fun e => by
    rcases s with ⟨_, _, rfl⟩ | ⟨ho, nd, x, hn, hx, _, _, rfl⟩
    · rfl
    · obtain ⟨hnm, _, _⟩ := Gr.nd_mem hn
      refine (G.inn nd hnm x hx).2.2.2.2.2.2.1 ?_
      rw [e]
      unfold Gr.dp
      unfold Gr.dep
      rw [hn]
      simp only [ho]
      have q := G.inn nd hnm x hx
      have q2 : at_.p = x.i := by simp_all
      rw [if_neg (by omega), if_neg (by decide), if_pos (by omega)]
      rfl
  obtain ⟨v, hv, _, ha⟩ := go_step gw B bz hl u e0 h h2
  exact ⟨v, r.go s hv, ha⟩
theorem GoS.found (S : GoS g fr te tl at_ ne nl) (G : GOK g) (hf : (g.dep fr).isSome) (u : U32 tl) (hl : (tl.length : Int) = g.dp fr) (e0 : 0 ≤ te) (e1 : te ≤ 9223372036854775807) {l : List Way} (L : LeastIs g fr at_ l) : ∃ x, x ∈ l ∧ ∃ y, applyT x.leave x.add x.enter te tl = (y, 0) ∧ leqT y.1 y.2 ne nl = true := by
  obtain ⟨w, r, h⟩ := S
  obtain ⟨K, T, _, rfl⟩ := L
  have hfd : Found g fr True at_ w := by
    cases r with
    | nil => exact .inl ⟨trivial, rfl, rfl⟩
    | step r hm hv => exact .inr ⟨_, _, _, r, hm, hv, rfl⟩
  obtain ⟨x, hx, hpl⟩ := T.cl _ _ hfd
  have gw := (G.route hf r).2
  have gx := (G.route hf (T.rt _ _ hx).route).2
  obtain ⟨y, h1, h2⟩ := go_least gx gw hpl hl u e0 e1 h
  exact ⟨x, hx, y, h1, h2⟩
end
end Go.Proofs.Yteklohamkmiphaa
namespace Go.Proofs.Yteklohamkmiphaa
open Go.ChangeShapes Go.WideShapes Go.ChangeAt Go.RowKit Go.WideElems

theorem own_knob : ownKnob Try.prog.godebug = none := by kernel_rfl
theorem laid_out : laidOutB Try.prog = true := by kernel_rfl

section
variable {H : Type} {enc : TypeId × Value → H}

/-- arguments read behind a call as they did before, where it has made new memory at most -/
theorem args_stay {P : Program} {W W' : World} (hl : laidOutB P = true) (x : Ext W W') {sp : Nat → Bool} :
    ∀ {ts : List TypeId} {vs : List Value} {ds : List (DataW H)} {ps : List MemPlace}, (ts.all fun t => P.readableRec t && decide (t < P.types.size)) = true → DataW.TrodAll enc P W 0 (fun _ => true) true ts vs ds ps →
      (∀ p ∈ ps, p.block < W.heap.size) → (∀ p ∈ ps, sp p.block = true) → DataW.TrodAll enc P W' 0 sp true ts vs ds ps
  | [], _, _, _, _, h, _, _ => by
    obtain ⟨rfl, rfl, rfl⟩ := trodAll_nil h
    exact trodAll_mk0
  | t :: ts, vs, ds, ps, hr, h, hlt, hs => by
    obtain ⟨v, vs', d, ds', p, q, rfl, rfl, rfl, h1, h2⟩ := trodAll_cons h
    simp only [List.all_cons, Bool.and_eq_true, decide_eq_true_eq] at hr
    exact trodAll_cons_mk (Trod_stays hl hr.1.1 hr.1.2 h1 (fun y hy => Below.same x (hlt y (List.mem_append_left _ hy))) (fun y hy => hs y (List.mem_append_left _ hy)))
      (args_stay hl x hr.2 h2 (fun y hy => hlt y (List.mem_append_right _ hy)) (fun y hy => hs y (List.mem_append_right _ hy)))

/-- WHAT A LAW'S ROW ASKS BEHIND THE CALL -/
theorem law_post {P : Program} {fn : Func} {s : ChangeSpec} {W W' : World} {args : Array Value} {ds gs : List (DataW H)} {before : List MemPlace} {tb : TypeId} (hl : laidOutB P = true)
    (hr : (fn.params.toList.all fun t => P.readableRec t && decide (t < P.types.size)) = true) (hrt : fn.resultTypes = #[tb]) (htb : P.underlying tb = some .bool) (hv : s.vars = [])
    (hW : DataW.Whole enc P fn.params.toList s.vars false W args.toList ds gs before) (hs : s.fn H (ds ++ gs) = { results := [.lit (.bool true)], args := ds, vars := [] }) (x : Ext W W') :
    s.post enc P fn false true false false W args (.bool true) W' := by
  have hlt : ∀ p ∈ before, p.block < W.heap.size := fun p hp => hW.lt p hp
  obtain ⟨p, q, hA, hV, hb, hz, hn⟩ := id hW
  rw [hv] at hV
  obtain ⟨rfl, rfl⟩ := trodVars_none hV
  rw [List.append_nil] at hb
  subst hb
  have hA' : ∀ sp : Nat → Bool, (∀ p ∈ before, sp p.block = true) → DataW.TrodAll enc P W' 0 sp true fn.params.toList args.toList ds before := fun sp hsp => args_stay hl x hr hA hlt hsp
  have hres : ∀ (b : Nat) (sp : Nat → Bool) (hd : Bool), DataW.TrodAll enc P W' b sp hd fn.resultTypes.toList ((Value.bool true).resultList fn.resultTypes.size) [.lit (.bool true)] [] := fun b sp hd => by
    rw [hrt]
    exact trodAll_mk1 (shut_bool htb _)
  refine ⟨ds, [], before, [], before, [], hW, ?_, ?_, ?_, World.keptBut_mono (fun p hp => ⟨hp, Or.inr (Or.inl hp)⟩) (Below.frame x (· ∈ before)), fun h => by cases h⟩
  · rw [hs]; exact hres _ _ _
  · rw [hs]; exact hA' _ (fun p hp => by simpa using hlt p hp)
  · rw [hs, hv]; exact (rfl : ([] : List MemPlace) = [])
end
end Go.Proofs.Yteklohamkmiphaa
namespace Go.Proofs.Yteklohamkmiphaa
open Go.ChangeShapes Go.WideShapes Go.ChangeAt Go.RowKit Go.WideElems

theorem wf_i64 {n : Int} (h : (Lit.int .i64 n).wf = true) : -9223372036854775808 ≤ n ∧ n ≤ 9223372036854775807 := by
  simpa [Lit.wf, IntKind.min, IntKind.max, IntKind.signed, IntKind.bits] using h
theorem wf_u32 {n : Int} (h : (Lit.int .u32 n).wf = true) : 0 ≤ n ∧ n ≤ 4294967295 := by
  simpa [Lit.wf, IntKind.min, IntKind.max, IntKind.signed, IntKind.bits] using h

section
variable {H : Type} {enc : TypeId × Value → H} {W : World}
set_option maxRecDepth 100000 in
theorem come_words {fuel : Nat} {v : Value} {y : DataW H × List MemPlace} (h : DataW.trod enc Try.prog W 0 (fun _ => true) true fuel 30 [v] = some y) :
    ∃ A n c l, v = .slice A n c ∧ Sl W 1 A n c (wds l) ∧ U32 l := by
  rcases open_ints Try.underlying30 Try.underlying45 (by kernel_rfl) h with ⟨hcs, _⟩ | ⟨a, n, c, zs, hcs, _, hnc, hcm, hzl, _, hcell, hwf⟩
  · obtain rfl : v = .slice none 0 0 := by simpa using hcs
    exact ⟨none, 0, 0, [], rfl, Sl.nil W 1, fun x hx => by cases hx⟩
  · obtain rfl : v = .slice (some a) n c := by simpa using hcs
    have hz : zs.length = c := by simpa using hzl
    refine ⟨some a, n, c, zs.take n, rfl, ⟨by simp [wds]; omega, hnc, hcm, (fun h => nomatch h), fun _ => ⟨a, rfl, fun j u hu => ?_⟩⟩, fun x hx => wf_u32 (hwf x (List.mem_of_mem_take hx))⟩
    simp only [wds, List.getElem?_map, List.getElem?_take] at hu
    split at hu
    · rename_i hj
      have hc1 := hcell j (by omega)
      rw [List.getD_eq_getElem?_getD, List.getElem?_eq_getElem (show j < zs.length by omega)] at hc1
      rw [List.getElem?_eq_getElem (show j < zs.length by omega)] at hu
      simp only [Option.map_some, Option.some.injEq] at hu
      rw [← hu]
      exact hc1
    · cases hu

end
end Go.Proofs.Yteklohamkmiphaa
