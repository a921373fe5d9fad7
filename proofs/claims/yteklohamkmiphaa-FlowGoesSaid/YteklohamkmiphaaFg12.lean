/- penstocklaw06.FlowGoes: a time that goes along a graph comes nowhere ahead of where one of the least ways lets it come. What comes in: a small number. What comes in: a list of small numbers. Conditions: each theorem states its own. -/
import Derived.Test.YteklohamkmiphaaFg10
import Derived.Test.YteklohamkmiphaaFg11
import Derived.Deep.CutBlock
namespace Go.Proofs.Yteklohamkmiphaa
open Go.RowKit

def u8C (x : Nat) : List Value := [.int .u8 x]
theorem rdepth_lit {NA : Option Addr} {Nc : Nat} {nodes : List Nm} {EA : Option Addr} {Ec : Nat} {edges : List (Pt × Pt)} {nl el : Nat} {pn : Int} {po : Bool} {pp : Int} {b : Bool} {d : Int} (w : World) (h : GrOk w NA Nc nodes EA Ec edges nl el) (hN : ∀ x ∈ nodes, nodeT x.v = true) (hb : ((Gm.v ⟨NA, Nc, nodes, EA, Ec, edges⟩).dep ⟨pn, po, pp⟩).isSome = b) (hd : d = (Gm.v ⟨NA, Nc, nodes, EA, Ec, edges⟩).dp ⟨pn, po, pp⟩) :
    Calls Try.prog 9 #[.agg #[.slice NA nl Nc, .slice EA el Ec], .agg #[.int .i64 pn, .bool po, .int .i64 pp]] w fun e w' => ∃ d', e = .returned (.tuple #[.int .i64 d', .bool b]) ∧ (b = true → d' = d) ∧ Ext w w' := by
  refine (rdepth_any NA Nc nodes EA Ec edges pn po pp nl el w (Lib.hid h.l) (Lib.hid h.g) (Lib.hid hN)).mono ?_
  rintro e w' ⟨d', rfl, h1, x⟩
  rw [hb] at h1 ⊢
  exact ⟨d', rfl, fun e => by rw [hd]; exact h1 e, x⟩
theorem port_parts {an bn ap bp : Int} {ao bo : Bool} (h : ¬ (⟨an, ao, ap⟩ : Pt) = ⟨bn, bo, bp⟩) : (an == bn) = false ∨ (an = bn ∧ (ao == bo) = false) ∨ (an = bn ∧ ao = bo ∧ (ap == bp) = false) := by
  by_cases h1 : an = bn
  · by_cases h2 : ao = bo
    · exact .inr (.inr ⟨h1, h2, by simpa using fun h3 => h (by rw [h1, h2, h3])⟩)
    · exact .inr (.inl ⟨h1, by simpa using h2⟩)
  · exact .inl (by simpa using h1)
theorem dep_node {m : Gm} {p : Pt} (h : (m.v.dep p).isSome) : ∃ q : Nat, p.n = (q : Int) ∧ q < m.nodes.length ∧ m.v.nd p.n = some (m.nodes.getD q Nm.zero).v := by
  have h1 : ¬ (p.n < 0 ∨ (m.nodes.length : Int) ≤ p.n ∨ p.p < 0) := fun e => by rw [dep_off e] at h; exact absurd h (by simp)
  have h2 : p.n.toNat < m.nodes.length := by omega
  refine ⟨p.n.toNat, by omega, h2, ?_⟩
  unfold Gr.nd
  rw [if_pos (by omega)]
  show (m.nodes.map Nm.v)[p.n.toNat]? = _
  rw [List.getElem?_map, List.getElem?_eq_getElem h2, List.getD_eq_getElem?_getD, List.getElem?_eq_getElem h2]; rfl
def ppZ : Pt × Pm := (⟨0, false, 0⟩, Pm.zero)
theorem getD_mapz {α β : Type} (f : α → β) (L : List α) (i : Nat) (a : α) : (L.map f).getD i (f a) = f (L.getD i a) := by
  rw [List.getD_eq_getElem?_getD, List.getD_eq_getElem?_getD, List.getElem?_map]
  cases L[i]? <;> rfl
set_option maxRecDepth 100000 in
set_option maxHeartbeats 8000000 in
theorem goes6_any (NA : Option Addr) (Nc : Nat) (nodes : List Nm) (EA : Option Addr) (Ec : Nat) (edges : List (Pt × Pt)) (nl el : Nat) (fn : Int) (fo : Bool) (fp : Int) (SA : Option Addr) (sl sc : Nat) (S : List Nat) (te : Int) (TA : Option Addr) (tn tc : Nat) (tl : List Int) (w : World) (hl : Hid (nl = nodes.length)) (he : Hid (el = edges.length)) (hG : Hid (GmR w ⟨NA, Nc, nodes, EA, Ec, edges⟩)) (hI : Hid (GIn ⟨NA, Nc, nodes, EA, Ec, edges⟩)) (hB : Hid (GmB ⟨NA, Nc, nodes, EA, Ec, edges⟩))
    (hS : Hid (Sl w 1 SA sl sc (S.flatMap u8C))) (hsl : Hid (sl = S.length)) (h8 : Hid (∀ x ∈ S, x ≤ 255)) (hT : Hid (Sl w 1 TA tn tc (wds tl))) (hU : Hid (U32 tl)) (ht0 : 0 ≤ te) (ht1 : te ≤ 18446744073709551615) :
    Calls Try.prog 3 #[.agg #[.slice NA nl Nc, .slice EA el Ec], .agg #[.int .i64 fn, .bool fo, .int .i64 fp], .slice SA sl sc, .agg #[.int .u64 te, .slice TA tn tc]] w fun e w' => e = .returned (.bool true) ∧ Ext w w' := by
  obtain ⟨w0, hw0⟩ : ∃ w0, w0 = ((w.alloc (.cells #[.slice NA nl Nc, .slice EA el Ec] 25)).alloc (.cells #[.int .i64 fn, .bool fo, .int .i64 fp] 27)).alloc (.cells #[.int .u64 te, .slice TA tn tc] 32) := ⟨_, rfl⟩
  obtain ⟨b, hb⟩ : ∃ b, b = w.heap.size := ⟨_, rfl⟩
  have X0 : Hid (Ext w w0) := Lib.hid (by rw [hw0]; exact (((Ext.refl w).alloc _).alloc _).alloc _)
  have BG : Hid (Bk w0 b 25 #[.slice NA nl Nc, .slice EA el Ec]) := Lib.hid (by rw [hw0, hb]; exact ((Bk.new _ _ _).alloc _).alloc _)
  have BF : Hid (Bk w0 (b + 1) 27 #[.int .i64 fn, .bool fo, .int .i64 fp]) := Lib.hid (by rw [hw0, hb]; exact (Bk.at (by simp)).alloc _)
  have BT : Hid (Bk w0 (b + 1 + 1) 32 #[.int .u64 te, .slice TA tn tc]) := Lib.hid (by rw [hw0, hb]; exact Bk.at (by simp))
  have g0 := BG.out.cell 0
  have g1 := BG.out.cell 1
  have HM := Lib.hid (much6_any NA Nc nodes EA Ec edges nl el w0 hl he (Lib.hid (hG.out.ext X0.out)) hB)
  have hsle : sl ≤ 9223372036854775807 := hS.out.le
  have htle : tn ≤ 9223372036854775807 := hT.out.le
  by_cases hs40 : 40 < sl
  · have hz : (40 : Int) < (sl : Int) := by omega
    go_enter Try.func3, Try.ntmps3
    go_upto_region 1 with fail
    rw [← hw0, ← hb]
    clear hw0 hb
    go_wp2_with (first
      | (go_at_call 6; go_loud (refine HM.out.mono ?_); rintro e w1 ⟨bb, rfl, hsm, x1⟩; have X1 := Lib.hid x1; have t1 := (BT.out.ext x1).cell 1; clear x1 hsm)
      | (go_at_call 7; go_loud (refine (known6_any _).mono ?_); rintro e w2 ⟨rfl, x2⟩; have X2 := Lib.hid (X1.out.trans x2); clear x2))
    all_goals
      go_ret
      exact ⟨rfl, X0.out.trans X2.out⟩
  by_cases ht60 : 60 < tn
  · have hz : ¬ (40 : Int) < (sl : Int) := by omega
    have hz2 : (60 : Int) < (tn : Int) := by omega
    go_enter Try.func3, Try.ntmps3
    go_upto_region 1 with fail
    rw [← hw0, ← hb]
    clear hw0 hb
    go_wp2_with (first
      | (go_at_call 6; go_loud (refine HM.out.mono ?_); rintro e w1 ⟨bb, rfl, hsm, x1⟩; have X1 := Lib.hid x1; have t1 := (BT.out.ext x1).cell 1; clear x1 hsm)
      | (go_at_call 7; go_loud (refine (known6_any _).mono ?_); rintro e w2 ⟨rfl, x2⟩; have X2 := Lib.hid (X1.out.trans x2); clear x2))
    all_goals
      go_ret
      exact ⟨rfl, X0.out.trans X2.out⟩
  have hz : ¬ (40 : Int) < (sl : Int) := by omega
  have hz2 : ¬ (60 : Int) < (tn : Int) := by omega
  go_enter Try.func3, Try.ntmps3
  go_upto_region 1 with fail
  rw [← hw0, ← hb]
  clear hw0 hb
  go_upto_if 43 with (first
    | (go_at_call 6; go_loud (refine HM.out.mono ?_); rintro e w1 ⟨bb, rfl, hsm, x1⟩; have X1 := Lib.hid x1; have HSM := Lib.hid hsm; have t1 := (BT.out.ext x1).cell 1; clear x1 hsm)
    | (go_at_call 7; go_loud (refine (known6_any _).mono ?_); rintro e w2 ⟨rfl, x2⟩; have X2 := Lib.hid (X1.out.trans x2); clear x2))
  · go_wp2_with (go_at_call 7; go_loud (refine (known6_any _).mono ?_); rintro e w2 ⟨rfl, x2⟩; have X2 := Lib.hid (X1.out.trans x2); clear x2)
    go_ret
    exact ⟨rfl, X0.out.trans X2.out⟩
  have hbb : bb = false := Bool.eq_false_iff.2 (by assumption)
  have hw60 : wtG nodes edges ≤ 60 := HSM.out hbb
  have HW60 := Lib.hid hw60
  have XW := Lib.hid (X0.out.trans X2.out)
  have K2 := small_ok (nl := nl) (el := el) hl.out he.out (hG.out.ext XW.out) hI.out HW60.out
  have HK2 := Lib.hid K2
  have c0 := (BG.out.ext X2.out).cell 0
  have c1 := (BG.out.ext X2.out).cell 1
  clear hbb HSM hw60 t1 g0 g1 hs40 ht60 K2
  rcases check_ex (Gm.v ⟨NA, Nc, nodes, EA, Ec, edges⟩) with hc | hc
  · have key : ∃ c : Int, CheckIs (Gm.v ⟨NA, Nc, nodes, EA, Ec, edges⟩) c ∧ (c != 0) = true := by
      rcases hc with hc | hc
      · exact ⟨60, hc, by decide⟩
      · exact ⟨61, hc, by decide⟩
    obtain ⟨c, hc, hne⟩ := key
    have HC := Lib.hid (check_lit HK2.out hc)
    clear hc
    go_wp2_with (go_at_call 8; go_loud (refine HC.out.mono ?_); rintro e w3 ⟨rfl, x3⟩; have X3 := Lib.hid (XW.out.trans x3); clear x3)
    go_ret
    exact ⟨rfl, X3.out⟩
  have HCI := Lib.hid hc
  have HC := Lib.hid (check_lit HK2.out hc)
  have HN := Lib.hid (nodes_ok (g := ⟨NA, Nc, nodes, EA, Ec, edges⟩) hc.form)
  have HGK : Hid (GOK (Gm.v ⟨NA, Nc, nodes, EA, Ec, edges⟩)) := Lib.hid (formT_ok hc.form HK2.out.h6.g32)
  clear hc
  obtain ⟨pb, hpb⟩ : ∃ x, ((Gm.v ⟨NA, Nc, nodes, EA, Ec, edges⟩).dep ⟨fn, fo, fp⟩).isSome = x := ⟨_, rfl⟩
  obtain ⟨d, hd⟩ : ∃ x, x = (Gm.v ⟨NA, Nc, nodes, EA, Ec, edges⟩).dp ⟨fn, fo, fp⟩ := ⟨_, rfl⟩
  have DL : Hid (∀ w1, Ext w2 w1 → Calls Try.prog 9 #[.agg #[.slice NA nl Nc, .slice EA el Ec], .agg #[.int .i64 fn, .bool fo, .int .i64 fp]] w1 fun e w' => ∃ d', e = .returned (.tuple #[.int .i64 d', .bool pb]) ∧ (pb = true → d' = d) ∧ Ext w1 w') := Lib.hid (fun w1 x => rdepth_lit w1 (HK2.out.ext x) HN.out hpb hd)
  cases pb with
  | false =>
    clear hpb hd
    go_wp2_with (first
      | (go_at_call 8; go_loud (refine HC.out.mono ?_); rintro e w3 ⟨rfl, x3⟩; have X3 := Lib.hid x3; have d0 := ((BG.out.ext X2.out).ext x3).cell 0; have d1 := ((BG.out.ext X2.out).ext x3).cell 1; have d2 := ((BF.out.ext X2.out).ext x3).cell 0; have d3 := ((BF.out.ext X2.out).ext x3).cell 1; have d4 := ((BF.out.ext X2.out).ext x3).cell 2; clear x3)
      | (go_at_call 9; go_loud (refine (DL.out _ X3.out).mono ?_); rintro e w4 ⟨d', rfl, _, x4⟩; have X4 := Lib.hid (XW.out.trans (X3.out.trans x4)); clear x4))
    go_ret
    exact ⟨rfl, X4.out⟩
  | true =>
    have HPB := Lib.hid hpb
    have HD := Lib.hid hd
    clear hpb hd
    have DY : Hid (∀ w1, Ext w2 w1 → Calls Try.prog 9 #[.agg #[.slice NA nl Nc, .slice EA el Ec], .agg #[.int .i64 fn, .bool fo, .int .i64 fp]] w1 fun e w' => e = .returned (.tuple #[.int .i64 d, .bool true]) ∧ Ext w1 w') := Lib.hid (fun w1 x => (DL.out w1 x).mono fun e w' h => by
      obtain ⟨d', h1, h2, h3⟩ := h
      rw [h1, h2 rfl]; exact ⟨rfl, h3⟩)
    clear DL
    by_cases hck : checkT te tn d = 0
    · have hcz : (checkT te tn d != 0) = false := by simpa using hck
      have hchk : 0 ≤ d ∧ d ≤ 3 ∧ (tn : Int) = d ∧ te ≤ 4611686018427387904 := by
        unfold checkT at hck
        split at hck
        · exact absurd hck (by decide)
        · omega
      have HCHK := Lib.hid hchk
      clear hck hchk
      go_upto_region 8 with (first
        | (go_at_call 8; go_loud (refine HC.out.mono ?_); rintro e w3 ⟨rfl, x3⟩; have X3 := Lib.hid x3; have d0 := ((BG.out.ext X2.out).ext x3).cell 0; have d1 := ((BG.out.ext X2.out).ext x3).cell 1; have d2 := ((BF.out.ext X2.out).ext x3).cell 0; have d3 := ((BF.out.ext X2.out).ext x3).cell 1; have d4 := ((BF.out.ext X2.out).ext x3).cell 2; clear x3)
        | (go_at_call 9; go_loud (refine (DY.out _ X3.out).mono ?_); rintro e w4 ⟨rfl, x4⟩; have X4 := Lib.hid (X3.out.trans x4); have t0 := ((BT.out.ext X2.out).ext X4.out).cell 0; have t1 := ((BT.out.ext X2.out).ext X4.out).cell 1; clear x4)
        | (go_at_call 10; go_loud (refine (rcheck_any _ _ _ _ _ _).mono ?_); rintro e w5 ⟨rfl, x5⟩; have X5 := Lib.hid (X4.out.trans x5); clear x5))
      have XB := Lib.hid (X2.out.trans X5.out)
      have XA := Lib.hid (X0.out.trans XB.out)
      have f0 := (BF.out.ext XB.out).cell 0
      have f1 := (BF.out.ext XB.out).cell 1
      have f2 := (BF.out.ext XB.out).cell 2
      have xa : Ext w5 (w5.alloc (.cells #[.int .i64 fn, .bool fo, .int .i64 fp] 27)) := (Ext.refl _).alloc _
      have t3 := (BT.out.ext (XB.out.trans xa)).cell 0
      have t4 := (BT.out.ext (XB.out.trans xa)).cell 1
      clear t1 c0 c1 hz hz2 xa
      obtain ⟨wz, hwz⟩ : ∃ x, x = (w5.alloc (.cells #[.int .i64 fn, .bool fo, .int .i64 fp] 27)).alloc (.cells #[.int .u64 te, .slice TA tn tc] 32) := ⟨_, rfl⟩
      obtain ⟨g, hg⟩ : ∃ g, g = Gm.v ⟨NA, Nc, nodes, EA, Ec, edges⟩ := ⟨_, rfl⟩
      have hdp : (g.dep ⟨fn, fo, fp⟩).isSome := by rw [hg]; exact HPB.out
      have hdd : (tl.length : Int) = g.dp ⟨fn, fo, fp⟩ := by
        have q := hT.out.1
        simp [wds] at q
        rw [hg, ← HD.out, q]
        exact HCHK.out.2.2.1
      have htn : tn = tl.length := by have q := hT.out.1; simp [wds] at q; omega
      have XZ : Hid (Ext w5 wz) := Lib.hid (by rw [hwz]; exact ((Ext.refl _).alloc _).alloc _)
      have GI0 : Hid (GoI g w5 wz w5.heap.size (w5.heap.size + 1) ⟨fn, fo, fp⟩ te tl ⟨fn, fo, fp⟩ te tl TA tn tc) := Lib.hid
        ⟨Nat.le_refl _, Nat.le_succ _, Nat.ne_of_lt (Nat.lt_succ_self _), by rw [hwz]; exact (Bk.new _ _ _).alloc _, by rw [hwz]; exact Bk.at (by simp), htn, SafeS.old (hT.out.ext XA.out) (by decide) XZ.out, XZ.out, GoS.start hU.out (by have := HCHK.out; omega) ht1⟩
      have HGV := Lib.hid hg
      have HDP := Lib.hid hdp
      have HDD := Lib.hid hdd
      have HGG : Hid (GOK g) := Lib.hid (by rw [hg]; exact HGK.out)
      have HTN := Lib.hid htn
      have HWZ := Lib.hid hwz
      clear hg hdp hdd htn hwz
      go_wp2
      rw [← HWZ.out]
      clear f0 f1 f2 t3 t4 t0
      obtain ⟨ab, hab⟩ : ∃ x, x = w5.heap.size := ⟨_, rfl⟩
      obtain ⟨nb, hnb⟩ : ∃ x, x = w5.heap.size + 1 := ⟨_, rfl⟩
      have GI1 : Hid (GoI g w5 wz ab nb ⟨fn, fo, fp⟩ te tl ⟨fn, fo, fp⟩ te tl TA tn tc) := Lib.hid (by rw [hab, hnb]; exact GI0.out)
      rw [← hab]
      have hnb2 : nb = ab + 1 := by rw [hnb, hab]
      rw [← hnb2]
      clear GI0 hab hnb hnb2
      go_loopg [13, 14, 15, 16, 17, 18, 19, 20, 21, 22, 23, 24, 25, 26] sl (fun z v _ _ _ _ _ _ _ _ _ _ _ _ _ wr => ∃ (i n c : Nat) (an : Int) (ao : Bool) (ap : Int) (ne : Int) (nw : List Int) (A : Option Addr), v = .int .i64 i ∧ i ≤ sl ∧ z = sl - i ∧ Hid (GoI g w5 wr ab nb ⟨fn, fo, fp⟩ te tl ⟨an, ao, ap⟩ ne nw A n c))
      case atStart => exact ⟨0, tn, tc, fn, fo, fp, te, tl, TA, rfl, Nat.zero_le _, rfl, GI1⟩
      case round =>
        clear GI1
        obtain ⟨i, n, c, an, ao, ap, ne, nw, A, rfl, hi, rfl, HGI⟩ := hrel
        obtain ⟨wo, hwo⟩ : ∃ wo : World, wo = wr := ⟨_, rfl⟩
        rw [← hwo] at HGI ⊢
        clear hwo
        by_cases hlt : i < sl
        · have hltz : (i : Int) < (sl : Int) := by omega
          have hel9 := HK2.out.e9
          have KO := Lib.hid (HK2.out.ext (X5.out.trans HGI.out.ex))
          have BGO := Lib.hid (BG.out.ext (XB.out.trans HGI.out.ex))
          have hdat := HGI.out.st.dep HGG.out HDP.out
          rw [HGV.out] at hdat
          obtain ⟨q, hq, hqn, hqd⟩ := dep_node hdat
          simp only at hq hqn
          subst hq
          have HQD := Lib.hid hqd
          clear hdat hqd
          have TB0 : Hid (ToBy g ⟨q, ao, ap⟩ w5 wo wo 0 none 0 none 0 []) := Lib.hid ToBy.nil
          go_wp2
          go_loopg [14, 15, 16] el (fun z v14 v15 v16 wr => ∃ (k n c1 c2 : Nat) (A1 A2 : Option Addr) (L : List (Pt × Pm)), v14 = .slice A1 n c1 ∧ v15 = .slice A2 n c2 ∧ v16 = .int .i64 k ∧ n ≤ k ∧ k ≤ el ∧ z = el - k ∧ Hid (ToBy g ⟨q, ao, ap⟩ w5 wo wr n A1 c1 A2 c2 L))
          case atStart => exact ⟨0, 0, 0, 0, none, none, [], rfl, rfl, rfl, Nat.le_refl _, Nat.zero_le _, rfl, TB0⟩
          case round =>
            clear TB0
            obtain ⟨k, m, c1, c2, A1, A2, L, rfl, rfl, rfl, hmk, hk, rfl, HT2⟩ := hrel
            have XR := Lib.hid HT2.out.ex
            have k1 := (BGO.out.ext XR.out).cell 1
            by_cases hkl : k < el
            · have hkz : (k : Int) < (el : Int) := by omega
              have hkL : k < edges.length := by rw [← he.out]; exact hkl
              obtain ⟨ad, hEA, e0, e1, e2, e3, e4, e5⟩ := (KO.out.ext XR.out).g.eat hkL
              simp only at hEA
              subst hEA
              have hmem := getD_mem' edZ hkL
              obtain ⟨⟨⟨en, eo, ep⟩, ⟨dn, d_, dp⟩⟩, hee⟩ : ∃ e, edges.getD k edZ = e := ⟨_, rfl⟩
              simp only at e0 e1 e2 e3 e4 e5
              rw [hee] at e0 e1 e2 e3 e4 e5 hmem
              simp only at e0 e1 e2 e3 e4 e5
              have hmg : ((⟨en, eo, ep⟩, ⟨dn, d_, dp⟩) : Pt × Pt) ∈ g.edges := by rw [HGV.out]; exact hmem
              have HMG := Lib.hid hmg
              have hm9 : m ≤ 1000 := by have := KO.out.e9; omega
              have a0 := (HGI.out.bk1.ext XR.out).cell 0
              have a1 := (HGI.out.bk1.ext XR.out).cell 1
              have a2 := (HGI.out.bk1.ext XR.out).cell 2
              clear hee hmem hmg hkL
              by_cases hea : (⟨en, eo, ep⟩ : Pt) = ⟨q, ao, ap⟩
              · injection hea with h1 h2 h3
                have h1 := h1.symm
                have h2 := h2.symm
                have h3 := h3.symm
                subst h1 h2 h3
                go_upto_region 18 with fail
                go_quiet (fail)
                obtain ⟨wD, hwD⟩ : ∃ x, x = wr.drewN nq := ⟨_, rfl⟩
                rw [← hwD]
                have xD : Ext wr wD := by rw [hwD]; exact (Ext.refl _).drewN _
                have k1 := (BGO.out.ext (XR.out.trans xD)).cell 1
                have e3 := xD.cell e3
                have e4 := xD.cell e4
                have e5 := xD.cell e5
                have T1 := Lib.hid (HT2.out.ext (xD.alloc (.cells #[.int .i64 dn, .bool d_, .int .i64 dp] 27)))
                have S1 := Lib.hid (Sl.one wD #[.int .i64 dn, .bool d_, .int .i64 dp] 27 3 rfl)
                have hb1 := T1.out.ex.size
                have HO := Lib.hid (HGG.out.ed _ HMG.out).1
                clear hwD xD
                go_upto_region 20 with (at_builtin; go_loud (refine wpList_append_two _ elem_pt wo.heap.size _ _ rfl rfl A1 m c1 ((L.map Prod.fst).flatMap ptC) rfl T1.out.tt (some ⟨wD.heap.size, 0, none⟩) 1 1 [.int .i64 dn, .bool d_, .int .i64 dp] rfl S1.out (by intro u hu; simp only [List.mem_cons, List.not_mem_nil, or_false] at hu; rcases hu with rfl | rfl | rfl <;> rfl) (by omega) (by decide) hb1 ?_); intro A3 c3 w4 o4 g4 x4; have O4 := Lib.hid o4; have G4 := Lib.hid g4; clear o4 g4 x4)
                clear e0 e1 e2 e3 e4 e5 k1 a0 a1 a2 hb1
                have x4 := T1.out.ex.grown G4.out (fun k hk => (T1.out.tt.lt k hk).1)
                have V4 := Lib.hid ((own_other T1.out.via T1.out.tt (by decide) G4.out).alloc (.cells #[.int .i64 0, .int .u32 0, .slice none 0 0] 47))
                have S2 := Lib.hid (Sl.one w4 #[.int .i64 0, .int .u32 0, .slice none 0 0] 47 3 rfl)
                have hb2 := (x4.alloc (.cells #[.int .i64 0, .int .u32 0, .slice none 0 0] 47)).size
                clear x4
                go_wp2_with (at_builtin; go_loud (refine wpList_append_two _ elem_pm wo.heap.size _ _ rfl rfl A2 m c2 ((L.map Prod.snd).flatMap pmC) rfl V4.out (some ⟨w4.heap.size, 0, none⟩) 1 1 [.int .i64 0, .int .u32 0, .slice none 0 0] rfl S2.out (by intro u hu; simp only [List.mem_cons, List.not_mem_nil, or_false] at hu; rcases hu with rfl | rfl | rfl <;> rfl) (by omega) (by decide) hb2 ?_); intro A6 c6 w6_ o6 g6 x6; have O6 := Lib.hid o6; have G6 := Lib.hid g6; clear o6 g6 x6)
                go_roundg (el - (k + 1))
                case measure => omega
                case rel => exact ⟨k + 1, m + 1, c3, c6, A3, A6, L ++ [(⟨dn, d_, dp⟩, Pm.zero)], rfl, rfl, by go_num, by omega, by omega, rfl, Lib.hid (T1.out.push (t := ⟨dn, d_, dp⟩) (b := Pm.zero) G4.out O4.out ((Ext.refl _).alloc _) G6.out O6.out ⟨.inl ⟨HO.out, HMG.out, rfl⟩, Sl.nil _ _, ⟨Int.le_refl _, by decide⟩, by decide⟩)⟩
              · have hpp := port_parts hea
                clear hea
                rcases hpp with h1 | ⟨h1, h2⟩ | ⟨h1, h2, h3⟩
                all_goals
                  go_upto_region 18 with fail
                  go_quiet (fail)
                  go_wp2
                  go_roundg (el - (k + 1))
                  case measure => omega
                  case rel => exact ⟨k + 1, m, c1, c2, A1, A2, L, rfl, rfl, by go_num, by omega, by omega, rfl, Lib.hid (HT2.out.ext ((Ext.refl _).drewN _))⟩
            · obtain rfl : el = k := by omega
              have hkz : ¬ (el : Int) < (el : Int) := by omega
              have M0 := Lib.hid HT2
              obtain ⟨ad, hNA, n0, n1, n2, n3⟩ := KO.out.g.nat hqn
              simp only at hNA n0 n1 n2 n3
              subst hNA
              have hmemN := getD_mem' Nm.zero hqn
              have hNR := KO.out.g.nd _ hmemN
              obtain ⟨⟨nin, nou, nde, iA, ic, inner⟩, hnn⟩ : ∃ e, nodes.getD q Nm.zero = e := ⟨_, rfl⟩
              rw [hnn] at n3 hmemN hNR
              simp only at n3
              have hw1 := sum_mem wtN hmemN
              obtain ⟨ni, hni⟩ : ∃ n, n = inner.length := ⟨_, rfl⟩
              rw [← hni] at n3
              have hni60 : ni ≤ 60 := by
                have e1 : wtN ⟨nin, nou, nde, iA, ic, inner⟩ = inner.length + (inner.map wtP).sum := rfl
                have := HW60.out
                unfold wtG at this
                omega
              have HNR := Lib.hid hNR
              have HNS := Lib.hid ((HK2.out.ext X5.out).g.nd _ hmemN)
              have HN6 := Lib.hid (HK2.out.h6.nd _ hmemN)
              have HNI := Lib.hid hni
              have N3 := Lib.hid n3
              have HNN := Lib.hid hnn
              have hmk9 : m ≤ 1000 := by have := KO.out.e9; omega
              clear n0 n1 n2 n3 hmemN hNR hnn hw1 hni
              obtain ⟨w6, hw6⟩ : ∃ x : World, x = wr := ⟨_, rfl⟩
              clear M0
              rw [← hw6] at HT2 XR k1 ⊢
              clear hw6
              go_upto_region 21 with fail
              go_upto_block 4 with fail
              clear k1
              go_cut [14, 15, 17] from 98 to 159 (fun v14 v15 v17 wx => ∃ (m c1 c2 : Nat) (A1 A2 : Option Addr) (L : List (Pt × Pm)), v14 = .slice A1 m c1 ∧ v15 = .slice A2 m c2 ∧ m ≤ 2000 ∧ Hid (ToBy g ⟨q, ao, ap⟩ w5 wo wx m A1 c1 A2 c2 L))
              case first =>
                go_wp2_with fail
                go_loopg [14, 15, 17] ni (fun z v14 v15 v17 wr => ∃ (k m c1 c2 : Nat) (A1 A2 : Option Addr) (L : List (Pt × Pm)), v14 = .slice A1 m c1 ∧ v15 = .slice A2 m c2 ∧ v17 = .int .i64 k ∧ m ≤ 1000 + k ∧ k ≤ ni ∧ (ao = true → k = 0) ∧ z = ni - k ∧ Hid (ToBy g ⟨q, ao, ap⟩ w5 wo wr m A1 c1 A2 c2 L))
                case atStart => exact ⟨0, m, c1, c2, A1, A2, L, rfl, rfl, rfl, hmk9, Nat.zero_le _, fun _ => rfl, rfl, HT2⟩
                case round =>
                  clear HT2 XR hmk9 hmk hk
                  obtain ⟨k, m, c1, c2, A1, A2, L, rfl, rfl, rfl, hm9, hk, hk0, rfl, HT3⟩ := hrel
                  have XR3 := Lib.hid HT3.out.ex
                  have g0 := (BGO.out.ext XR3.out).cell 0
                  have a0 := (HGI.out.bk1.ext XR3.out).cell 0
                  have a1 := (HGI.out.bk1.ext XR3.out).cell 1
                  have a2 := (HGI.out.bk1.ext XR3.out).cell 2
                  have n3 := XR3.out.cell N3.out
                  have hqz : (q : Int) < (nl : Int) := by have := hl.out; omega
                  cases ao with
                  | true =>
                    obtain rfl : k = 0 := hk0 rfl
                    by_cases hni : 0 < ni
                    · have hnz : (0 : Int) < (ni : Int) := by omega
                      go_wp2_with fail
                      go_meet
                      case rel => exact ⟨m, c1, c2, A1, A2, L, rfl, rfl, by omega, HT3⟩
                    · have hnz : ¬ (0 : Int) < (ni : Int) := by omega
                      go_wp2_with fail
                      go_meet
                      case rel => exact ⟨m, c1, c2, A1, A2, L, rfl, rfl, by omega, HT3⟩
                  | false =>
                    clear hk0
                    by_cases hkl : k < ni
                    · have hnz : (k : Int) < (ni : Int) := by omega
                      have hkL : k < inner.length := by rw [← HNI.out]; exact hkl
                      obtain ⟨ai, hiA, i0, i1, i2, i3, i4⟩ := HNR.out.at hkL
                      simp only at hiA i0 i1 i2 i3 i4
                      subst hiA
                      have hmemI := getD_mem' Im.zero hkL
                      obtain ⟨⟨xi, xo, ⟨pA, pc, ⟨pl, pa, pe⟩⟩⟩, hx⟩ : ∃ e, inner.getD k Im.zero = e := ⟨_, rfl⟩
                      rw [hx] at i0 i1 i2 i3 i4 hmemI
                      simp only at i0 i1 i2 i3 i4
                      obtain ⟨np, hnp⟩ : ∃ n, n = pe.length := ⟨_, rfl⟩
                      rw [← hnp] at i4
                      have I0 := Lib.hid i0
                      have I1 := Lib.hid i1
                      have I2 := Lib.hid i2
                      have I3 := Lib.hid i3
                      have I4 := Lib.hid i4
                      have HMI := Lib.hid hmemI
                      have HNP := Lib.hid hnp
                      have HPW : Hid (PmR w5 (⟨pA, pc, ⟨pl, pa, pe⟩⟩ : Pm) ∧ (0 ≤ pa ∧ pa ≤ 4294967295) ∧ pe.length ≤ 1000000) := Lib.hid ⟨HNS.out.ls _ hmemI, (HN6.out.inn _ hmemI).2.2.2.1, (HN6.out.inn _ hmemI).2.2.2.2.2⟩
                      clear hx hnp hmemI i0 i1 i2 i3 i4 hkL
                      have i0 := XR3.out.cell I0.out
                      by_cases hin : xi = ap
                      · subst hin
                        go_upto_region 24 with fail
                        go_quiet (fail)
                        obtain ⟨wD, hwD⟩ : ∃ x, x = wr.drewN nq := ⟨_, rfl⟩
                        rw [← hwD]
                        have xD : Ext wr wD := by rw [hwD]; exact (Ext.refl _).drewN _
                        have XD := Lib.hid (XR3.out.trans xD)
                        have HT4 := Lib.hid (HT3.out.ext xD)
                        clear hwD xD
                        have xd : Ext wo wD.drew := XD.out.trans (Ext.refl wD).drew
                        have g0 : ∀ y : Xt wD.drew, y.W.cell? ⟨b, 0, none⟩ = some (.slice (some ad) nl Nc) := fun y => (BGO.out.ext (xd.trans y.x)).cell 0
                        have a0 : ∀ y : Xt wD.drew, y.W.cell? ⟨ab, 0, none⟩ = some (.int .i64 q) := fun y => (HGI.out.bk1.ext (xd.trans y.x)).cell 0
                        have n3 : ∀ y : Xt wD.drew, y.W.cell? ⟨(ad.add (q * 4)).block, (ad.add (q * 4)).off + 3, none⟩ = some (.slice (some ai) ni ic) := fun y => (xd.trans y.x).cell N3.out
                        have i1 : ∀ y : Xt wD.drew, y.W.cell? ⟨(ai.add (k * 5)).block, (ai.add (k * 5)).off + 1, none⟩ = some (.int .i64 xo) := fun y => (xd.trans y.x).cell I1.out
                        go_upto_region 25 with fail
                        refine wp_region_ord [0,0,2,0,8,0,32,120,248,504,0,2040,4088,8184,16382,32766,65535,131071] (.pur [0] (.flo [1,2,3,4,5,6,7,8,9,10,11,12,13,14] (.one 15 (.one 16 (.flo [17] (.fin)))))) (by kernel_rfl) (by kernel_rfl) (by intro _ _ d _ _ h; cases d <;> exact h) ?_
                        (refine ord_pur (pick_cons rfl pick_nil) ?_; (repeat (go_big_quiet_step (fail))); refine wpQuiet_nil ?_; show ordWalk _ _ _ _ _ _ _)
                        (refine ord_flo (pick_cons rfl (pick_cons rfl (pick_cons rfl (pick_cons rfl (pick_cons rfl (pick_cons rfl (pick_cons rfl (pick_cons rfl (pick_cons rfl (pick_cons rfl (pick_cons rfl (pick_cons rfl (pick_cons rfl (pick_cons rfl pick_nil)))))))))))))) ?_; (repeat (go_big_quiet_step (fail))); refine wpQuiet_nil ?_; show ordWalk _ _ _ _ _ _ _)
                        refine ord_one (pick_cons rfl pick_nil) ?_; intro K_ hK_
                        go_wp2
                        clear g0 a0 n3 i1 xd
                        obtain ⟨wE, hwE⟩ : ∃ x, x = (wD.alloc (.cells #[.int .i64 q, .bool true, .int .i64 xo] 27)).drew := ⟨_, rfl⟩
                        have xE : Ext wD wE := by rw [hwE]; exact ((Ext.refl _).alloc _).drew
                        have T1 := Lib.hid (HT4.out.ext xE)
                        have S1 : Hid (Sl wE 3 (some ⟨wD.heap.size, 0, none⟩) 1 1 [.int .i64 q, .bool true, .int .i64 xo]) := Lib.hid (by rw [hwE]; exact (Sl.one wD #[.int .i64 q, .bool true, .int .i64 xo] 27 3 rfl).ext (Ext.refl _).drew)
                        have hb1 := T1.out.ex.size
                        rw [← hwE]
                        clear hwE xE
                        refine ord_one (pick_cons rfl pick_nil) ?_; intro K_ hK_
                        go_wp2_with (at_builtin; go_loud (refine wpList_append_two _ elem_pt wo.heap.size _ _ rfl rfl A1 m c1 ((L.map Prod.fst).flatMap ptC) rfl T1.out.tt (some ⟨wD.heap.size, 0, none⟩) 1 1 [.int .i64 q, .bool true, .int .i64 xo] rfl S1.out (by intro u hu; simp only [List.mem_cons, List.not_mem_nil, or_false] at hu; rcases hu with rfl | rfl | rfl <;> rfl) (by omega) (by decide) hb1 ?_); intro A3 c3 w4 o4 g4 x4; have O4 := Lib.hid o4; have G4 := Lib.hid g4; clear o4 g4 x4)
                        go_simp
                        (refine ord_flo (pick_cons rfl pick_nil) ?_; (repeat (go_big_quiet_step (fail))); refine wpQuiet_nil ?_; show ordWalk _ _ _ _ _ _ _)
                        refine ord_fin ?_
                        go_upto_region 26 with fail
                        have x4 := T1.out.ex.grown G4.out (fun k hk => (T1.out.tt.lt k hk).1)
                        have g0 := (BGO.out.ext x4).cell 0
                        have a0 := (HGI.out.bk1.ext x4).cell 0
                        have n3 := x4.cell N3.out
                        have i2 := x4.cell I2.out
                        have i3 := x4.cell I3.out
                        have i4 := x4.cell I4.out
                        have V4 := Lib.hid ((own_other T1.out.via T1.out.tt (by decide) G4.out).alloc (.cells #[.int .i64 pl, .int .u32 pa, .slice pA np pc] 47))
                        have S2 := Lib.hid (Sl.one w4 #[.int .i64 pl, .int .u32 pa, .slice pA np pc] 47 3 rfl)
                        have hb2 := (x4.alloc (.cells #[.int .i64 pl, .int .u32 pa, .slice pA np pc] 47)).size
                        clear x4
                        go_wp2_with (at_builtin; go_loud (refine wpList_append_two _ elem_pm wo.heap.size _ _ rfl rfl A2 m c2 ((L.map Prod.snd).flatMap pmC) rfl V4.out (some ⟨w4.heap.size, 0, none⟩) 1 1 [.int .i64 pl, .int .u32 pa, .slice pA np pc] rfl S2.out (by intro u hu; simp only [List.mem_cons, List.not_mem_nil, or_false] at hu; rcases hu with rfl | rfl | rfl <;> rfl) (by omega) (by decide) hb2 ?_); intro A6 c6 w6_ o6 g6 x6; have O6 := Lib.hid o6; have G6 := Lib.hid g6; clear o6 g6 x6)
                        have HST9 : Hid (Stp g ⟨q, false, xi⟩ ⟨q, true, xo⟩ ⟨pl, pa, pe⟩) := Lib.hid (.inr ⟨rfl, (nodes.getD q Nm.zero).v, (⟨xi, xo, ⟨pA, pc, ⟨pl, pa, pe⟩⟩⟩ : Im).v, by rw [HGV.out]; exact HQD.out, by
                          show _ ∈ (nodes.getD q Nm.zero).inner.map Im.v
                          rw [HNN.out]
                          exact List.mem_map.2 ⟨_, HMI.out, rfl⟩, rfl, rfl, rfl⟩)
                        go_roundg (ni - (k + 1))
                        case measure => omega
                        case rel => exact ⟨k + 1, m + 1, c3, c6, A3, A6, L ++ [(⟨q, true, xo⟩, ⟨pA, pc, ⟨pl, pa, pe⟩⟩)], rfl, rfl, by go_num, by omega, by omega, fun e => (nomatch e), rfl, Lib.hid (T1.out.push (t := ⟨q, true, xo⟩) (b := ⟨pA, pc, ⟨pl, pa, pe⟩⟩) G4.out O4.out ((Ext.refl _).alloc _) G6.out (by have q6 := O6.out; rw [HNP.out] at q6; exact q6) ⟨HST9.out, HPW.out⟩)⟩
                      · have hinb : (xi == ap) = false := by simpa using hin
                        clear hin
                        go_upto_region 24 with fail
                        go_quiet (fail)
                        go_wp2
                        go_roundg (ni - (k + 1))
                        case measure => omega
                        case rel => exact ⟨k + 1, m, c1, c2, A1, A2, L, rfl, rfl, by go_num, by omega, by omega, fun e => (nomatch e), rfl, Lib.hid (HT3.out.ext ((Ext.refl _).drewN _))⟩
                    · obtain rfl : ni = k := by omega
                      have hnz : ¬ (ni : Int) < (ni : Int) := by omega
                      go_wp2_with fail
                      go_meet
                      case rel => exact ⟨m, c1, c2, A1, A2, L, rfl, rfl, by omega, HT3⟩
              case rest =>
                clear HT2 XR hmk9
                obtain ⟨m, c1, c2, A1, A2, L, rfl, rfl, hm2, HT3⟩ := hcut
                obtain ⟨w7, hw7⟩ : ∃ x : World, x = wc := ⟨_, rfl⟩
                rw [← hw7] at HT3 ⊢
                clear hw7
                have X7 := Lib.hid HT3.out.ex
                have X57 := Lib.hid (HGI.out.ex.trans X7.out)
                by_cases hm0 : m = 0
                · subst hm0
                  go_wp2
                  go_ret
                  exact ⟨rfl, XA.out.trans X57.out⟩
                have hmb : ((m : Int) == 0) = false := by simpa using hm0
                have hiS : i < S.length := by rw [← hsl.out]; exact hlt
                obtain ⟨sa, hSA, s0, _⟩ := els_at u8C 1 (fun _ => rfl) 0 (hS.out.ext (XA.out.trans X57.out)) hsl.out hiS (by omega)
                subst hSA
                have s0 := s0 _ rfl
                simp only [Nat.mul_one] at s0
                obtain ⟨sv, hsv⟩ : ∃ x, S.getD i 0 = x := ⟨_, rfl⟩
                rw [hsv] at s0
                have hsv9 : sv ≤ 255 := by rw [← hsv]; exact h8.out _ (getD_mem' 0 hiS)
                obtain ⟨j, hj⟩ : ∃ x, x = sv % m := ⟨_, rfl⟩
                have hjm : j < m := by rw [hj]; exact Nat.mod_lt _ (by omega)
                have hr1 : Int.tmod (sv : Int) (m : Int) = (j : Int) := by rw [hj]; exact IntWalk.up_tmod rfl rfl
                have hr0 : wrap64 (sv : Int) = (sv : Int) := IntWalk.wrap64_in _ ⟨by omega, by omega⟩
                have hr2 : (sv : Int) % (m : Int) = (j : Int) := by rw [hj]; rfl
                have hjz : (j : Int) < (m : Int) := by omega
                clear hj
                have hjL : j < L.length := by rw [← HT3.out.ln]; exact hjm
                obtain ⟨pa_, hA2, p0, p1⟩ := els_at pmC 3 pmC_len (Prod.snd ppZ) HT3.out.via.sl (by rw [List.length_map]; exact HT3.out.ln) (i := j) (by rw [List.length_map]; exact hjL) (by omega)
                obtain ⟨ta_, hA1, t0, t1⟩ := els_at ptC 3 ptC_len (Prod.fst ppZ) HT3.out.tt.sl (by rw [List.length_map]; exact HT3.out.ln) (i := j) (by rw [List.length_map]; exact hjL) (by omega)
                subst hA1 hA2
                have hst := HT3.out.st _ (getD_mem' ppZ hjL)
                rw [getD_mapz] at p0 p1 t0 t1
                obtain ⟨⟨⟨yn, yo, yp⟩, ⟨bA, bc, ⟨bl, ba, be⟩⟩⟩, hLj⟩ : ∃ e, L.getD j ppZ = e := ⟨_, rfl⟩
                rw [hLj] at p0 p1 t0 t1 hst
                have p2 := p1 1 _ rfl
                have p1 := p1 0 _ rfl
                have p0 := p0 _ rfl
                have t2 := t1 1 _ rfl
                have t1 := t1 0 _ rfl
                have t0 := t0 _ rfl
                simp only at p0 p1 p2 t0 t1 t2 hst
                obtain ⟨bn, hbn⟩ : ∃ x, x = be.length := ⟨_, rfl⟩
                rw [← hbn] at p2
                have HST := Lib.hid hst
                have HBN := Lib.hid hbn
                have P0 := Lib.hid p0
                have P1 := Lib.hid p1
                have P2 := Lib.hid p2
                have T0 := Lib.hid t0
                have T1 := Lib.hid t1
                have T2 := Lib.hid t2
                have HJM := Lib.hid hjm
                clear hst hbn p0 p1 p2 t0 t1 t2 hLj hsv hiS hjL
                have Q0 := Lib.hid ((HGI.out.bk2.ext X7.out).cell 0)
                have Q1 := Lib.hid ((HGI.out.bk2.ext X7.out).cell 1)
                have HRG := Lib.hid (HGI.out.st.range HGG.out HDP.out hU.out HDD.out ht0 ht1)
                obtain ⟨jr, hjr⟩ : ∃ jr, applyT bl ba be ne nw = jr := ⟨_, rfl⟩
                obtain ⟨⟨ye, yl⟩, rc⟩ := jr
                obtain ⟨ny, hny⟩ : ∃ x, x = yl.length := ⟨_, rfl⟩
                have HAP : Hid (∀ W, Ext w7 W → Calls Try.prog 11 #[.agg #[.int .i64 bl, .int .u32 ba, .slice bA bn bc], .agg #[.int .u64 ne, .slice A n c]] W fun r w' => ∃ A3 c3, r = .returned (.tuple #[.agg #[.int .u64 ye, .slice A3 ny c3], .int .i64 rc]) ∧ Own w' W.heap.size 45 1 A3 ny c3 (wds yl) ∧ Ext W w') := Lib.hid (fun W z => by
                  have h1 : Sl W 1 bA bn bc (wds be) := by rw [HBN.out]; exact HST.out.2.1.ext (X57.out.trans z)
                  have := rapply_any bl ba bA A bn n bc c be nw ne W h1 (HGI.out.now.1.ext (X7.out.trans z)) HRG.out.2.1 HST.out.2.2.1 HRG.out.1 (by rw [HBN.out]; exact HST.out.2.2.2) (by rw [HGI.out.ln]; have := HRG.out.2.2; omega)
                  rw [hjr] at this
                  rw [hny]
                  exact this)
                have HJR := Lib.hid hjr
                have HNY := Lib.hid hny
                clear hjr hny
                have XE : Ext w7 w7.drew := (Ext.refl w7).drew
                have p0 : ∀ y : Xt w7.drew, y.W.cell? (pa_.add (j * 3)) = some (.int .i64 bl) := fun y => (XE.trans y.x).cell P0.out
                have p1 : ∀ y : Xt w7.drew, y.W.cell? ⟨(pa_.add (j * 3)).block, (pa_.add (j * 3)).off + 1, none⟩ = some (.int .u32 ba) := fun y => (XE.trans y.x).cell P1.out
                have p2 : ∀ y : Xt w7.drew, y.W.cell? ⟨(pa_.add (j * 3)).block, (pa_.add (j * 3)).off + 2, none⟩ = some (.slice bA bn bc) := fun y => (XE.trans y.x).cell P2.out
                have q0 : ∀ y : Xt w7.drew, y.W.cell? ⟨nb, 0, none⟩ = some (.int .u64 ne) := fun y => (XE.trans y.x).cell Q0.out
                have q1 : ∀ y : Xt w7.drew, y.W.cell? ⟨nb, 1, none⟩ = some (.slice A n c) := fun y => (XE.trans y.x).cell Q1.out
                go_upto_region 30 with fail
                go_cut [19, 20] from 64 to 224 (fun s1 s2 wx => ∃ (gq : Nat) (A3 : Option Addr) (c3 : Nat), s1 = .pointer (some ⟨gq, 0, none⟩) ∧ s2 = .int .i64 rc ∧ Hid (w7.heap.size ≤ gq) ∧ Hid (Ext w7 wx) ∧ Hid (Bk wx gq 32 #[.int .u64 ye, .slice A3 ny c3]) ∧ Hid (Own wx w7.heap.size 45 1 A3 ny c3 (wds yl)))
                case first =>
                  refine wp_region_ord [0,0,3,7,0,31,63,127,127,0,767,2047] (.flo [0,1,2,3,4] (.both 5 9 (.flo [6,7] (.pur [8] (.ext 9 (.one 10 (.flo [11] (.fin)))))) (.ext 5 (.flo [6,7] (.pur [8] (.one 10 (.flo [11] (.fin)))))))) (by kernel_rfl) (by kernel_rfl) (by intro _ _ d _ _ h; cases d <;> exact h) ?_
                  (refine ord_flo (pick_cons rfl (pick_cons rfl (pick_cons rfl (pick_cons rfl (pick_cons rfl pick_nil))))) ?_; (repeat (go_big_quiet_step (fail))); refine wpQuiet_nil ?_; show ordWalk _ _ _ _ _ _ _)
                  refine ord_both (pick_cons rfl pick_nil) (pick_cons rfl pick_nil) ?_ ?_ <;> intro K_ hK_
                  · go_wp2_with (go_at_call 11; go_loud (refine (HAP.out _ XE).mono ?_); rintro r w3 ⟨A3, c3, rfl, o3, x3⟩)
                    refine ordNext.mk x3 ?_
                    (refine ord_flo (pick_cons rfl (pick_cons rfl pick_nil)) ?_; (repeat (go_big_quiet_step (fail))); refine wpQuiet_nil ?_; show ordWalk _ _ _ _ _ _ _)
                    (refine ord_pur (pick_cons rfl pick_nil) ?_; (repeat (go_big_quiet_step (fail))); refine wpQuiet_nil ?_; show ordWalk _ _ _ _ _ _ _)
                    refine ord_ext (pick_cons rfl pick_nil) ?_; intro K_ hK_
                    go_wp2
                    refine ordNext.mk ((Ext.refl _).alloc _) ?_
                    have bz : Bk (w3.alloc (.cells #[.int .u64 0, .slice none 0 0] 32)) w3.heap.size 32 #[.int .u64 0, .slice none 0 0] := Bk.new _ _ _
                    have d0 := bz.cell 0
                    have d1 := bz.cell 1
                    have d2 := bz.free 0
                    have d3 := bz.free 1
                    refine ord_one (pick_cons rfl pick_nil) ?_; intro K_ hK_
                    go_wp2
                    (refine ord_flo (pick_cons rfl pick_nil) ?_; (repeat (go_big_quiet_step (fail))); refine wpQuiet_nil ?_; show ordWalk _ _ _ _ _ _ _)
                    refine ord_fin ?_
                    go_wp2_with fail
                    go_meet
                    case rel => exact ⟨_, A3, c3, rfl, rfl, Lib.hid (Nat.le_trans XE.size x3.size), Lib.hid ((XE.trans x3).alloc _), Lib.hid (Bk.new _ _ _), Lib.hid ((o3.mono XE.size).alloc _)⟩
                  · go_wp2
                    refine ordNext.mk ((Ext.refl _).alloc _) ?_
                    obtain ⟨w2_, hw2_⟩ : ∃ w2_, w2_ = (w7.alloc (.cells #[.int .u64 0, .slice none 0 0] 32)).drew := ⟨_, rfl⟩
                    have b2 : Bk w2_ w7.heap.size 32 #[.int .u64 0, .slice none 0 0] := by subst hw2_; exact (Bk.new _ _ _).drew
                    have x2 : Ext w7.drew w2_ := by subst hw2_; exact (Ext.refl w7.drew).alloc _
                    rw [← hw2_]
                    clear hw2_
                    have hb2 := b2.lt
                    refine ord_ext (pick_cons rfl pick_nil) ?_; intro K_ hK_
                    go_wp2_with (go_at_call 11; go_loud (refine (HAP.out _ (XE.trans x2)).mono ?_); rintro r w3 ⟨A3, c3, rfl, o3, x3⟩)
                    refine ordNext.mk x3 ?_
                    have bz := b2.ext x3
                    have d0 := bz.cell 0
                    have d1 := bz.cell 1
                    have d2 := bz.free 0
                    have d3 := bz.free 1
                    (refine ord_flo (pick_cons rfl (pick_cons rfl pick_nil)) ?_; (repeat (go_big_quiet_step (fail))); refine wpQuiet_nil ?_; show ordWalk _ _ _ _ _ _ _)
                    (refine ord_pur (pick_cons rfl pick_nil) ?_; (repeat (go_big_quiet_step (fail))); refine wpQuiet_nil ?_; show ordWalk _ _ _ _ _ _ _)
                    refine ord_one (pick_cons rfl pick_nil) ?_; intro K_ hK_
                    go_wp2
                    (refine ord_flo (pick_cons rfl pick_nil) ?_; (repeat (go_big_quiet_step (fail))); refine wpQuiet_nil ?_; show ordWalk _ _ _ _ _ _ _)
                    refine ord_fin ?_
                    go_wp2_with fail
                    go_meet
                    case rel =>
                      have hgw : w7.heap.size ≤ w7.heap.size := Nat.le_refl _
                      exact ⟨_, A3, c3, rfl, rfl, Lib.hid hgw, Lib.hid ((((XE.trans x2).trans x3).set hgw _).set hgw _), Lib.hid ((bz.set 0 _).set 1 _), Lib.hid (((o3.far (o3.ne hb2) _).far (o3.ne hb2) _).mono (Nat.le_trans XE.size x2.size))⟩
                case rest =>
                  clear p0 p1 p2 q0 q1 XE
                  obtain ⟨gq, A3, c3, rfl, rfl, HGQ, XC, BC, OC⟩ := hcut
                  by_cases hrc : ¬ rc = 0
                  · have hrb : (rc != 0) = true := by simpa using hrc
                    clear hrc
                    go_wp2
                    go_ret
                    exact ⟨rfl, XA.out.trans (X57.out.trans XC.out)⟩
                  obtain rfl : rc = 0 := by omega
                  clear hrc
                  have hst2 := HGI.out.st.step HGG.out HDP.out hU.out HDD.out ht0 HST.out.1 HJR.out
                  have HI7 := Lib.hid (HGI.out.ext (X7.out.trans XC.out))
                  have HMV := Lib.hid (HI7.out.move HNY.out (OC.out.mono X57.out.size) hst2)
                  have z0 := BC.out.cell 0
                  have z1 := BC.out.cell 1
                  have t0 := XC.out.cell T0.out
                  have t1 := XC.out.cell T1.out
                  have t2 := XC.out.cell T2.out
                  have f0 := HI7.out.bk1.free 0
                  have f1 := HI7.out.bk1.free 1
                  have f2 := HI7.out.bk1.free 2
                  have f3 := HI7.out.bk2.free 0
                  have f4 := HI7.out.bk2.free 1
                  have a0 := HI7.out.bk1.cell 0
                  have a1 := HI7.out.bk1.cell 1
                  have a2 := HI7.out.bk1.cell 2
                  have b0 := HI7.out.bk2.cell 0
                  have b1 := HI7.out.bk2.cell 1
                  have hga : gq ≠ ab := by have e1 := HGI.out.bk1.lt; have e2 := X7.out.size; have e3 := HGQ.out; omega
                  have hgb : gq ≠ nb := by have e1 := HGI.out.bk2.lt; have e2 := X7.out.size; have e3 := HGQ.out; omega
                  have hab : ab ≠ nb := HGI.out.dif
                  have hjz : (j : Int) < (m : Int) := by have := HJM.out; omega
                  clear hst2
                  cases yo with
                  | true =>
                    go_wp2
                    go_roundg (sl - (i + 1))
                    case measure => omega
                    case rel => exact ⟨i + 1, ny, c3, yn, true, yp, ye, yl, A3, by go_num, by omega, rfl, HMV⟩
                  | false =>
                    go_upto_region 36 with fail
                    obtain ⟨w8, hw8⟩ : ∃ x, x = ((((wc.setCell ⟨ab, 0, none⟩ (.int .i64 yn)).setCell ⟨ab, 1, none⟩ (.bool false)).setCell ⟨ab, 2, none⟩ (.int .i64 yp)).setCell ⟨nb, 0, none⟩ (.int .u64 ye)).setCell ⟨nb, 1, none⟩ (.slice A3 ny c3) := ⟨_, rfl⟩
                    rw [← hw8] at HMV ⊢
                    clear hw8 z0 z1 t0 t1 t2 f0 f1 f2 f3 f4 a0 a1 a2 b0 b1 hga hgb hab hjz s0 hr0 hr1 hr2
                    have X58 := Lib.hid HMV.out.ex
                    have g0 := ((BG.out.ext XB.out).ext X58.out).cell 0
                    have g1 := ((BG.out.ext XB.out).ext X58.out).cell 1
                    have e0 := ((BF.out.ext XB.out).ext X58.out).cell 0
                    have e1 := ((BF.out.ext XB.out).ext X58.out).cell 1
                    have e2 := ((BF.out.ext XB.out).ext X58.out).cell 2
                    have a0 := HMV.out.bk1.cell 0
                    have a1 := HMV.out.bk1.cell 1
                    have a2 := HMV.out.bk1.cell 2
                    have HTO := Lib.hid (HMV.out.st.dep HGG.out HDP.out)
                    have HWY : Hid (Calls Try.prog 12 #[.agg #[.slice (some ad) nl Nc, .slice EA el Ec], .agg #[.int .i64 fn, .bool fo, .int .i64 fp], .agg #[.int .i64 yn, .bool false, .int .i64 yp]] w8 fun e w' => ∃ (A' : Option Addr) (c' n' : Nat) (M : List Pm), e = .returned (.tuple #[.slice A' n' c', .int .u16 0]) ∧ n' = M.length ∧ LeastIs g ⟨fn, fo, fp⟩ ⟨yn, false, yp⟩ (M.map Pm.w) ∧ Sl w' 3 A' n' c' (M.flatMap pmC) ∧ (∀ x ∈ M, PmR w' x) ∧ n' ≤ 1263007198127 ∧ Ext w8 w') := Lib.hid ((fways_any (some ad) Nc nodes EA Ec edges nl el fn fo fp yn false yp w8 (Lib.hid (HK2.out.ext (X5.out.trans X58.out)))).mono fun e w' h => by
                      obtain ⟨A', c', n', M, z, h1, h2, h3, h4, h5, h6, h7⟩ := h
                      rcases h3 with ⟨k1, k2, _⟩ | ⟨_, k2, _⟩ | ⟨_, _, k3, k4⟩
                      · exact absurd (k1.unique HCI.out) k2
                      · exact absurd ⟨by rw [← HGV.out]; exact HDP.out, by rw [← HGV.out]; exact HTO.out, rfl⟩ k2
                      · subst k3
                        exact ⟨A', c', n', M, h1, h2, by rw [HGV.out]; exact k4, h4, h5, h6, h7⟩)
                    go_upto_region 40 with (go_at_call 12; go_loud (refine HWY.out.mono ?_); rintro e w9 ⟨WA, Wc, Wn, M, rfl, hWn, hLI, hWS, hWP, hW9, x9⟩; have HWN := Lib.hid hWn; have HLI := Lib.hid hLI; have HWS := Lib.hid hWS; have HWP := Lib.hid hWP; have X9 := Lib.hid x9; clear hWn hLI hWS hWP x9)
                    have hfo := HMV.out.st.found HGG.out HDP.out hU.out HDD.out ht0 (by have := HCHK.out; omega) HLI.out
                    have HNU := Lib.hid (least_num HGG.out HDP.out HLI.out)
                    obtain ⟨wy, hwy, y9, hy1, hy2⟩ := hfo
                    obtain ⟨j0, hj0, hwj⟩ := List.getElem_of_mem hwy
                    rw [List.length_map] at hj0
                    have HW0 : Hid (applyT (M.getD j0 Pm.zero).w.leave (M.getD j0 Pm.zero).w.add (M.getD j0 Pm.zero).w.enter te tl = (y9, 0) ∧ leqT y9.1 y9.2 ye yl = true) := Lib.hid (by
                      have e9 : (M.getD j0 Pm.zero).w = wy := by
                        rw [← hwj, List.getElem_map, List.getD_eq_getElem?_getD, List.getElem?_eq_getElem hj0]; rfl
                      rw [e9]; exact ⟨hy1, hy2⟩)
                    have HJ0 := Lib.hid (show j0 < Wn by rw [HWN.out]; exact hj0)
                    clear hwy hy1 hy2 hwj hj0 g0 g1 e0 e1 e2 a0 a1 a2 HWY
                    go_wp2
                    go_loopg [23, 24, 25, 26] Wn (fun z v23 v24 _ _ wr => ∃ (f : Bool) (jj : Nat), v23 = .bool f ∧ v24 = .int .i64 jj ∧ jj ≤ Wn ∧ z = Wn - jj ∧ Hid (f = true ∨ jj ≤ j0) ∧ Hid (Ext w9 wr))
                    case atStart => exact ⟨false, 0, rfl, rfl, Nat.zero_le _, rfl, Lib.hid (.inr (Nat.zero_le _)), Lib.hid (Ext.refl _)⟩
                    case round =>
                      obtain ⟨f, jj, rfl, rfl, hjj, rfl, HF, XV⟩ := hrel
                      obtain ⟨wv, hwv⟩ : ∃ x : World, x = wr := ⟨_, rfl⟩
                      rw [← hwv] at XV ⊢
                      clear hwv
                      by_cases hjl : jj < Wn
                      · have hjz : (jj : Int) < (Wn : Int) := by omega
                        have hML : jj < M.length := by rw [← HWN.out]; exact hjl
                        obtain ⟨pw, hWA, p0, p1⟩ := els_at pmC 3 pmC_len Pm.zero (HWS.out.ext XV.out) HWN.out hML (by omega)
                        subst hWA
                        have hmm := getD_mem' Pm.zero hML
                        have hpr := HWP.out _ hmm
                        have hnu := HNU.out _ (List.mem_map.2 ⟨_, hmm, rfl⟩)
                        have hw0 : jj = j0 → applyT (M.getD jj Pm.zero).w.leave (M.getD jj Pm.zero).w.add (M.getD jj Pm.zero).w.enter te tl = (y9, 0) ∧ leqT y9.1 y9.2 ye yl = true := fun e => by rw [e]; exact HW0.out
                        obtain ⟨⟨xA, xc, ⟨xl, xa, xe⟩⟩, hx⟩ : ∃ e, M.getD jj Pm.zero = e := ⟨_, rfl⟩
                        rw [hx] at p0 p1 hpr hnu hw0
                        have p2 := p1 1 _ rfl
                        have p1 := p1 0 _ rfl
                        have p0 := p0 _ rfl
                        simp only at p0 p1 p2 hnu hw0
                        obtain ⟨xn, hxn⟩ : ∃ x, x = xe.length := ⟨_, rfl⟩
                        rw [← hxn] at p2
                        have HXN := Lib.hid hxn
                        have HPR := Lib.hid hpr
                        have HNU2 := Lib.hid hnu
                        have P0 := Lib.hid p0
                        have P1 := Lib.hid p1
                        have P2 := Lib.hid p2
                        obtain ⟨jr, hjr⟩ : ∃ jr, applyT xl xa xe te tl = jr := ⟨_, rfl⟩
                        rw [hjr] at hw0
                        obtain ⟨⟨ze, zl⟩, zc⟩ := jr
                        have HJJ : Hid (jj = j0 → zc = 0 ∧ leqT ze zl ye yl = true) := Lib.hid (fun e => by
                          obtain ⟨k1, k2⟩ := hw0 e
                          injection k1 with k1 k3
                          rw [← k1] at k2
                          exact ⟨k3, k2⟩)
                        obtain ⟨nz, hnz⟩ : ∃ x, x = zl.length := ⟨_, rfl⟩
                        have Q0 := Lib.hid (((BT.out.ext XB.out).ext (X58.out.trans (X9.out.trans XV.out))).cell 0)
                        have Q1 := Lib.hid (((BT.out.ext XB.out).ext (X58.out.trans (X9.out.trans XV.out))).cell 1)
                        have HAP2 : Hid (∀ W, Ext wv W → Calls Try.prog 11 #[.agg #[.int .i64 xl, .int .u32 xa, .slice xA xn xc], .agg #[.int .u64 te, .slice TA tn tc]] W fun r w' => ∃ A4 c4, r = .returned (.tuple #[.agg #[.int .u64 ze, .slice A4 nz c4], .int .i64 zc]) ∧ Own w' W.heap.size 45 1 A4 nz c4 (wds zl) ∧ Ext W w') := Lib.hid (fun W z => by
                          have h1 : Sl W 1 xA xn xc (wds xe) := by rw [HXN.out]; exact HPR.out.ext (XV.out.trans z)
                          have := rapply_any xl xa xA TA xn tn xc tc xe tl te W h1 (hT.out.ext (XA.out.trans (X58.out.trans (X9.out.trans (XV.out.trans z))))) hU.out HNU2.out.1 ⟨ht0, ht1⟩ (by rw [HXN.out]; have := HNU2.out.2; omega) (by have := HCHK.out; omega)
                          rw [hjr] at this
                          rw [hnz]
                          exact this)
                        have HNZ := Lib.hid hnz
                        clear hjr hnz hw0 hxn hpr hnu p0 p1 p2 hx hmm hML
                        have XE : Ext wv wv.drew := (Ext.refl wv).drew
                        have p0 : ∀ y : Xt wv.drew, y.W.cell? (pw.add (jj * 3)) = some (.int .i64 xl) := fun y => (XE.trans y.x).cell P0.out
                        have p1 : ∀ y : Xt wv.drew, y.W.cell? ⟨(pw.add (jj * 3)).block, (pw.add (jj * 3)).off + 1, none⟩ = some (.int .u32 xa) := fun y => (XE.trans y.x).cell P1.out
                        have p2 : ∀ y : Xt wv.drew, y.W.cell? ⟨(pw.add (jj * 3)).block, (pw.add (jj * 3)).off + 2, none⟩ = some (.slice xA xn xc) := fun y => (XE.trans y.x).cell P2.out
                        have q0 : ∀ y : Xt wv.drew, y.W.cell? ⟨b + 1 + 1, 0, none⟩ = some (.int .u64 te) := fun y => (XE.trans y.x).cell Q0.out
                        have q1 : ∀ y : Xt wv.drew, y.W.cell? ⟨b + 1 + 1, 1, none⟩ = some (.slice TA tn tc) := fun y => (XE.trans y.x).cell Q1.out
                        go_upto_region 43 with fail
                        go_cut [25, 26] from 198 to 222 (fun s1 s2 wx => ∃ (g4 : Nat) (A4 : Option Addr) (c4 : Nat), s1 = .pointer (some ⟨g4, 0, none⟩) ∧ s2 = .int .i64 zc ∧ Hid (wv.heap.size ≤ g4) ∧ Hid (Ext wv wx) ∧ Hid (Bk wx g4 32 #[.int .u64 ze, .slice A4 nz c4]) ∧ Hid (Own wx wv.heap.size 45 1 A4 nz c4 (wds zl)))
                        case first =>
                          refine wp_region_ord [0,0,3,7,0,31,63,127,127,0,767,2047] (.flo [0,1,2,3,4] (.both 5 9 (.flo [6,7] (.pur [8] (.ext 9 (.one 10 (.flo [11] (.fin)))))) (.ext 5 (.flo [6,7] (.pur [8] (.one 10 (.flo [11] (.fin)))))))) (by kernel_rfl) (by kernel_rfl) (by intro _ _ d _ _ h; cases d <;> exact h) ?_
                          (refine ord_flo (pick_cons rfl (pick_cons rfl (pick_cons rfl (pick_cons rfl (pick_cons rfl pick_nil))))) ?_; (repeat (go_big_quiet_step (fail))); refine wpQuiet_nil ?_; show ordWalk _ _ _ _ _ _ _)
                          refine ord_both (pick_cons rfl pick_nil) (pick_cons rfl pick_nil) ?_ ?_ <;> intro K_ hK_
                          · go_wp2_with (go_at_call 11; go_loud (refine (HAP2.out _ XE).mono ?_); rintro r w3 ⟨A4, c4, rfl, o3, x3⟩)
                            refine ordNext.mk x3 ?_
                            (refine ord_flo (pick_cons rfl (pick_cons rfl pick_nil)) ?_; (repeat (go_big_quiet_step (fail))); refine wpQuiet_nil ?_; show ordWalk _ _ _ _ _ _ _)
                            (refine ord_pur (pick_cons rfl pick_nil) ?_; (repeat (go_big_quiet_step (fail))); refine wpQuiet_nil ?_; show ordWalk _ _ _ _ _ _ _)
                            refine ord_ext (pick_cons rfl pick_nil) ?_; intro K_ hK_
                            go_wp2
                            refine ordNext.mk ((Ext.refl _).alloc _) ?_
                            have bz : Bk (w3.alloc (.cells #[.int .u64 0, .slice none 0 0] 32)) w3.heap.size 32 #[.int .u64 0, .slice none 0 0] := Bk.new _ _ _
                            have d0 := bz.cell 0
                            have d1 := bz.cell 1
                            have d2 := bz.free 0
                            have d3 := bz.free 1
                            refine ord_one (pick_cons rfl pick_nil) ?_; intro K_ hK_
                            go_wp2
                            (refine ord_flo (pick_cons rfl pick_nil) ?_; (repeat (go_big_quiet_step (fail))); refine wpQuiet_nil ?_; show ordWalk _ _ _ _ _ _ _)
                            refine ord_fin ?_
                            go_wp2_with fail
                            go_meet
                            case rel => exact ⟨_, A4, c4, rfl, rfl, Lib.hid (Nat.le_trans XE.size x3.size), Lib.hid ((XE.trans x3).alloc _), Lib.hid (Bk.new _ _ _), Lib.hid ((o3.mono XE.size).alloc _)⟩
                          · go_wp2
                            refine ordNext.mk ((Ext.refl _).alloc _) ?_
                            obtain ⟨w2_, hw2_⟩ : ∃ w2_, w2_ = (wv.alloc (.cells #[.int .u64 0, .slice none 0 0] 32)).drew := ⟨_, rfl⟩
                            have b2 : Bk w2_ wv.heap.size 32 #[.int .u64 0, .slice none 0 0] := by subst hw2_; exact (Bk.new _ _ _).drew
                            have x2 : Ext wv.drew w2_ := by subst hw2_; exact (Ext.refl wv.drew).alloc _
                            rw [← hw2_]
                            clear hw2_
                            have hb2 := b2.lt
                            refine ord_ext (pick_cons rfl pick_nil) ?_; intro K_ hK_
                            go_wp2_with (go_at_call 11; go_loud (refine (HAP2.out _ (XE.trans x2)).mono ?_); rintro r w3 ⟨A4, c4, rfl, o3, x3⟩)
                            refine ordNext.mk x3 ?_
                            have bz := b2.ext x3
                            have d0 := bz.cell 0
                            have d1 := bz.cell 1
                            have d2 := bz.free 0
                            have d3 := bz.free 1
                            (refine ord_flo (pick_cons rfl (pick_cons rfl pick_nil)) ?_; (repeat (go_big_quiet_step (fail))); refine wpQuiet_nil ?_; show ordWalk _ _ _ _ _ _ _)
                            (refine ord_pur (pick_cons rfl pick_nil) ?_; (repeat (go_big_quiet_step (fail))); refine wpQuiet_nil ?_; show ordWalk _ _ _ _ _ _ _)
                            refine ord_one (pick_cons rfl pick_nil) ?_; intro K_ hK_
                            go_wp2
                            (refine ord_flo (pick_cons rfl pick_nil) ?_; (repeat (go_big_quiet_step (fail))); refine wpQuiet_nil ?_; show ordWalk _ _ _ _ _ _ _)
                            refine ord_fin ?_
                            go_wp2_with fail
                            go_meet
                            case rel =>
                              have hgw : wv.heap.size ≤ wv.heap.size := Nat.le_refl _
                              exact ⟨_, A4, c4, rfl, rfl, Lib.hid hgw, Lib.hid ((((XE.trans x2).trans x3).set hgw _).set hgw _), Lib.hid ((bz.set 0 _).set 1 _), Lib.hid (((o3.far (o3.ne hb2) _).far (o3.ne hb2) _).mono (Nat.le_trans XE.size x2.size))⟩
                        case rest =>
                          clear p0 p1 p2 q0 q1 XE
                          obtain ⟨g4, A4, c4, rfl, rfl, HGQ4, XC4, BC4, OC4⟩ := hcut
                          have z0 := BC4.out.cell 0
                          have z1 := BC4.out.cell 1
                          have b0 := (HMV.out.bk2.ext (X9.out.trans (XV.out.trans XC4.out))).cell 0
                          have b1 := (HMV.out.bk2.ext (X9.out.trans (XV.out.trans XC4.out))).cell 1
                          have HLQ := Lib.hid (rleq_any ze ye A4 A3 nz ny c4 c3 zl yl wc OC4.out.sl (HMV.out.now.1.ext (X9.out.trans (XV.out.trans XC4.out))))
                          cases f with
                          | true =>
                            go_wp2
                            go_roundg (Wn - (jj + 1))
                            case measure => omega
                            case rel => exact ⟨true, jj + 1, rfl, by go_num, by omega, rfl, Lib.hid (.inl rfl), Lib.hid (XV.out.trans XC4.out)⟩
                          | false =>
                            have hjj0 : jj ≤ j0 := by
                              rcases HF.out with h | h
                              · exact nomatch h
                              · exact h
                            have HJB := Lib.hid hjj0
                            clear hjj0
                            by_cases hz : zc = 0
                            · subst hz
                              obtain ⟨bb, hbb⟩ : ∃ x, leqT ze zl ye yl = x := ⟨_, rfl⟩
                              rw [hbb] at HLQ HJJ
                              clear hbb
                              go_wp2_with (go_at_call 13; go_loud (refine HLQ.out.mono ?_); rintro r wl ⟨rfl, xl9⟩; have XL9 := Lib.hid xl9; clear xl9)
                              go_roundg (Wn - (jj + 1))
                              case measure => omega
                              case rel =>
                                refine ⟨bb, jj + 1, rfl, by go_num, by omega, rfl, Lib.hid ?_, Lib.hid (XV.out.trans (XC4.out.trans XL9.out))⟩
                                by_cases e : jj = j0
                                · exact .inl (HJJ.out e).2
                                · exact .inr (by have := HJB.out; omega)
                            · have hzb : (zc == 0) = false := by simpa using hz
                              have hne : jj ≠ j0 := fun e => hz (HJJ.out e).1
                              have HNE := Lib.hid hne
                              clear hz hne
                              go_wp2
                              go_roundg (Wn - (jj + 1))
                              case measure => omega
                              case rel => exact ⟨false, jj + 1, rfl, by go_num, by omega, rfl, Lib.hid (.inr (by have := HJB.out; have := HNE.out; omega)), Lib.hid (XV.out.trans XC4.out)⟩
                      · obtain rfl : Wn = jj := by omega
                        have hjz : ¬ (Wn : Int) < (Wn : Int) := by omega
                        obtain rfl : f = true := by
                          rcases HF.out with h | h
                          · exact h
                          · have := HJ0.out; omega
                        go_wp2
                        go_roundg (sl - (i + 1))
                        case measure => omega
                        case rel => exact ⟨i + 1, ny, c3, yn, false, yp, ye, yl, A3, by go_num, by omega, rfl, Lib.hid (HMV.out.ext (X9.out.trans XV.out))⟩
        · obtain rfl : sl = i := by omega
          have hlz : ¬ (sl : Int) < (sl : Int) := by omega
          go_wp2
          go_ret
          exact ⟨rfl, XA.out.trans HGI.out.ex⟩
    · have hcz : (checkT te tn d != 0) = true := by simpa using hck
      clear hck
      go_wp2_with (first
        | (go_at_call 8; go_loud (refine HC.out.mono ?_); rintro e w3 ⟨rfl, x3⟩; have X3 := Lib.hid x3; have d0 := ((BG.out.ext X2.out).ext x3).cell 0; have d1 := ((BG.out.ext X2.out).ext x3).cell 1; have d2 := ((BF.out.ext X2.out).ext x3).cell 0; have d3 := ((BF.out.ext X2.out).ext x3).cell 1; have d4 := ((BF.out.ext X2.out).ext x3).cell 2; clear x3)
        | (go_at_call 9; go_loud (refine (DY.out _ X3.out).mono ?_); rintro e w4 ⟨rfl, x4⟩; have X4 := Lib.hid (X3.out.trans x4); have t0 := ((BT.out.ext X2.out).ext X4.out).cell 0; have t1 := ((BT.out.ext X2.out).ext X4.out).cell 1; clear x4)
        | (go_at_call 10; go_loud (refine (rcheck_any _ _ _ _ _ _).mono ?_); rintro e w5 ⟨rfl, x5⟩; have X5 := Lib.hid (XW.out.trans (X4.out.trans x5)); clear x5))
      go_ret
      exact ⟨rfl, X5.out⟩
end Go.Proofs.Yteklohamkmiphaa
namespace Go.Proofs.Yteklohamkmiphaa
open Go.ChangeShapes Go.WideShapes Go.ChangeAt Go.RowKit Go.WideElems

section
variable {H : Type} {enc : TypeId × Value → H} {W : World}
theorem wf_u8n {n : Int} (h : (Lit.int .u8 n).wf = true) : 0 ≤ n ∧ n ≤ 255 := by
  simpa [Lit.wf, IntKind.min, IntKind.max, IntKind.signed, IntKind.bits] using h
end
end Go.Proofs.Yteklohamkmiphaa
namespace Go.Proofs.Yteklohamkmiphaa
open Go.ChangeShapes Go.WideShapes Go.ChangeAt Go.RowKit Go.WideElems

section
variable {H : Type} {enc : TypeId × Value → H} {W : World}
set_option maxRecDepth 100000 in
theorem come_u8s {base : Nat} {v : Value} {d : DataW H} {p : List MemPlace} (hv : Value.okWide Try.prog W .any base 28 v) (h : DataW.Trod enc Try.prog W 0 (fun _ => true) true 28 v d p) :
    ∃ A c L, v = .slice A (List.length L) c ∧ Sl W 1 A (List.length L) c (L.flatMap u8C) ∧ ∀ x ∈ L, x ≤ 255 := by
  obtain ⟨A', n', c', rfl⟩ := okWide_slice Try.underlying28 hv
  obtain ⟨fuel, hf⟩ := h
  exact come_list Try.underlying28 (by kernel_rfl) (by decide) u8C (fun _ => rfl) 0 (R := fun x => x ≤ 255) (fun _ cs y q => by
    obtain ⟨n, e, _, hw⟩ := DataW.trod_int Try.underlying5 q
    have := wf_u8n hw
    obtain ⟨m, rfl⟩ : ∃ m : Nat, n = m := ⟨n.toNat, by omega⟩
    exact ⟨m, e, by omega⟩) hf
end
end Go.Proofs.Yteklohamkmiphaa
