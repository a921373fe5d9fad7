/- flow.steps. flow.All under way, in memory. A sift in memory: what stands at each point. flow.rounds$1. flow.rounds: what stands at each point. flow.rounds. Conditions: each theorem states its own. -/
import Derived.Test.YteklohamkmiphaaFa6
import Derived.Test.YteklohamkmiphaaFa4
import Derived.Deep.LoopGhost
import Derived.Test.YteklohamkmiphaaFa8
import Derived.Test.YteklohamkmiphaaFa7
namespace Go.Proofs.Yteklohamkmiphaa
open Go.RowKit

theorem sl_kept {w w' : World} {size n c kb : Nat} {A : Option Addr} {xs : List Value} (h : Sl w size A n c xs) (g : w.grownBy w' (some kb)) (hn : ∀ k, blk A c = some k → k ≠ kb) : Sl w' size A n c xs :=
  h.upd ((Upd.refl (fun k => k = kb) w).grown g (fun k hk => .inl (by injection hk with hk; exact hk.symm))) (fun k hk e => hn k hk e)
/-- one more step at a place -/
theorem steps_push {w0 wa w1 w2 w3 : World} {kb ck ck1 : Nat} {L L1 L3 : List Pe} {t : List (Pt × Sm)} {q : Pt} {x : Sm} {A A' : Option Addr} {c c' n : Nat} {v : Value} (h : MpL spC 6 99 w0 wa kb L ck (sel t)) (e0 : Ext w0 wa) (hn : n = (sel t q).length) (hv : (getE L q).getD nilS = .slice A n c) (hbk : blkV (getE L q) = blk A c) (hvv : v = .slice A n c) (m1 : TM w1 kb L1 ck1) (p1 : Put L q v L1) (g1 : wa.grownBy w1 (some kb))
    (g2 : w1.grownBy w2 (blk A c)) (o : Own w2 w0.heap.size 99 6 A' (n + 1) c' ((sel t q).flatMap spC ++ spC x)) (hb : (A' = A ∧ c' = c) ∨ (blk A' c' = some w1.heap.size ∧ Ext w1 w2)) (m3 : TM w3 kb L3 ck1) (p3 : Put L1 q (.slice A' (n + 1) c') L3) (g3 : w2.grownBy w3 (some kb)) :
    MpL spC 6 99 w0 w3 kb L3 ck1 (sel (t ++ [(q, x)])) ∧ Ext w0 w3 ∧ L3.length ≤ L.length + 2 := by
  subst hn
  have u : Upd (fun k => blk A c = some k) w1 w2 := (Upd.refl _ w1).grown g2 (fun k hk => .inl hk)
  refine ⟨?_, upd_ext0 e0 (h.frame hbk g1 u g3) (fun k hk => (h.lt hk).1), by have h1 := p1.len; have h2 := p3.len; omega⟩
  rw [sel_push]
  refine h.push hv hbk m1 (by rw [hv, ← hvv]; exact p1) g1 u o (fun k hk => ?_) m3 p3 g3
  rcases hb with ⟨e1, e2⟩ | ⟨e1, _⟩
  · rw [e1, e2] at hk; exact .inl hk
  · rw [e1] at hk; exact .inr (Nat.le_of_eq (Option.some.inj hk))
/-- what flow.steps leaves -/
def StepsOut (w : World) (g : Gm) (e : Ending) (w' : World) : Prop := ∃ kb L ck, e = .returned (.map (some kb)) ∧ MpL spC 6 99 w w' kb L ck (sel (allS g)) ∧ Ext w w' ∧ L.length ≤ 2 * (allS g).length
theorem StepsOut.st {w w' : World} {g : Gm} {e : Ending} (h : StepsOut w g e w') (G : GOK g.v) (hG : GmR w g) (hb : (allS g).length ≤ 1000) : ∃ kb, e = .returned (.map (some kb)) ∧ StR w' kb g.v ∧ Ext w w' := by
  obtain ⟨kb, L, ck, rfl, m, x, hl⟩ := h
  refine ⟨kb, rfl, ⟨L, ck, m.tm, fun q => ?_, by omega⟩, x⟩
  obtain ⟨A, c, h1, h2, _⟩ := m.ls q
  have hv := steps_mvs g G q
  cases hq : getE L q with
  | none =>
    rw [hq] at h1
    injection h1 with _ h3 _
    have h4 : sel (allS g) q = [] := List.eq_nil_of_length_eq_zero h3.symm
    rw [h4] at hv
    exact .inl ⟨rfl, List.map_eq_nil_iff.1 hv.symm⟩
  | some v =>
    rw [hq] at h1
    refine .inr ⟨A, c, sel (allS g) q, by rw [show v = _ from h1], h2.sl, fun s hs => ?_, hv⟩
    unfold sel at hs
    obtain ⟨y, hy, rfl⟩ := List.mem_map.1 hs
    have hy := (List.mem_filter.1 hy).1
    unfold allS at hy
    rcases List.mem_append.1 hy with hy | hy
    · obtain ⟨e, _, rfl⟩ := List.mem_map.1 hy
      exact Sl.nil _ _
    · have key : ∀ (ns : List Nm) (k : Nat), y ∈ nodesS k ns → (∀ n ∈ ns, NmR w n) → PmR w y.2.b := by
        intro ns
        induction ns with
        | nil => intro k h _; cases h
        | cons n ns ih =>
          intro k h hn
          rcases List.mem_append.1 h with h | h
          · obtain ⟨x, hx, rfl⟩ := List.mem_map.1 h
            exact (hn n List.mem_cons_self).ls x hx
          · exact ih (k + 1) h (fun m hm => hn m (List.mem_cons_of_mem _ hm))
      exact (key _ _ hy hG.nd).ext x
theorem takeE {α : Type} {L : List α} {i : Nat} (z : α) (h : i < L.length) : L.take (i + 1) = L.take i ++ [L.getD i z] := by
  rw [List.take_succ_eq_append_getElem h, List.getD_eq_getElem?_getD, List.getElem?_eq_getElem h]; rfl
set_option maxRecDepth 100000 in
set_option maxHeartbeats 4000000 in
theorem steps_any (NA : Option Addr) (Nc : Nat) (nodes : List Nm) (EA : Option Addr) (Ec : Nat) (edges : List (Pt × Pt)) (nl el : Nat) (w : World) (hl : Hid (nl = nodes.length)) (he : Hid (el = edges.length)) (hG : Hid (GmR w ⟨NA, Nc, nodes, EA, Ec, edges⟩)) (h6 : Hid (G64 ⟨NA, Nc, nodes, EA, Ec, edges⟩)) (hbig : Hid ((allS ⟨NA, Nc, nodes, EA, Ec, edges⟩).length ≤ 1000000)) (hnn : nl ≤ 1000000) :
    Calls Try.prog 24 #[.agg #[.slice NA nl Nc, .slice EA el Ec]] w (StepsOut w ⟨NA, Nc, nodes, EA, Ec, edges⟩) := by
  have hmm := @run_makeMap Try.prog
  have hel : el ≤ 9223372036854775807 := by rw [he.out]; exact hG.out.es.le
  go_enter Try.func24, Try.ntmps24
  go_upto_region 2 with fail
  obtain ⟨w0, hw0⟩ : ∃ w0, w0 = w.alloc (.cells #[.slice NA nl Nc, .slice EA el Ec] 25) := ⟨_, rfl⟩
  have X0 : Hid (Ext w w0) := Lib.hid (by rw [hw0]; exact (Ext.refl w).alloc _)
  have B0 : Hid (Bk w0 w.heap.size 25 #[.slice NA nl Nc, .slice EA el Ec]) := Lib.hid (by rw [hw0]; exact Bk.new _ _ _)
  have hs0 : w.heap.size + 1 = w0.heap.size := by rw [hw0]; simp
  rw [← hw0, hs0]
  obtain ⟨bg, hbg⟩ : ∃ b, b = w.heap.size := ⟨_, rfl⟩
  rw [← hbg] at B0 ⊢
  have HBG : Hid (w.heap.size ≤ w0.heap.size) := Lib.hid (by omega)
  have M0 := Lib.hid (MpL.made (enc := spC) (sz := 6) (T := 99) w0)
  have E0 : Hid (Ext w0 (w0.alloc (.map #[] 0))) := Lib.hid ((Ext.refl w0).alloc _)
  have c0 := (B0.out.ext E0.out).cell 1
  clear hw0 hs0 hbg
  go_wp2
  clear c0
  go_loopg [5, 15] el (fun gg _ s15 wr => ∃ (i : Nat) (L : List Pe) (ck : Nat), s15 = .int .i64 i ∧ i ≤ el ∧ gg = el - i ∧ Hid (MpL spC 6 99 w0 wr w0.heap.size L ck (sel ((edges.take i).map edS))) ∧ Hid (Ext w0 wr) ∧ Hid (L.length ≤ 2 * i))
  case atStart => exact ⟨0, [], 0, rfl, Nat.zero_le _, rfl, by rw [List.take_zero]; exact M0, E0, Lib.hid (Nat.le_refl _)⟩
  case round =>
    clear M0 E0
    obtain ⟨i, L, ck, rfl, hi, rfl, HM, HX, HL⟩ := hrel
    by_cases hlt : i < el
    · have hil : i < edges.length := by rw [← he.out]; exact hlt
      have hltz : (i : Int) < (el : Int) := by omega
      obtain ⟨ad, rfl, h0, h1, h2, h3, h4, h5⟩ := (hG.out.ext (X0.out.trans HX.out)).eat hil
      have hem := getD_mem' edZ hil
      have htk := takeE edZ hil
      obtain ⟨⟨⟨fn, fo, fp⟩, ⟨tn, too, tp⟩⟩, hee⟩ : ∃ e, edges.getD i edZ = e := ⟨_, rfl⟩
      simp only at h0 h1 h2 h3 h4 h5
      rw [hee] at h0 h1 h2 h3 h4 h5 hem htk
      simp only at h0 h1 h2 h3 h4 h5
      have hp6 := (h6.out.ed _ hem).1
      obtain ⟨A, c, hv, ho, hbk⟩ := HM.out.ls ⟨fn, fo, fp⟩
      obtain ⟨n, hn⟩ : ∃ n, n = (sel ((edges.take i).map edS) ⟨fn, fo, fp⟩).length := ⟨_, rfl⟩
      have hnb : n ≤ 1000000 := by
        have q1 := sel_len ((edges.take i).map edS) ⟨fn, fo, fp⟩
        have q2 := hbig.out
        unfold allS at q2
        rw [List.length_append, List.length_map] at q2
        rw [List.length_map, List.length_take] at q1
        simp only at q2
        omega
      rw [← hn] at hv
      have EA1 : Hid (Ext wr ((wr.alloc (.cells #[.int .i64 fn, .bool fo, .int .i64 fp, .int .i64 tn, .bool too, .int .i64 tp] 44)).alloc (.cells #[.int .i64 tn, .bool too, .int .i64 tp, .int .i64 0, .int .u32 0, .slice none 0 0] 99))) := Lib.hid (((Ext.refl wr).alloc _).alloc _)
      have HMA := Lib.hid (HM.out.ext EA1.out)
      have HS1 : Hid (Sl ((wr.alloc (.cells #[.int .i64 fn, .bool fo, .int .i64 fp, .int .i64 tn, .bool too, .int .i64 tp] 44)).alloc (.cells #[.int .i64 tn, .bool too, .int .i64 tp, .int .i64 0, .int .u32 0, .slice none 0 0] 99)) 6 (some ⟨wr.heap.size + 1, 0, none⟩) 1 1 [.int .i64 tn, .bool too, .int .i64 tp, .int .i64 0, .int .u32 0, .slice none 0 0]) := Lib.hid (by
        have q := Sl.one (wr.alloc (.cells #[.int .i64 fn, .bool fo, .int .i64 fp, .int .i64 tn, .bool too, .int .i64 tp] 44)) #[.int .i64 tn, .bool too, .int .i64 tp, .int .i64 0, .int .u32 0, .slice none 0 0] 99 6 rfl
        simpa using q)
      have hkb : w0.heap.size < wr.heap.size := HM.out.tm.lt
      have HV : Hid ((getE L ⟨fn, fo, fp⟩).getD (.slice none 0 0) = .slice A n c) := Lib.hid hv
      have HP6 := Lib.hid hp6
      have HN := Lib.hid hn
      have HO := Lib.hid ho
      have HBK := Lib.hid hbk
      have HTK := Lib.hid htk
      clear hv hp6 hn ho hbk htk hem hee hil
      go_wp2_with (first
        | (at_builtin; go_loud (refine wpList_append_two _ elem_sp w0.heap.size _ _ rfl rfl A n c ((sel ((edges.take i).map edS) ⟨fn, fo, fp⟩).flatMap spC) rfl HO2.out (some ⟨wr.heap.size + 1, 0, none⟩) 1 1 [.int .i64 tn, .bool too, .int .i64 tp, .int .i64 0, .int .u32 0, .slice none 0 0] rfl HS2.out (by intro u hu; simp at hu; rcases hu with rfl | rfl | rfl | rfl | rfl | rfl <;> rfl) (by omega) (by decide) hb2 ?_); intro A3 c3 w3 o3 g3 x3; have O3 := Lib.hid o3; have G3 := Lib.hid g3; have Y3 := Lib.hid x3; have T3 : Hid (TM w3 w0.heap.size L2 ck2) := Lib.hid (T2.out.upd ((Upd.refl _ _).grown g3 (fun k hk => .inl hk)) (fun e => HMA.out.ne_kb (HBK.out.trans e))); clear o3 g3 x3)
        | (refine wpList_store_tm rfl _ _ _ rfl rfl β rfl _ rfl T3.out ⟨fn, fo, fp⟩ H2.out ?_; intro w4 L4 tm4 pp4 gm4 sz4; have R4 := Lib.hid (steps_push (x := ⟨⟨tn, too, tp⟩, Pm.zero⟩) (v := .slice A n c) HMA.out (HX.out.trans EA1.out) HN.out HV.out HBK.out rfl T2.out P2.out G2.out G3.out O3.out Y3.out tm4 pp4 gm4); clear tm4 pp4 gm4 sz4)
        | (refine wpList_entry_tm rfl Try.underlying74 _ _ rfl rfl ⟨fn, fo, fp⟩ rfl HMA.out.tm HP6.out (.slice none 0 0) (zeroSs _) ?_; intro w2 L2 ck2 β tm2 hx2 pp2 gm2 sz2; rw [HV.out] at pp2 ⊢; have T2 := Lib.hid tm2; have H2 := Lib.hid hx2; have P2 := Lib.hid pp2; have G2 := Lib.hid gm2; have HO2 : Hid (Own w2 w0.heap.size 99 6 A n c ((sel ((edges.take i).map edS) ⟨fn, fo, fp⟩).flatMap spC)) := (Lib.hid (by rw [HN.out]; exact (HO.out.ext EA1.out).kept gm2 (.inr (fun e => HMA.out.ne_kb (HBK.out.trans e))))); have HS2 := Lib.hid (sl_kept HS1.out gm2 (fun k hk e => (by have q := Option.some.inj hk; simp only at q; omega))); have hb2 : w0.heap.size ≤ w2.heap.size := (by have q1 := HX.out.size; have q2 := EA1.out.size; omega); clear tm2 hx2 pp2 gm2 sz2))
      go_roundg (el - (i + 1))
      case measure => omega
      case rel =>
        refine ⟨i + 1, L4, ck2, by go_num, by omega, rfl, ?_, Lib.hid R4.out.2.1, Lib.hid (by have h1 := R4.out.2.2; have h2 := HL.out; omega)⟩
        have q := R4.out.1
        rw [HTK.out, List.map_append]
        exact Lib.hid q
    · obtain rfl : i = el := by omega
      have c0 := (B0.out.ext HX.out).cell 0
      obtain ⟨S, hS⟩ : ∃ S, S = edges.map edS := ⟨_, rfl⟩
      have hM2 : MpL spC 6 99 w0 wr w0.heap.size L ck (sel S) := by
        have q := HM.out
        rw [he.out, List.take_length, ← hS] at q
        exact q
      have HM2 := Lib.hid hM2
      have HS := Lib.hid hS
      have HX2 := HX
      have HL2 : Hid (L.length ≤ 2 * (S ++ nodesS 0 (nodes.take 0)).length) := Lib.hid (by have h1 := HL.out; rw [List.take_zero, List.length_append, hS, List.length_map, ← he.out]; omega)
      clear hM2 hS HM
      go_wp2
      clear c0
      go_loopg [6, 7, 34] nl (fun gg _ _ s34 wr => ∃ (i : Nat) (L : List Pe) (ck : Nat), s34 = .int .i64 i ∧ i ≤ nl ∧ gg = nl - i ∧ Hid (MpL spC 6 99 w0 wr w0.heap.size L ck (sel (S ++ nodesS 0 (nodes.take i)))) ∧ Hid (Ext w0 wr) ∧ Hid (L.length ≤ 2 * (S ++ nodesS 0 (nodes.take i)).length))
      case atStart => exact ⟨0, L, ck, rfl, Nat.zero_le _, rfl, by rw [List.take_zero]; exact (by unfold nodesS; rw [List.append_nil]; exact HM2), HX2, HL2⟩
      case round =>
        clear HM2 HX2 HL2
        obtain ⟨i, L, ck, rfl, hi, rfl, HM, HX, HL⟩ := hrel
        by_cases hlt : i < nl
        · have hil : i < nodes.length := by rw [← hl.out]; exact hlt
          have hltz : (i : Int) < (nl : Int) := by omega
          obtain ⟨ad, rfl, h0, h1, h2, h3⟩ := (hG.out.ext (X0.out.trans HX.out)).nat hil
          have hnm := getD_mem' Nm.zero hil
          have htk := takeE Nm.zero hil
          obtain ⟨⟨nin, nou, nde, iA, ic, inner⟩, hnn2⟩ : ∃ e, nodes.getD i Nm.zero = e := ⟨_, rfl⟩
          simp only at h0 h1 h2 h3
          rw [hnn2] at h0 h1 h2 h3 hnm htk
          simp only at h0 h1 h2 h3
          obtain ⟨ni, hni⟩ : ∃ n, n = inner.length := ⟨_, rfl⟩
          rw [← hni] at h3
          have hNR := hG.out.nd _ hnm
          have h64 := h6.out.nd _ hnm
          have hseq : nodesS 0 (nodes.take (i + 1)) = nodesS 0 (nodes.take i) ++ inner.map (inS i) := by
            rw [htk, nodesS_append, List.length_take, Nat.min_eq_left (by omega), Nat.zero_add]
            show _ ++ (inner.map (inS i) ++ []) = _
            rw [List.append_nil]
          have hni9 : ni ≤ 9223372036854775807 := by rw [hni]; exact hNR.sl.le
          have hbound : ∀ k, k ≤ ni → (S ++ nodesS 0 (nodes.take i) ++ (inner.take k).map (inS i)).length ≤ 1000000 := fun k hk => by
            have q := hbig.out
            unfold allS at q
            simp only at q
            have q2 : nodesS 0 nodes = nodesS 0 (nodes.take (i + 1)) ++ nodesS (0 + (nodes.take (i + 1)).length) (nodes.drop (i + 1)) := by rw [← nodesS_append, List.take_append_drop]
            rw [q2, hseq, ← HS.out] at q
            simp only [List.length_append, List.length_map, List.length_take] at q ⊢
            omega
          have HSQ := Lib.hid hseq
          have HNR := Lib.hid hNR
          have H64 := Lib.hid h64
          have HNI := Lib.hid hni
          have HBD := Lib.hid hbound
          have HZ : Hid (MpL spC 6 99 w0 (wr.alloc (.cells #[.int .i64 nin, .int .i64 nou, .int .i64 nde, .slice iA ni ic] 50)) w0.heap.size L ck (sel (S ++ nodesS 0 (nodes.take i)))) := Lib.hid (HM.out.ext ((Ext.refl wr).alloc _))
          have HZX : Hid (Ext w0 (wr.alloc (.cells #[.int .i64 nin, .int .i64 nou, .int .i64 nde, .slice iA ni ic] 50))) := Lib.hid (HX.out.alloc _)
          clear hnm htk hnn2 hni hNR h64 hseq hbound hil
          go_wp2
          go_loopg [9, 10, 42] ni (fun gg _ _ s42 wr => ∃ (k : Nat) (L : List Pe) (ck : Nat), s42 = .int .i64 k ∧ k ≤ ni ∧ gg = ni - k ∧ Hid (MpL spC 6 99 w0 wr w0.heap.size L ck (sel (S ++ nodesS 0 (nodes.take i) ++ (inner.take k).map (inS i)))) ∧ Hid (Ext w0 wr) ∧ Hid (L.length ≤ 2 * (S ++ nodesS 0 (nodes.take i) ++ (inner.take k).map (inS i)).length))
          case atStart => exact ⟨0, L, ck, rfl, Nat.zero_le _, rfl, by rw [List.take_zero, List.map_nil, List.append_nil]; exact HZ, HZX, by rw [List.take_zero, List.map_nil, List.append_nil]; exact HL⟩
          case round =>
            clear HZ HZX HM HX HL
            obtain ⟨k, L, ck, rfl, hk, rfl, HM, HX, HL⟩ := hrel
            by_cases hkl : k < ni
            · have hkL : k < inner.length := by rw [← HNI.out]; exact hkl
              have hkz : (k : Int) < (ni : Int) := by omega
              obtain ⟨a2, ha2, g0, g1, g2, g3, g4⟩ := (HNR.out.ext (X0.out.trans HX.out)).at hkL
              simp only at ha2
              subst ha2
              have hxm := getD_mem' Im.zero hkL
              have htk := takeE Im.zero hkL
              simp only at g0 g1 g2 g3 g4
              obtain ⟨⟨xi, xo, ⟨pA, pc, ⟨pl_, pa, pe⟩⟩⟩, hx⟩ : ∃ e, inner.getD k Im.zero = e := ⟨_, rfl⟩
              rw [hx] at g0 g1 g2 g3 g4 hxm htk
              simp only at g0 g1 g2 g3 g4
              obtain ⟨np, hnp⟩ : ∃ n, n = pe.length := ⟨_, rfl⟩
              rw [← hnp] at g4
              have hp6 : P64 ⟨(i : Int), false, xi⟩ := ⟨⟨by show -9223372036854775808 ≤ (i : Int); omega, by show (i : Int) ≤ 9223372036854775807; omega⟩, (H64.out.inn _ hxm).1⟩
              obtain ⟨T, hT⟩ : ∃ T, T = S ++ nodesS 0 (nodes.take i) ++ (inner.take k).map (inS i) := ⟨_, rfl⟩
              have hTb := HBD.out k hk
              rw [← hT] at HM hTb HL
              obtain ⟨A, c, hv, ho, hbk⟩ := HM.out.ls ⟨(i : Int), false, xi⟩
              obtain ⟨n, hn⟩ : ∃ n, n = (sel T ⟨(i : Int), false, xi⟩).length := ⟨_, rfl⟩
              have hnb : n ≤ 1000000 := by have q1 := sel_len T ⟨(i : Int), false, xi⟩; omega
              rw [← hn] at hv
              have EA1 : Hid (Ext wr (((wr.alloc (.cells #[.int .i64 xi, .int .i64 xo, .int .i64 pl_, .int .u32 pa, .slice pA np pc] 52)).alloc (.cells #[.int .i64 i, .bool false, .int .i64 xi] 27)).alloc (.cells #[.int .i64 i, .bool true, .int .i64 xo, .int .i64 pl_, .int .u32 pa, .slice pA np pc] 99))) := Lib.hid ((((Ext.refl wr).alloc _).alloc _).alloc _)
              have HMA := Lib.hid (HM.out.ext EA1.out)
              have HS1 : Hid (Sl (((wr.alloc (.cells #[.int .i64 xi, .int .i64 xo, .int .i64 pl_, .int .u32 pa, .slice pA np pc] 52)).alloc (.cells #[.int .i64 i, .bool false, .int .i64 xi] 27)).alloc (.cells #[.int .i64 i, .bool true, .int .i64 xo, .int .i64 pl_, .int .u32 pa, .slice pA np pc] 99)) 6 (some ⟨wr.heap.size + 1 + 1, 0, none⟩) 1 1 [.int .i64 i, .bool true, .int .i64 xo, .int .i64 pl_, .int .u32 pa, .slice pA np pc]) := Lib.hid (by
                have q := Sl.one ((wr.alloc (.cells #[.int .i64 xi, .int .i64 xo, .int .i64 pl_, .int .u32 pa, .slice pA np pc] 52)).alloc (.cells #[.int .i64 i, .bool false, .int .i64 xi] 27)) #[.int .i64 i, .bool true, .int .i64 xo, .int .i64 pl_, .int .u32 pa, .slice pA np pc] 99 6 rfl
                simpa using q)
              have hkb : w0.heap.size < wr.heap.size := HM.out.tm.lt
              have HV : Hid ((getE L ⟨(i : Int), false, xi⟩).getD (.slice none 0 0) = .slice A n c) := Lib.hid hv
              have HP6 := Lib.hid hp6
              have HN := Lib.hid hn
              have HO := Lib.hid ho
              have HBK := Lib.hid hbk
              have HTK := Lib.hid htk
              have HTT := Lib.hid hT
              have HNP := Lib.hid hnp
              clear hv hp6 hn ho hbk htk hxm hx hkL hT hTb hnp
              go_wp2_with (first
                | (at_builtin; go_loud (refine wpList_append_two _ elem_sp w0.heap.size _ _ rfl rfl A n c ((sel T ⟨(i : Int), false, xi⟩).flatMap spC) rfl HO2.out (some ⟨wr.heap.size + 1 + 1, 0, none⟩) 1 1 [.int .i64 i, .bool true, .int .i64 xo, .int .i64 pl_, .int .u32 pa, .slice pA np pc] rfl HS2.out (by intro u hu; simp at hu; rcases hu with rfl | rfl | rfl | rfl | rfl | rfl <;> rfl) (by omega) (by decide) hb2 ?_); intro A3 c3 w3 o3 g3 x3; have O3 := Lib.hid o3; have G3 := Lib.hid g3; have Y3 := Lib.hid x3; have T3 : Hid (TM w3 w0.heap.size L2 ck2) := Lib.hid (T2.out.upd ((Upd.refl _ _).grown g3 (fun k hk => .inl hk)) (fun e => HMA.out.ne_kb (HBK.out.trans e))); clear o3 g3 x3)
                | (refine wpList_store_tm rfl _ _ _ rfl rfl β rfl _ rfl T3.out ⟨(i : Int), false, xi⟩ H2.out ?_; intro w4 L4 tm4 pp4 gm4 sz4; have R4 := Lib.hid (steps_push (x := ⟨⟨(i : Int), true, xo⟩, ⟨pA, pc, ⟨pl_, pa, pe⟩⟩⟩) (v := .slice A n c) HMA.out (HX.out.trans EA1.out) HN.out HV.out HBK.out rfl T2.out P2.out G2.out G3.out (by have q := O3.out; rw [HNP.out] at q; exact q) Y3.out tm4 pp4 gm4); clear tm4 pp4 gm4 sz4)
                | (refine wpList_entry_tm rfl Try.underlying74 _ _ rfl rfl ⟨(i : Int), false, xi⟩ rfl HMA.out.tm HP6.out (.slice none 0 0) (zeroSs _) ?_; intro w2 L2 ck2 β tm2 hx2 pp2 gm2 sz2; rw [HV.out] at pp2 ⊢; have T2 := Lib.hid tm2; have H2 := Lib.hid hx2; have P2 := Lib.hid pp2; have G2 := Lib.hid gm2; have HO2 : Hid (Own w2 w0.heap.size 99 6 A n c ((sel T ⟨(i : Int), false, xi⟩).flatMap spC)) := (Lib.hid (by rw [HN.out]; exact (HO.out.ext EA1.out).kept gm2 (.inr (fun e => HMA.out.ne_kb (HBK.out.trans e))))); have HS2 := Lib.hid (sl_kept HS1.out gm2 (fun k hk e => (by have q := Option.some.inj hk; simp only at q; omega))); have hb2 : w0.heap.size ≤ w2.heap.size := (by have q1 := HX.out.size; have q2 := EA1.out.size; omega); clear tm2 hx2 pp2 gm2 sz2))
              go_roundg (ni - (k + 1))
              case measure => omega
              case rel =>
                have q := R4.out.1
                have q2 := R4.out.2.2
                have q3 : S ++ nodesS 0 (nodes.take i) ++ (inner.take (k + 1)).map (inS i) = T ++ [(⟨(i : Int), false, xi⟩, ⟨⟨(i : Int), true, xo⟩, ⟨pA, pc, ⟨pl_, pa, pe⟩⟩⟩)] := by rw [HTK.out, List.map_append, ← List.append_assoc, ← HTT.out]; rfl
                exact ⟨k + 1, L4, ck2, by go_num, by omega, rfl, by rw [q3]; exact Lib.hid q, Lib.hid R4.out.2.1, Lib.hid (by rw [q3, List.length_append]; have h2 := HL.out; simp only [List.length_cons, List.length_nil]; omega)⟩
            · obtain rfl : k = ni := by omega
              go_wp2
              go_roundg (nl - (i + 1))
              case measure => omega
              case rel =>
                have q := HM.out
                have q2 := HL.out
                rw [HNI.out, List.take_length] at q q2
                exact ⟨i + 1, L, ck, by go_num, by omega, rfl, by rw [HSQ.out, ← List.append_assoc]; exact Lib.hid q, HX, by rw [HSQ.out, ← List.append_assoc]; exact Lib.hid q2⟩
        · obtain rfl : i = nl := by omega
          go_wp2
          go_ret
          have q := HM.out
          have q2 := HL.out
          rw [hl.out, List.take_length, HS.out] at q q2
          refine ⟨w0.heap.size, L, ck, rfl, ?_, X0.out.trans HX.out, q2⟩
          exact ⟨q.tm, Nat.le_trans HBG.out q.kb0, fun r => by obtain ⟨A, c, h1, h2, h3⟩ := q.ls r; exact ⟨A, c, h1, h2.mono HBG.out, h3⟩, q.ap⟩
end Go.Proofs.Yteklohamkmiphaa
namespace Go.Proofs.Yteklohamkmiphaa
open Go.RowKit

theorem str_of {w0 w : World} {g : Gm} {kb : Nat} {L : List Pe} {ck : Nat} (m : MpL spC 6 99 w0 w kb L ck (sel (allS g))) (hl : L.length ≤ 2 * (allS g).length) (G : GOK g.v) (hG : GmR w g) (hb : (allS g).length ≤ 1000) : StR w kb g.v := by
  refine ⟨L, ck, m.tm, fun q => ?_, by omega⟩
  obtain ⟨A, c, h1, h2, _⟩ := m.ls q
  have hv := steps_mvs g G q
  cases hq : getE L q with
  | none =>
    rw [hq] at h1
    injection h1 with _ h3 _
    have h4 : sel (allS g) q = [] := List.eq_nil_of_length_eq_zero h3.symm
    rw [h4] at hv
    exact .inl ⟨rfl, List.map_eq_nil_iff.1 hv.symm⟩
  | some v =>
    rw [hq] at h1
    refine .inr ⟨A, c, sel (allS g) q, by rw [show v = _ from h1], h2.sl, fun s hs => ?_, hv⟩
    unfold sel at hs
    obtain ⟨y, hy, rfl⟩ := List.mem_map.1 hs
    have hy := (List.mem_filter.1 hy).1
    unfold allS at hy
    rcases List.mem_append.1 hy with hy | hy
    · obtain ⟨e, _, rfl⟩ := List.mem_map.1 hy
      exact Sl.nil _ _
    · have key : ∀ (ns : List Nm) (k : Nat), y ∈ nodesS k ns → (∀ n ∈ ns, NmR w n) → PmR w y.2.b := by
        intro ns
        induction ns with
        | nil => intro k h _; cases h
        | cons n ns ih =>
          intro k h hn
          rcases List.mem_append.1 h with h | h
          · obtain ⟨x, hx, rfl⟩ := List.mem_map.1 h
            exact (hn n List.mem_cons_self).ls x hx
          · exact ih (k + 1) h (fun m hm => hn m (List.mem_cons_of_mem _ hm))
      exact key _ _ hy hG.nd
/-- what All has told so far, and what it goes by -/
structure FaI (w0 wa w : World) (NA : Option Addr) (nl Nc : Nat) (EA : Option Addr) (el Ec : Nat) (g : Gm) (gb mb ob kb : Nat) (L : List Pe) (ck : Nat) (A : Option Addr) (n c : Nat) (Ls : List Ld) : Prop where
  ld : LdI w0 w A n c Ls
  bg : Bk w gb 25 #[.slice NA nl Nc, .slice EA el Ec]
  bm : Bk w mb 74 #[.map (some kb)]
  bo : Bk w ob 61 #[.slice A n c]
  o0 : w0.heap.size ≤ ob
  mp : MpL spC 6 99 wa w kb L ck (sel (allS g))
  ml : L.length ≤ 2 * (allS g).length
section
variable {w0 wa w w' : World} {NA EA : Option Addr} {nl Nc el Ec : Nat} {g : Gm} {gb mb ob kb : Nat} {L : List Pe} {ck : Nat} {A : Option Addr} {n c : Nat} {Ls : List Ld}
theorem FaI.ext (h : FaI w0 wa w NA nl Nc EA el Ec g gb mb ob kb L ck A n c Ls) (e : Ext w w') : FaI w0 wa w' NA nl Nc EA el Ec g gb mb ob kb L ck A n c Ls :=
  ⟨h.ld.ext e, h.bg.ext e, h.bm.ext e, h.bo.ext e, h.o0, h.mp.ext e, h.ml⟩
/-- what is written to when something is told -/
theorem FaI.upd (h : FaI w0 wa w NA nl Nc EA el Ec g gb mb ob kb L ck A n c Ls) {w1 : World} (gr : w.grownBy w1 (blk A c)) (v : Value) : Upd (fun k => Ty w k 67 ∨ Ty w k 61) w (w1.setCell ⟨ob, 0, none⟩ v) :=
  Upd.setCell (S := fun k => Ty w k 67 ∨ Ty w k 61) ((Upd.refl _ w).grown gr (fun k hk => .inl (.inl (h.ld.ow.ty hk)))) (p := ⟨ob, 0, none⟩) (.inl (.inr h.bo.ty)) v
theorem FaI.push (h : FaI w0 wa w NA nl Nc EA el Ec g gb mb ob kb L ck A n c Ls) {x : Ld} (hx : WysR w x.A x.ws.length x.c x.ws ∧ WysT w x.A x.c x.ws) {w1 : World} (gr : w.grownBy w1 (blk A c)) {A' : Option Addr} {c' : Nat} (o : Own w1 w0.heap.size 67 7 A' (n + 1) c' (Ls.flatMap ldC ++ ldC x)) :
    FaI w0 wa (w1.setCell ⟨ob, 0, none⟩ (.slice A' (n + 1) c')) NA nl Nc EA el Ec g gb mb ob kb L ck A' (n + 1) c' (Ls ++ [x]) := by
  have u := h.upd gr (.slice A' (n + 1) c')
  have nt : ∀ {T : TypeId}, T ≠ 67 → T ≠ 61 → ∀ k, (Ty w k 67 ∨ Ty w k 61) → ¬ Ty w k T := fun {T} t1 t2 k hk e => by
    rcases hk with hk | hk
    · exact t1 (e.ne hk)
    · exact t2 (e.ne hk)
  have bo1 : Bk w1 ob 61 #[.slice A n c] := h.bo.grown gr (fun e => absurd ((h.ld.ow.ty e).ne h.bo.ty) (by decide))
  have ld1 := h.ld.push hx gr o
  have u1 : Upd (fun k => k = ob) w1 (w1.setCell ⟨ob, 0, none⟩ (.slice A' (n + 1) c')) := Upd.setCell (S := fun k => k = ob) (Upd.refl _ w1) (p := ⟨ob, 0, none⟩) (.inl rfl) _
  have nt1 : ∀ {T : TypeId}, T ≠ 61 → ∀ k, k = ob → ¬ Ty w1 k T := fun {T} t2 k hk e => t2 (e.ne (hk ▸ bo1.ty))
  refine ⟨⟨ld1.ln, ld1.ow.upd u1 (fun k hk e => nt1 (by decide) k e (ld1.ow.ty hk)), fun y hy => ?_, ld1.ex.set h.o0 _⟩, h.bg.updB u (fun e => nt (by decide) (by decide) _ e h.bg.ty), h.bm.updB u (fun e => nt (by decide) (by decide) _ e h.bm.ty), bo1.set 0 _, h.o0, h.mp.upd u (fun k hk e => ?_), h.ml⟩
  · have hS : ∀ k, k = ob → ¬ Ty w1 k 47 ∧ ¬ Ty w1 k 45 := fun k hk => ⟨nt1 (by decide) k hk, nt1 (by decide) k hk⟩
    exact ⟨(ld1.ws y hy).1.upd (ld1.ws y hy).2 u1 hS, (ld1.ws y hy).2.upd u1 hS⟩
  · rcases e with e | e
    · exact h.mp.not_ty hk (by decide) e
    · exact h.mp.not_ty hk (by decide) e
/-- from one place -/
structure FaK (ws w0 wa w5 w : World) (NA : Option Addr) (nl Nc : Nat) (EA : Option Addr) (el Ec : Nat) (g : Gm) (gb mb ob kb : Nat) (L : List Pe) (ck : Nat) (A : Option Addr) (n c : Nat) (Ls : List Ld) (kk : Nat) (L2 : List Pe) (ck2 : Nat) (K : Pt → List Pm) (fb : Nat) (pn : Int) (po : Bool) (pp : Int) : Prop where
  fa : FaI w0 wa w NA nl Nc EA el Ec g gb mb ob kb L ck A n c Ls
  km : KmR w5 w kk L2 ck2 K
  bf : Bk w fb 27 #[.int .i64 pn, .bool po, .int .i64 pp]
  nf : ∀ b cs, Bk ws b 50 cs → Bk w b 50 cs
variable {ws w5 : World} {kk : Nat} {L2 : List Pe} {ck2 : Nat} {K : Pt → List Pm} {fb : Nat} {pn : Int} {po : Bool} {pp : Int}
theorem FaK.ext (h : FaK ws w0 wa w5 w NA nl Nc EA el Ec g gb mb ob kb L ck A n c Ls kk L2 ck2 K fb pn po pp) (e : Ext w w') : FaK ws w0 wa w5 w' NA nl Nc EA el Ec g gb mb ob kb L ck A n c Ls kk L2 ck2 K fb pn po pp := ⟨h.fa.ext e, h.km.ext e, h.bf.ext e, fun b cs q => (h.nf b cs q).ext e⟩
theorem FaK.push (h : FaK ws w0 wa w5 w NA nl Nc EA el Ec g gb mb ob kb L ck A n c Ls kk L2 ck2 K fb pn po pp) {x : Ld} (hx : WysR w x.A x.ws.length x.c x.ws ∧ WysT w x.A x.c x.ws) {w1 : World} (gr : w.grownBy w1 (blk A c)) {A' : Option Addr} {c' : Nat} (o : Own w1 w0.heap.size 67 7 A' (n + 1) c' (Ls.flatMap ldC ++ ldC x)) :
    FaK ws w0 wa w5 (w1.setCell ⟨ob, 0, none⟩ (.slice A' (n + 1) c')) NA nl Nc EA el Ec g gb mb ob kb L ck A' (n + 1) c' (Ls ++ [x]) kk L2 ck2 K fb pn po pp := by
  have u := h.fa.upd gr (.slice A' (n + 1) c')
  refine ⟨h.fa.push hx gr o, h.km.upd u (fun k hk e => ?_) (fun k e => ?_), h.bf.updB u (fun e => ?_), fun b cs q => (h.nf b cs q).updB u (fun e => ?_)⟩
  · rcases hk with rfl | ⟨q, hk⟩
    · rcases e with e | e
      · exact h.km.tm.not_ty _ e
      · exact h.km.tm.not_ty _ e
    · rcases e with e | e
      · exact absurd ((h.km.ty hk).ne e) (by decide)
      · exact absurd ((h.km.ty hk).ne e) (by decide)
  · rcases e with e | e
    · exact fun q => absurd (q.ne e) (by decide)
    · exact fun q => absurd (q.ne e) (by decide)
  · rcases e with e | e
    · exact absurd (h.bf.ty.ne e) (by decide)
    · exact absurd (h.bf.ty.ne e) (by decide)
  · rcases e with e | e
    · exact absurd ((h.nf b cs q).ty.ne e) (by decide)
    · exact absurd ((h.nf b cs q).ty.ne e) (by decide)
end
end Go.Proofs.Yteklohamkmiphaa
namespace Go.Proofs.Yteklohamkmiphaa
open Go.RowKit

theorem cell_map {w : World} {a : Addr} {es : Array MapEntry} {k : Nat} (h : w.heap[a.block]? = some (.map es k)) : w.cell? a = none := by unfold World.cell?; rw [h]
theorem sl_map {w w' : World} {kb sz n c : Nat} {A : Option Addr} {xs : List Value} (h : Sl w sz A n c xs) {es : Array MapEntry} {k : Nat} (t : w.heap[kb]? = some (.map es k)) (u : Upd (fun k => k = kb) w w') : Sl w' sz A n c xs := by
  refine ⟨h.1, h.2.1, h.2.2.1, h.2.2.2.1, fun hn => ?_⟩
  obtain ⟨ad, e, hc⟩ := h.2.2.2.2 hn
  refine ⟨ad, e, fun j v hv => u.cell (fun q => ?_) (hc j v hv)⟩
  have h1 := hc j v hv
  rw [cell_map (es := es) (k := k) (by rw [q]; exact t)] at h1
  cases h1
theorem sl_lt {w : World} {sz n c k : Nat} {A : Option Addr} {xs : List Value} (h : Sl w sz A n c xs) (hn : 0 < n) (hs : 0 < sz) (hk : blk A c = some k) : k < w.heap.size := by
  obtain ⟨ad, rfl, hc⟩ := h.2.2.2.2 hn
  have hl : 0 < xs.length := by rw [h.1]; exact Nat.mul_pos hn hs
  have h1 := World.block_lt_of_cell? w _ (hc 0 _ (List.getElem?_eq_getElem hl))
  rw [block_add] at h1
  cases c with
  | zero => cases hk
  | succ c => injection hk with hk; rw [← hk]; exact h1
theorem own_init {w : World} {B n c : Nat} {T : TypeId} {A : Option Addr} {xs x : List Value} (h : Own w B T 3 A (n + 1) c (xs ++ x)) (hx : x.length = 3) : Own w B T 3 A n c xs := by
  obtain ⟨h1, h2⟩ := h
  have hl : xs.length = n * 3 := by rw [List.length_append, hx] at h1; omega
  refine ⟨hl, ?_⟩
  rcases h2 with ⟨_, h2⟩ | ⟨g, cur, e, hb, hg, hnc, hcm, hcs, htake⟩
  · omega
  · refine .inr ⟨g, cur, e, hb, hg, by omega, hcm, hcs, ?_⟩
    have := congrArg (List.take (n * 3)) htake
    rw [List.take_take, Nat.min_eq_left (by omega), ← hl, List.take_left] at this
    rw [← hl]; exact this
theorem bk_map {w w' : World} {g kb : Nat} {t : TypeId} {cs : Array Value} (h : Bk w g t cs) {es : Array MapEntry} {k : Nat} (m : w.heap[kb]? = some (.map es k)) (u : Upd (fun k => k = kb) w w') : Bk w' g t cs :=
  h.updB u (fun e => by
    have e : g = kb := e
    subst e
    have q := h.symm.trans m
    cases q)
/-- what a count will be -/
theorem inLeft_take {F : Pt → Bool} {l : List Pt} {i : Nat} (h : i < l.length) : inLeft F (l.take (i + 1)) = inLeft F (l.take i) + (if F (l.getD i Pt.z) then 1 else 0) := by
  unfold inLeft
  rw [List.take_succ_eq_append_getElem h, List.filter_append, List.length_append, List.getD_eq_getElem?_getD, List.getElem?_eq_getElem h]
  cases hF : F l[i] with
  | true => simp [hF]
  | false => simp [hF]
theorem inLeft_le (F : Pt → Bool) (l : List Pt) : inLeft F l ≤ l.length := List.length_filter_le _ _
theorem leftOf_le (L : List Pe) (seen : Array Nat) : (leftOf (L.map entT).toArray seen).size ≤ L.length := by
  unfold leftOf
  refine Nat.le_trans Array.size_filter_le ?_
  simp
/-- the counting under way -/
structure SfA (ws w : World) (kl kc r : Nat) (L : List Pe) (ck : Nat) (F : Pt → Bool) (nx : Pt → List Pt) (seen : Array Nat) (cnt : Pt → Int) (A : Option Addr) (c : Nat) (T : List Pt) : Prop where
  u : Upd (fun k => k = kl) ws w
  s : SetM w kl L ck F
  t : TR w kl r L ck seen
  n : CntM w kc cnt
  c1 : ∀ x ∈ L, seen.contains x.born = true → cnt x.p = inLeft F (nx x.p)
  c0 : ∀ q, (∀ x ∈ L, x.p = q → seen.contains x.born = false) → cnt q = 0
  cb : ∀ q, 0 ≤ cnt q ∧ cnt q ≤ 2000000
  q : Own w ws.heap.size 27 3 A T.length c (T.flatMap ptC)
  tz : ∀ p ∈ T, ∃ x ∈ L, x.p = p ∧ seen.contains x.born = true ∧ cnt p = 0
  r0 : ws.heap.size ≤ r
  k0 : ws.heap.size ≤ kc
  ne : r ≠ kc
  kw : kl < ws.heap.size
  tl : T.length + (leftOf (L.map entT).toArray seen).size ≤ L.length
section
variable {ws w w' : World} {kl kc r ck : Nat} {L : List Pe} {F : Pt → Bool} {nx : Pt → List Pt} {seen : Array Nat} {cnt : Pt → Int} {A : Option Addr} {c : Nat} {T : List Pt}
theorem SfA.ext (I : SfA ws w kl kc r L ck F nx seen cnt A c T) (e : Ext w w') : SfA ws w' kl kc r L ck F nx seen cnt A c T :=
  ⟨I.u.trans (Upd.ext e), I.s.ext e, I.t.ext e, I.n.ext e, I.c1, I.c0, I.cb, I.q.ext e, I.tz, I.r0, I.k0, I.ne, I.kw, I.tl⟩
theorem born_eq {L : List Pe} (h : (L.map Pe.born).Nodup) {x y : Pe} (hx : x ∈ L) (hy : y ∈ L) (e : x.born = y.born) : x = y := by
  obtain ⟨i, hi⟩ := List.getElem?_of_mem hy
  obtain ⟨j, hj⟩ := List.getElem?_of_mem hx
  obtain ⟨i1, i2⟩ := List.getElem?_eq_some_iff.1 hi
  obtain ⟨j1, j2⟩ := List.getElem?_eq_some_iff.1 hj
  have nb := List.pairwise_iff_getElem.1 (List.nodup_iff_pairwise_ne.1 h)
  rcases Nat.lt_trichotomy i j with q | q | q
  · have := nb i j (by simpa using i1) (by simpa using j1) q
    simp only [List.getElem_map, i2, j2] at this
    exact absurd e.symm this
  · subst q; rw [← i2, ← j2]
  · have := nb j i (by simpa using j1) (by simpa using i1) q
    simp only [List.getElem_map, i2, j2] at this
    exact absurd e this
theorem place_eq {L : List Pe} (h : (L.map Pe.p).Nodup) {x y : Pe} (hx : x ∈ L) (hy : y ∈ L) (e : x.p = y.p) : x = y := by
  obtain ⟨i, hi⟩ := List.getElem?_of_mem hy
  obtain ⟨j, hj⟩ := List.getElem?_of_mem hx
  obtain ⟨i1, i2⟩ := List.getElem?_eq_some_iff.1 hi
  obtain ⟨j1, j2⟩ := List.getElem?_eq_some_iff.1 hj
  have nb := List.pairwise_iff_getElem.1 (List.nodup_iff_pairwise_ne.1 h)
  rcases Nat.lt_trichotomy i j with q | q | q
  · have := nb i j (by simpa using i1) (by simpa using j1) q
    simp only [List.getElem_map, i2, j2] at this
    exact absurd e.symm this
  · subst q; rw [← i2, ← j2]
  · have := nb j i (by simpa using j1) (by simpa using i1) q
    simp only [List.getElem_map, i2, j2] at this
    exact absurd e this
/-- a place is taken: it has not been counted yet; the loop has gone on -/
structure SfP (ws w : World) (kl kc r : Nat) (L : List Pe) (ck : Nat) (F : Pt → Bool) (nx : Pt → List Pt) (seen : Array Nat) (x : Pe) (cnt : Pt → Int) (k : Nat) (A : Option Addr) (c : Nat) (T : List Pt) : Prop where
  u : Upd (fun k => k = kl) ws w
  s : SetM w kl L ck F
  t : TR w kl r L ck (seen.push x.born)
  n : CntM w kc cnt
  cp : cnt x.p = inLeft F ((nx x.p).take k)
  c1 : ∀ y ∈ L, seen.contains y.born = true → cnt y.p = inLeft F (nx y.p)
  c0 : ∀ q, q ≠ x.p → (∀ x ∈ L, x.p = q → seen.contains x.born = false) → cnt q = 0
  cb : ∀ q, 0 ≤ cnt q ∧ cnt q ≤ 2000000
  q : Own w ws.heap.size 27 3 A T.length c (T.flatMap ptC)
  tz : ∀ p ∈ T, ∃ x ∈ L, x.p = p ∧ seen.contains x.born = true ∧ cnt p = 0
  xm : x ∈ L
  xs : seen.contains x.born = false
  r0 : ws.heap.size ≤ r
  k0 : ws.heap.size ≤ kc
  ne : r ≠ kc
  kw : kl < ws.heap.size
  tl : T.length + (leftOf (L.map entT).toArray (seen.push x.born)).size + 1 ≤ L.length
theorem SfA.take (I : SfA ws w kl kc r L ck F nx seen cnt A c T) {x : Pe} (hx : x ∈ L) (hs : seen.contains x.born = false) (t : TR w' kl r L ck (seen.push x.born)) (g : w.grownBy w' (some r)) (hlt : (leftOf (L.map entT).toArray (seen.push x.born)).size < (leftOf (L.map entT).toArray seen).size) : SfP ws w' kl kc r L ck F nx seen x cnt 0 A c T := by
  have u : Upd (fun k => k = r) w w' := (Upd.refl _ w).grown g (fun k hk => .inl (by injection hk with hk; exact hk.symm))
  refine ⟨⟨u.os.trans I.u.os, u.tape.trans I.u.tape, u.output.trans I.u.output, Nat.le_trans I.u.size u.size, fun k hk hn => (u.block k (Nat.lt_of_lt_of_le hk I.u.size) (fun e => by have := I.r0; omega)).trans (I.u.block k hk hn)⟩, ⟨t.m, I.s.get⟩, t, I.n.upd u (fun e => I.ne e.symm), ?_, I.c1, fun q _ h => I.c0 q h, I.cb, I.q.upd u (fun k hk e => by rw [e] at hk; exact I.t.not_ty _ (I.q.ty hk)), I.tz, hx, hs, I.r0, I.k0, I.ne, I.kw, by have := I.tl; omega⟩
  rw [I.c0 x.p (fun y hy e => by rw [place_eq I.s.tm.np hy hx e]; exact hs), List.take_zero]
  rfl
theorem SfP.ext {x : Pe} {k : Nat} (I : SfP ws w kl kc r L ck F nx seen x cnt k A c T) (e : Ext w w') : SfP ws w' kl kc r L ck F nx seen x cnt k A c T :=
  ⟨I.u.trans (Upd.ext e), I.s.ext e, I.t.ext e, I.n.ext e, I.cp, I.c1, I.c0, I.cb, I.q.ext e, I.tz, I.xm, I.xs, I.r0, I.k0, I.ne, I.kw, I.tl⟩
theorem SfP.skip {x : Pe} {k : Nat} (I : SfP ws w kl kc r L ck F nx seen x cnt k A c T) (hk : k < (nx x.p).length) (hF : F ((nx x.p).getD k Pt.z) = false) : SfP ws w kl kc r L ck F nx seen x cnt (k + 1) A c T :=
  ⟨I.u, I.s, I.t, I.n, by rw [inLeft_take hk, hF, I.cp]; simp, I.c1, I.c0, I.cb, I.q, I.tz, I.xm, I.xs, I.r0, I.k0, I.ne, I.kw, I.tl⟩
/-- the count is one more -/
theorem SfP.inc {x : Pe} {k : Nat} (I : SfP ws w kl kc r L ck F nx seen x cnt k A c T) (hk : k < (nx x.p).length) (hm : (nx x.p).length ≤ 2000000) (hF : F ((nx x.p).getD k Pt.z) = true) (u : Upd (fun k => k = kc) w w') (n : CntM w' kc (fun q => if q = x.p then cnt x.p + 1 else cnt q)) : SfP ws w' kl kc r L ck F nx seen x (fun q => if q = x.p then cnt x.p + 1 else cnt q) (k + 1) A c T := by
  have hkl : kl ≠ kc := by have h1 := I.kw; have h2 := I.k0; omega
  have ht : TM w' kl L ck := I.t.m.upd u hkl
  refine ⟨⟨u.os.trans I.u.os, u.tape.trans I.u.tape, u.output.trans I.u.output, Nat.le_trans I.u.size u.size, fun j hj hn => (u.block j (Nat.lt_of_lt_of_le hj I.u.size) (fun e => by have := I.k0; omega)).trans (I.u.block j hj hn)⟩, I.s.upd u hkl, I.t.upd u hkl I.ne, n, ?_, fun y hy hs => ?_, fun q hq h => ?_, fun q => ?_, I.q.upd u (fun j hj e => by rw [e] at hj; exact I.n.not_ty _ (I.q.ty hj)), fun p hp => ?_, I.xm, I.xs, I.r0, I.k0, I.ne, I.kw, I.tl⟩
  · simp only [if_true]
    rw [inLeft_take hk, hF, I.cp]
    simp
  · have : y.p ≠ x.p := fun e => by
      have := place_eq I.s.tm.np hy I.xm e
      rw [this, I.xs] at hs
      cases hs
    simp only [if_neg this]
    exact I.c1 y hy hs
  · simp only [if_neg hq]
    exact I.c0 q hq h
  · by_cases e : q = x.p
    · simp only [if_pos e]
      have h1 := inLeft_le F ((nx x.p).take k)
      rw [List.length_take] at h1
      rw [I.cp]
      omega
    · simp only [if_neg e]; exact I.cb q
  · obtain ⟨y, hy, e1, e2, e3⟩ := I.tz p hp
    have : p ≠ x.p := fun e => by
      have := place_eq I.s.tm.np hy I.xm (e1.trans e)
      rw [this, I.xs] at e2
      cases e2
    exact ⟨y, hy, e1, e2, by simp only [if_neg this]; exact e3⟩
theorem contains_push' {seen : Array Nat} {a b : Nat} (h : (seen.push a).contains b = true) : seen.contains b = true ∨ b = a := by
  rw [Array.contains_push] at h
  simpa using h
theorem contains_old {seen : Array Nat} {a b : Nat} (h : seen.contains b = true) : (seen.push a).contains b = true := by
  rw [Array.contains_push, h]; rfl
theorem contains_new (seen : Array Nat) (a : Nat) : (seen.push a).contains a = true := by
  rw [Array.contains_push]; simp
/-- a place is counted -/
theorem SfP.done {x : Pe} {k : Nat} (I : SfP ws w kl kc r L ck F nx seen x cnt k A c T) (hk : k = (nx x.p).length) : SfA ws w kl kc r L ck F nx (seen.push x.born) cnt A c T := by
  have hcp := I.cp
  rw [hk, List.take_length] at hcp
  refine ⟨I.u, I.s, I.t, I.n, fun y hy hs => ?_, fun q h => ?_, I.cb, I.q, fun p hp => ?_, I.r0, I.k0, I.ne, I.kw, by have := I.tl; omega⟩
  · rcases contains_push' hs with hs | hs
    · exact I.c1 y hy hs
    · rw [born_eq I.s.tm.nb hy I.xm hs]; exact hcp
  · refine I.c0 q (fun e => ?_) (fun y hy e => ?_)
    · have := h x I.xm e.symm
      rw [contains_new] at this; cases this
    · have := h y hy e
      cases hs : seen.contains y.born with
      | false => rfl
      | true => rw [contains_old hs] at this; cases this
  · obtain ⟨y, hy, e1, e2, e3⟩ := I.tz p hp
    exact ⟨y, hy, e1, contains_old e2, e3⟩
/-- .. and nothing follows: it is put on the list -/
theorem SfP.put {x : Pe} {k : Nat} {A' : Option Addr} {c' : Nat} (I : SfP ws w kl kc r L ck F nx seen x cnt k A c T) (hk : k = (nx x.p).length) (h0 : cnt x.p = 0) (u : Upd (fun k => blk A c = some k) w w') (o : Own w' ws.heap.size 27 3 A' (T.length + 1) c' (T.flatMap ptC ++ ptC x.p)) : SfA ws w' kl kc r L ck F nx (seen.push x.born) cnt A' c' (T ++ [x.p]) := by
  have J := I.done hk
  have ht : ∀ k, blk A c = some k → Ty w k 27 := fun k hk => J.q.ty hk
  have hkl : ¬ blk A c = some kl := fun e => J.s.tm.not_ty _ (ht _ e)
  refine ⟨⟨u.os.trans J.u.os, u.tape.trans J.u.tape, u.output.trans J.u.output, Nat.le_trans J.u.size u.size, fun j hj hn => (u.block j (Nat.lt_of_lt_of_le hj J.u.size) (fun e => by have := (J.q.lt j e).1; omega)).trans (J.u.block j hj hn)⟩, J.s.upd u hkl, J.t.upd u hkl (fun e => J.t.not_ty _ (ht _ e)), J.n.upd u (fun e => J.n.not_ty _ (ht _ e)), J.c1, J.c0, J.cb, by rw [List.length_append, List.flatMap_append, List.flatMap_singleton]; exact o, fun p hp => ?_, J.r0, J.k0, J.ne, J.kw, by rw [List.length_append]; have := I.tl; simp only [List.length_cons, List.length_nil]; omega⟩
  rcases List.mem_append.1 hp with hp | hp
  · exact J.tz p hp
  · rw [List.mem_singleton.1 hp]
    exact ⟨x, I.xm, rfl, contains_new _ _, h0⟩
/-! ### the sifting -/
structure SfB (ws w : World) (kl kc : Nat) (C : Pt → Prop) (nx : Pt → List Pt) (L : List Pe) (ck : Nat) (F : Pt → Bool) (cnt : Pt → Int) (rem : List Pt) (D : Nat) (A : Option Addr) (c : Nat) (T : List Pt) : Prop where
  u : Upd (fun k => k = kl) ws w
  s : SetM w kl L ck F
  n : CntM w kc cnt
  si : SiftI nx C F cnt rem
  cb : ∀ q, -(D : Int) ≤ cnt q ∧ cnt q ≤ 2000000
  q : Own w ws.heap.size 27 3 A T.length c (T.flatMap ptC)
  tz : ∀ p ∈ T, ¬ C p ∧ P64 p
  k0 : ws.heap.size ≤ kc
  kw : kl < ws.heap.size
  db : D + L.length * 2000000 ≤ 4200000000000
  tb : T.length + L.length * 2000000 ≤ 4200002100000
variable {C : Pt → Prop} {rem : List Pt} {D : Nat}
theorem SfA.go (I : SfA ws w kl kc r L ck F nx seen cnt A c T) (hall : ∀ x ∈ L, seen.contains x.born = true) (hC : ∀ p, C p → F p = true) (hn : ∀ p, C p → ∃ x, x ∈ nx p ∧ C x) (hL : L.length ≤ 2100000) : SfB ws w kl kc C nx L ck F cnt [] 0 A c T := by
  have ct : ∀ p, C p → cnt p = inLeft F (nx p) := fun p hp => by
    obtain ⟨x, hx, e⟩ := I.s.mem.1 (hC p hp)
    rw [← e]; exact I.c1 x hx (hall x hx)
  have si : SiftI nx C F cnt [] := ⟨hC, fun p hp => by rw [ct p hp]; simp⟩
  refine ⟨I.u, I.s, I.n, si, fun q => by have := I.cb q; omega, I.q, fun p hp => ?_, I.k0, I.kw, by omega, by have := I.tl; omega⟩
  obtain ⟨x, hx, e1, _, e2⟩ := I.tz p hp
  refine ⟨fun h => ?_, by rw [← e1]; exact I.s.tm.k6 x hx⟩
  have := si.pos hn h
  omega
theorem SfB.ext (I : SfB ws w kl kc C nx L ck F cnt rem D A c T) (e : Ext w w') : SfB ws w' kl kc C nx L ck F cnt rem D A c T :=
  ⟨I.u.trans (Upd.ext e), I.s.ext e, I.n.ext e, I.si, I.cb, I.q.ext e, I.tz, I.k0, I.kw, I.db, I.tb⟩
theorem SfB.pop {p : Pt} (I : SfB ws w kl kc C nx L ck F cnt rem D A c (T ++ [p])) : SfB ws w kl kc C nx L ck F cnt rem D A c T ∧ ¬ C p ∧ P64 p := by
  have hq := I.q
  rw [List.length_append, List.flatMap_append, List.flatMap_singleton] at hq
  have htb := I.tb
  rw [List.length_append] at htb
  simp only [List.length_cons, List.length_nil] at htb
  have := I.tz p (by simp)
  exact ⟨⟨I.u, I.s, I.n, I.si, I.cb, own_init hq rfl, fun q hq => I.tz q (List.mem_append_left _ hq), I.k0, I.kw, I.db, by omega⟩, this.1, this.2⟩
/-- a place is struck -/
theorem SfB.strike {p : Pt} {prv : Pt → List Pt} {ck' : Nat} (I : SfB ws w kl kc C nx L ck F cnt [] D A c T) (tp : ∀ p q, (prv p).count q = (nx q).count p) (hp : F p = true) (hc : ¬ C p) (m : TM w' kl (L.filter fun x => !decide (x.p = p)) ck') (g : w.grownBy w' (some kl)) : SfB ws w' kl kc C nx (L.filter fun x => !decide (x.p = p)) ck' (fun x => F x && !decide (x = p)) cnt (prv p) D A c T ∧ (L.filter fun x => !decide (x.p = p)).length < L.length := by
  have u : Upd (fun k => k = kl) w w' := (Upd.refl _ w).grown g (fun k hk => .inl (by injection hk with hk; exact hk.symm))
  have hl := I.s.less hp
  have hkc : ¬ kc = kl := by have h1 := I.kw; have h2 := I.k0; omega
  have hdb : D + (L.filter fun x => !decide (x.p = p)).length * 2000000 ≤ 4200000000000 := Nat.le_trans (Nat.add_le_add_left (Nat.mul_le_mul_right _ (Nat.le_of_lt hl)) _) I.db
  have htb : T.length + (L.filter fun x => !decide (x.p = p)).length * 2000000 ≤ 4200002100000 := Nat.le_trans (Nat.add_le_add_left (Nat.mul_le_mul_right _ (Nat.le_of_lt hl)) _) I.tb
  exact ⟨⟨I.u.trans u, I.s.del m, I.n.upd u hkc, I.si.drop tp hp hc, I.cb, I.q.upd u (fun k hk e => by rw [e] at hk; exact I.s.tm.not_ty _ (I.q.ty hk)), I.tz, I.k0, I.kw, hdb, htb⟩, hl⟩
/-- a count is one less -/
theorem SfB.dec {q : Pt} (I : SfB ws w kl kc C nx L ck F cnt (q :: rem) D A c T) (hD : D + 1 + L.length * 2000000 ≤ 4200000000000) (u : Upd (fun k => k = kc) w w') (n : CntM w' kc (fun x => if x = q then cnt q - 1 else cnt x)) : SfB ws w' kl kc C nx L ck F (fun x => if x = q then cnt q - 1 else cnt x) rem (D + 1) A c T := by
  have hkl : ¬ kl = kc := by have h1 := I.kw; have h2 := I.k0; omega
  refine ⟨⟨u.os.trans I.u.os, u.tape.trans I.u.tape, u.output.trans I.u.output, Nat.le_trans I.u.size u.size, fun j hj hn => (u.block j (Nat.lt_of_lt_of_le hj I.u.size) (fun e => by have := I.k0; omega)).trans (I.u.block j hj hn)⟩, I.s.upd u hkl, n, I.si.dec (if_pos rfl) (fun p hp => if_neg hp), fun x => ?_, I.q.upd u (fun k hk e => by rw [e] at hk; exact I.n.not_ty _ (I.q.ty hk)), I.tz, I.k0, I.kw, hD, I.tb⟩
  have h1 := I.cb q
  have h2 := I.cb x
  by_cases e : x = q
  · simp only [if_pos e]; omega
  · simp only [if_neg e]; omega
/-- a place is put on the list -/
theorem SfB.push {q : Pt} {A' : Option Addr} {c' : Nat} (I : SfB ws w kl kc C nx L ck F cnt rem D A c T) (hq : ¬ C q) (h6 : P64 q) (hT : T.length + 1 + L.length * 2000000 ≤ 4200002100000) (u : Upd (fun k => blk A c = some k) w w') (o : Own w' ws.heap.size 27 3 A' (T.length + 1) c' (T.flatMap ptC ++ ptC q)) : SfB ws w' kl kc C nx L ck F cnt rem D A' c' (T ++ [q]) := by
  have ht : ∀ k, blk A c = some k → Ty w k 27 := fun k hk => I.q.ty hk
  refine ⟨⟨u.os.trans I.u.os, u.tape.trans I.u.tape, u.output.trans I.u.output, Nat.le_trans I.u.size u.size, fun j hj hn => (u.block j (Nat.lt_of_lt_of_le hj I.u.size) (fun e => by have := (I.q.lt j e).1; omega)).trans (I.u.block j hj hn)⟩, I.s.upd u (fun e => I.s.tm.not_ty _ (ht _ e)), I.n.upd u (fun e => I.n.not_ty _ (ht _ e)), I.si, I.cb, by rw [List.length_append, List.flatMap_append, List.flatMap_singleton]; exact o, fun p hp => ?_, I.k0, I.kw, I.db, by rw [List.length_append]; exact hT⟩
  rcases List.mem_append.1 hp with hp | hp
  · exact I.tz p hp
  · rw [List.mem_singleton.1 hp]; exact ⟨hq, h6⟩
end
end Go.Proofs.Yteklohamkmiphaa
namespace Go.Proofs.Yteklohamkmiphaa
open Go.RowKit

def SiftOut (ws : World) (kl : Nat) (C : Pt → Prop) (e : Ending) (w' : World) : Prop := e = .returned (.tuple #[]) ∧ ∃ L ck F, SetM w' kl L ck F ∧ L.length ≤ 2100000 ∧ (∀ p, C p → F p = true) ∧ Upd (fun k => k = kl) ws w'
theorem SfA.start {ws : World} {kl ck : Nat} {L : List Pe} {F : Pt → Bool} (nx : Pt → List Pt) (h : SetM ws kl L ck F) {w1 : World} (t : TR w1 kl (ws.alloc (.map #[] 0)).heap.size L ck #[]) (e : Ext (ws.alloc (.map #[] 0)) w1) : SfA ws w1 kl ws.heap.size (ws.alloc (.map #[] 0)).heap.size L ck F nx #[] (fun _ => 0) none 0 [] :=
  ⟨Upd.ext (((Ext.refl ws).alloc _).trans e), ⟨t.m, h.get⟩, t, (CntM.made ws).ext e, fun x _ hs => by simp at hs, fun q _ => rfl, fun q => by omega, Own.nil _ _ _ _, fun p hp => (nomatch hp), by simp, Nat.le_refl _, by simp, h.tm.lt, by simpa using leftOf_le L #[]⟩
set_option maxRecDepth 100000 in
set_option maxHeartbeats 4000000 in
theorem sift_any (Fn Fp : Nat) (vn vp : Value) (eg1 : ∀ args w, (callFunc Fn args).run Try.prog w = .ok (.enter Fn args) w) (eg2 : ∀ args w, (callFunc Fp args).run Try.prog w = .ok (.enter Fp args) w) (nx pv : Pt → List Pt) (C : Pt → Prop) (lb kl ck : Nat) (L : List Pe) (F : Pt → Bool) (ws : World) (hs : Hid (SetM ws kl L ck F)) (hb : Hid (Bk ws lb 76 #[.map (some kl)]))
    (hN : Hid (NxtOk ws.heap.size (fun W => Upd (fun k => k = kl) ws W) Fn vn nx)) (hP : Hid (NxtOk ws.heap.size (fun W => Upd (fun k => k = kl) ws W) Fp vp pv)) (n6 : Hid (∀ p q, q ∈ nx p → P64 q)) (p6 : Hid (∀ p q, q ∈ pv p → P64 q)) (nl : Hid (∀ p, (nx p).length ≤ 2000000)) (pl : Hid (∀ p, (pv p).length ≤ 2000000)) (tp : Hid (∀ p q, (pv p).count q = (nx q).count p)) (hC : Hid (∀ p, C p → F p = true)) (hn : Hid (∀ p, C p → ∃ x, x ∈ nx p ∧ C x)) (hL : Hid (L.length ≤ 2100000)) :
    Calls Try.prog 46 #[.func (.func Fn) #[] #[vn], .func (.func Fp) #[] #[vp], .pointer (some ⟨lb, 0, none⟩)] ws (SiftOut ws kl C) := by
  have hmm := @run_makeMap Try.prog
  have X0 : Hid (Ext ws (ws.alloc (.map #[] 0))) := Lib.hid ((Ext.refl ws).alloc _)
  have b0 := X0.out.cell (hb.out.cell 0)
  have HS0 := Lib.hid (hs.out.ext X0.out)
  go_enter Try.func46, Try.ntmps46
  go_wp2_with (first
    | (at_range; refine wpList_range_tm rfl Try.underlying76 _ rfl rfl HS0.out.tm ?_; intro w1 tr1 ex1 sz1; have HR := Lib.hid (SfA.start nx hs.out tr1 ex1); clear tr1 ex1 sz1))
  go_frame
  clear b0
  obtain ⟨r, hr⟩ : ∃ r, r = (ws.alloc (.map #[] 0)).heap.size := ⟨_, rfl⟩
  obtain ⟨kc, hkc⟩ : ∃ k, k = ws.heap.size := ⟨_, rfl⟩
  rw [← hr, ← hkc] at HR ⊢
  clear hr hkc
  go_loopg [6, 7, 9, 24] (leftOf (L.map entT).toArray #[]).size (fun gg s6 _ _ _ wr => ∃ (seen : Array Nat) (cnt : Pt → Int) (A : Option Addr) (c n : Nat) (T : List Pt), gg = (leftOf (L.map entT).toArray seen).size ∧ s6 = .slice A n c ∧ n = T.length ∧ Hid (SfA ws wr kl kc r L ck F nx seen cnt A c T))
  case atStart => exact ⟨#[], _, none, 0, 0, [], rfl, rfl, rfl, HR⟩
  case round =>
    clear HR
    obtain ⟨seen, cnt, A, c, n, T, rfl, rfl, hnT, HI⟩ := hrel
    have HNT := Lib.hid hnT
    clear hnT
    go_wp2_with (first
      | (at_next; go_loud (refine wpList_next_tm rfl _ rfl rfl HI.out.t ?_ ?_)))
    · intro hdone
      have HDN := Lib.hid hdone
      clear hdone
      have IB := Lib.hid (HI.out.go (fun x hx => by simpa using HDN.out x hx) hC.out hn.out hL.out)
      have HL1 := hL
      clear HI HDN
      go_wp2
      go_loopg [6, 10, 12, 70] (L.length * 2000001 + n) (fun gg s6 _ _ _ wr => ∃ (L : List Pe) (ck : Nat) (F : Pt → Bool) (cnt : Pt → Int) (D : Nat) (A : Option Addr) (c n : Nat) (T : List Pt), gg = L.length * 2000001 + n ∧ s6 = .slice A n c ∧ n = T.length ∧ L.length ≤ 2100000 ∧ Hid (SfB ws wr kl kc C nx L ck F cnt [] D A c T))
      case atStart => exact ⟨L, ck, F, cnt, 0, A, c, n, T, rfl, rfl, HNT.out, HL1.out, IB⟩
      case round =>
        clear IB HL1
        obtain ⟨L, ck, F, cnt, D, A, c, n, T, rfl, rfl, hnT, hL1, HI⟩ := hrel
        rcases List.eq_nil_or_concat T with rfl | ⟨T, ⟨pn, po, pp⟩, rfl⟩
        · obtain rfl : n = 0 := hnT
          go_wp2
          go_end0
          exact ⟨rfl, L, ck, F, HI.out.s, hL1, HI.out.si.st, HI.out.u⟩
        · obtain ⟨n1, hn1⟩ : ∃ n, n = T.length := ⟨_, rfl⟩
          rw [List.concat_eq_append] at HI hnT
          rw [List.length_append, List.length_cons, List.length_nil, ← hn1] at hnT
          subst hnT
          have htb := HI.out.tb
          have hdb := HI.out.db
          rw [List.length_append, List.length_cons, List.length_nil, ← hn1] at htb
          have hnz : (0 : Int) < ((n1 + 1 : Nat) : Int) := by omega
          have hwr : IntKind.i64.wrap (((n1 + 1 : Nat) : Int) - 1) = (n1 : Int) := by rw [IntWalk.i64_in _ (by omega)]; omega
          obtain ⟨ad, hA, h0, h1⟩ := els_at ptC 3 ptC_len Pt.z HI.out.q.sl rfl (i := n1) (by rw [List.length_append, ← hn1]; exact Nat.lt_succ_self _) (by omega)
          have hgd : (T ++ [(⟨pn, po, pp⟩ : Pt)]).getD n1 Pt.z = ⟨pn, po, pp⟩ := by rw [hn1, List.getD_eq_getElem?_getD, List.getElem?_append_right (Nat.le_refl _), Nat.sub_self]; rfl
          rw [hgd] at h0 h1
          have q0 := h0 _ rfl
          have q1 := h1 0 _ rfl
          have q2 := h1 1 _ rfl
          simp only at q0 q1 q2
          obtain ⟨J, nC, h6⟩ := HI.out.pop
          have hnc : n1 + 1 ≤ c := by have := HI.out.q.le.1; rw [List.length_append, List.length_cons, List.length_nil, ← hn1] at this; exact this
          have hc63 := HI.out.q.le.2
          subst hA
          have EA : Hid (Ext wr (wr.alloc (.cells #[.int .i64 pn, .bool po, .int .i64 pp] 27))) := Lib.hid ((Ext.refl wr).alloc _)
          have hlb := (bk_map hb.out hs.out.tm.bk J.u).ext EA.out
          have lb0 := hlb.cell 0
          have J2 := J.ext EA.out
          have hlk := J2.s.look h6
          unfold ptV at hlk
          simp only at hlk
          obtain ⟨fb, hfb⟩ : ∃ b, F ⟨pn, po, pp⟩ = b := ⟨_, rfl⟩
          rw [hfb] at hlk
          have HJ := Lib.hid J2
          have HFB := Lib.hid hfb
          have HNC := Lib.hid nC
          have H6 := Lib.hid h6
          have HN1 := Lib.hid hn1
          clear h0 h1 hgd J J2 nC h6 hlb hfb hn1 HI
          cases fb with
          | false =>
            go_wp2
            go_roundg (L.length * 2000001 + n1)
            case measure => omega
            case rel => exact ⟨L, ck, F, cnt, D, _, c, n1, T, rfl, rfl, HN1.out, hL1, HJ⟩
          | true =>
            have hcallX := fun W hW => hP.out W hW ⟨pn, po, pp⟩ H6.out
            have hlen := pl.out ⟨pn, po, pp⟩
            unfold ptV at hcallX
            simp only at hcallX
            obtain ⟨n2, hn2⟩ : ∃ n, n = (pv ⟨pn, po, pp⟩).length := ⟨_, rfl⟩
            rw [← hn2] at hcallX hlen
            have HCALL := Lib.hid hcallX
            have HN2 := Lib.hid hn2
            have BP : Hid (Bk (wr.alloc (.cells #[.int .i64 pn, .bool po, .int .i64 pp] 27)) wr.heap.size 27 #[.int .i64 pn, .bool po, .int .i64 pp]) := Lib.hid (Bk.new _ _ _)
            clear hcallX hn2
            go_wp2_with (first
              | (at_delete; go_loud (refine wpList_del_tm rfl Try.underlying76 _ _ rfl rfl ⟨pn, po, pp⟩ rfl HJ.out.s.tm H6.out ?_); intro w2 tm2 gm2 sz2; have J2 := Lib.hid (HJ.out.strike tp.out HFB.out HNC.out tm2 gm2); have b2 := (bk_map BP.out HJ.out.s.tm.bk ((Upd.refl _ _).grown gm2 (fun k hk => .inl (by injection hk with hk; exact hk.symm)))); have p0 := b2.cell 0; have p1 := b2.cell 1; have p2 := b2.cell 2; clear tm2 gm2 sz2 b2)
              | (go_at_fn Fp; go_loud (refine (HCALL.out _ J2.out.1.u).mono ?_); rintro e w3 ⟨A2, c2, rfl, sl3, x3, f3⟩; have SL3 := Lib.hid sl3; have J3 := Lib.hid (J2.out.1.ext x3); have F3 := Lib.hid f3; clear sl3 x3 f3))
            obtain ⟨L2, hL2⟩ : ∃ l, l = L.filter (fun x => !decide (x.p = ⟨pn, po, pp⟩)) := ⟨_, rfl⟩
            obtain ⟨F2, hF2⟩ : ∃ f : Pt → Bool, f = fun x => F x && !decide (x = ⟨pn, po, pp⟩) := ⟨_, rfl⟩
            rw [← hL2, ← hF2] at J3
            have hlt2 : L2.length < L.length := by rw [hL2]; exact J2.out.2
            obtain ⟨wz, hwz⟩ : ∃ wz, wz = w3 := ⟨_, rfl⟩
            have HDIS : Hid (∀ k k2, blk (some ad) c = some k → blk A2 c2 = some k2 → 0 < n2 → k ≠ k2) := Lib.hid (fun k k2 h1 h2 _ e => by
              have q1 := J2.out.1.q.lt k h1
              rcases F3.out k2 h2 with q2 | q2 <;> omega)
            have J3' : Hid (SfB ws w3 kl kc C nx L2 ck F2 cnt ((pv ⟨pn, po, pp⟩).drop 0) (D + 0) (some ad) c T) := Lib.hid (by rw [List.drop_zero, Nat.add_zero]; exact J3.out)
            clear hL2 hF2 J2 J3 F3 p0 p1 p2 lb0 hlk q0 q1 q2 hwz HCALL
            go_loopg [6, 12, 70] n2 (fun gg s6 _ s70 wr => ∃ (i : Nat) (cnt : Pt → Int) (A : Option Addr) (c n : Nat) (T' : List Pt), s6 = .slice A n c ∧ n = T'.length ∧ s70 = .int .i64 i ∧ i ≤ n2 ∧ gg = n2 - i ∧ n ≤ n1 + i ∧ Hid (SfB ws wr kl kc C nx L2 ck F2 cnt ((pv ⟨pn, po, pp⟩).drop i) (D + i) A c T') ∧ Hid (Sl wr 3 A2 n2 c2 ((pv ⟨pn, po, pp⟩).flatMap ptC)) ∧ Hid (∀ k k2, blk A c = some k → blk A2 c2 = some k2 → 0 < n2 → k ≠ k2))
            case atStart => exact ⟨0, cnt, some ad, c, n1, T, rfl, HN1.out, rfl, Nat.zero_le _, rfl, Nat.le_refl _, J3', by rw [HN2.out]; have q := SL3.out; exact Lib.hid (by rw [← HN2.out]; exact q), HDIS⟩
            case round =>
              clear J3' SL3 HDIS
              obtain ⟨i, cnt, A, c, n, T', rfl, hnT, rfl, hi, rfl, hni, HI, SL, HDIS⟩ := hrel
              have HNT := Lib.hid hnT
              clear hnT
              by_cases hil : i < n2
              · have hiL : i < (pv ⟨pn, po, pp⟩).length := by rw [← HN2.out]; exact hil
                have hiz : (i : Int) < (n2 : Int) := by omega
                obtain ⟨a2, hA2, h0, h1⟩ := els_at ptC 3 ptC_len Pt.z (by have q := SL.out; exact q) HN2.out hiL (by omega)
                have hqm := getD_mem' Pt.z hiL
                have hq6 := p6.out _ _ hqm
                have hdr : (pv ⟨pn, po, pp⟩).drop i = (pv ⟨pn, po, pp⟩).getD i Pt.z :: (pv ⟨pn, po, pp⟩).drop (i + 1) := by
                  rw [List.drop_eq_getElem_cons hiL, List.getD_eq_getElem?_getD, List.getElem?_eq_getElem hiL]; rfl
                obtain ⟨⟨qn, qo, qp⟩, hq⟩ : ∃ q, (pv ⟨pn, po, pp⟩).getD i Pt.z = q := ⟨_, rfl⟩
                rw [hq] at h0 h1 hq6 hdr
                rw [hdr] at HI
                have q0 := h0 _ rfl
                have q1 := h1 0 _ rfl
                have q2 := h1 1 _ rfl
                simp only at q0 q1 q2
                subst hA2
                have HQ6 := Lib.hid hq6
                clear h0 h1 hqm hq hdr hq6
                go_upto_region 21 with fail
                obtain ⟨w9, hw9⟩ : ∃ w9, w9 = wr.alloc (.cells #[.int .i64 qn, .bool qo, .int .i64 qp] 27) := ⟨_, rfl⟩
                obtain ⟨qb, hqb⟩ : ∃ b, b = wr.heap.size := ⟨_, rfl⟩
                have EA : Hid (Ext wr w9) := Lib.hid (by rw [hw9]; exact (Ext.refl wr).alloc _)
                have BP9 : Bk w9 qb 27 #[.int .i64 qn, .bool qo, .int .i64 qp] := by rw [hw9, hqb]; exact Bk.new _ _ _
                rw [← hw9, ← hqb]
                have HQB := Lib.hid hqb
                clear hw9 hqb q0 q1 q2
                have I9 := Lib.hid (HI.out.ext EA.out)
                have xd : Ext w9 w9.drew := (Ext.refl w9).drew
                obtain ⟨Lc, ckc, tmc, hcn⟩ := I9.out.n.ext xd
                obtain ⟨cc, hcc⟩ : ∃ c, c = cnt ⟨qn, qo, qp⟩ := ⟨_, rfl⟩
                have hcb := I9.out.cb ⟨qn, qo, qp⟩
                rw [← hcc] at hcb
                have Q1 : ∀ y : Zt (CntR kc) w9.drew, y.W.cell? ⟨qb, 0, none⟩ = some (.int .i64 qn) := fun y => Bk.cell (bk_map (BP9.ext xd) tmc.bk y.x.1) 0
                have Q2 : ∀ y : Zt (CntR kc) w9.drew, y.W.cell? ⟨qb, 1, none⟩ = some (.bool qo) := fun y => Bk.cell (bk_map (BP9.ext xd) tmc.bk y.x.1) 1
                have Q3 : ∀ y : Zt (CntR kc) w9.drew, y.W.cell? ⟨qb, 2, none⟩ = some (.int .i64 qp) := fun y => Bk.cell (bk_map (BP9.ext xd) tmc.bk y.x.1) 2
                have Q4 : ∀ y : Zt (CntR kc) w9.drew, (Instr.lookup 102 (.map (some kc)) (.agg #[.int .i64 qn, .bool qo, .int .i64 qp]) false).run Try.prog y.W = .ok (.int .i64 cc) y.W := fun y => by
                  have := (y.x.2 cnt ⟨Lc, ckc, tmc, hcn⟩).look HQ6.out
                  rw [← hcc] at this
                  exact this
                have hcp := hcn ⟨qn, qo, qp⟩
                rw [← hcc] at hcp
                have hwr2 : IntKind.i64.wrap (cc - 1) = cc - 1 := IntWalk.i64_in _ (by omega)
                have HTM := Lib.hid tmc
                have HCN := Lib.hid hcn
                have HCP := Lib.hid hcp
                have HCC := Lib.hid hcc
                have HBP9 := Lib.hid BP9
                clear tmc hcn hcp hcc BP9
                refine wp_region_ordR (R := (CntR kc)) [0,0,3,7,3,19,63] (.flo [0,1,2,3] (.ext 4 (.flo [5] (.one 6 (.fin))))) (by kernel_rfl) (by kernel_rfl) (by intro _ _ d _ _ h; cases d <;> exact h) ?_
                (refine ord_floR (pick_cons rfl (pick_cons rfl (pick_cons rfl (pick_cons rfl pick_nil)))) ?_; (repeat (go_big_quiet_step (fail))); refine wpQuiet_nil ?_; show ordWalkR _ _ _ _ _ _ _ _)
                refine ord_extR (pick_cons rfl pick_nil) ?_; intro K_ hK_
                clear Q1 Q2 Q3 Q4
                go_wp2_with (refine wpList_entry_tm rfl Try.underlying102 _ _ rfl rfl ⟨qn, qo, qp⟩ rfl HTM.out HQ6.out (.int .i64 0) (zeroIn _) ?_; intro w2' L2' ck2 β tm2 hx2 pp2 gm2 sz2; have RE := Lib.hid (CntR.entry HTM.out tm2 pp2 gm2); rw [HCP.out]; have T2 := Lib.hid tm2; have H2 := Lib.hid hx2; have P2 := Lib.hid pp2; clear tm2 hx2 pp2 gm2 sz2)
                go_simp
                refine ordNextR.mk RE.out ?_
                (refine ord_floR (pick_cons rfl pick_nil) ?_; (repeat (go_big_quiet_step (fail))); refine wpQuiet_nil ?_; show ordWalkR _ _ _ _ _ _ _ _)
                refine ord_oneR (pick_cons rfl pick_nil) ?_; intro K_ hK_
                go_wp2_with (refine wpList_store_tm rfl _ _ _ rfl rfl β rfl _ rfl T2.out ⟨qn, qo, qp⟩ H2.out ?_; intro w3' L3 tm3 pp3 gm3 sz3; have T3 := Lib.hid tm3; have P3 := Lib.hid pp3; have G3 := Lib.hid gm3; clear tm3 pp3 gm3 sz3)
                go_simp
                refine ord_finR ?_
                have u9 : Upd (fun k => k = kc) w9 w3' := ((Upd.ext xd).trans RE.out.1).trans ((Upd.refl _ w2').grown G3.out (fun k hk => .inl (by injection hk with hk; exact hk.symm)))
                have n9 := CntM.store HCN.out P2.out T3.out P3.out
                have hmap : w9.heap[kc]? = some (.map (Lc.map entT).toArray ckc) := HTM.out.bk
                have K9 := I9.out.dec (by omega) u9 (by have q := n9; rw [HCC.out] at q; exact q)
                have S9 := sl_map (SL.out.ext EA.out) hmap u9
                have B9 := bk_map HBP9.out hmap u9
                have HK9 := Lib.hid K9
                have HS9 := Lib.hid S9
                have b0 := B9.cell 0
                have b1 := B9.cell 1
                have b2 := B9.cell 2
                have hlb := bk_map hb.out hs.out.tm.bk K9.u
                have lb0 := hlb.cell 0
                have hlk := K9.s.look HQ6.out
                have hlc := K9.n.look HQ6.out
                simp only [if_true] at hlc
                unfold ptV at hlk hlc
                simp only at hlk hlc
                rw [← HCC.out] at hlc
                obtain ⟨fb, hfb⟩ : ∃ b, F2 ⟨qn, qo, qp⟩ = b := ⟨_, rfl⟩
                rw [hfb] at hlk
                obtain ⟨c1, hc1⟩ : ∃ c, cc - 1 = c := ⟨_, rfl⟩
                rw [hc1] at hlc
                have HC1 := Lib.hid hc1
                clear u9 n9 hmap K9 S9 B9 hlb hfb hc1
                cases fb with
                | false =>
                  go_wp2
                  go_roundg (n2 - (i + 1))
                  case measure => omega
                  case rel => exact ⟨i + 1, _, A, c, n, T', rfl, HNT.out, by go_num, by omega, rfl, by omega, HK9, HS9, HDIS⟩
                | true =>
                  by_cases hz : c1 = 0
                  · subst hz
                    have nC : ¬ C ⟨qn, qo, qp⟩ := fun h => by
                      have := HK9.out.si.pos hn.out h
                      simp only [if_true] at this
                      rw [← HCC.out, HC1.out] at this
                      omega
                    have HNC2 := Lib.hid nC
                    have EB : Hid (Ext w3' (w3'.alloc (.cells #[.int .i64 qn, .bool qo, .int .i64 qp] 27))) := Lib.hid ((Ext.refl w3').alloc _)
                    have HO1 : Hid (Own (w3'.alloc (.cells #[.int .i64 qn, .bool qo, .int .i64 qp] 27)) ws.heap.size 27 3 A n c (T'.flatMap ptC)) := Lib.hid (by rw [HNT.out]; exact HK9.out.q.ext EB.out)
                    have hb1 : ws.heap.size ≤ (w3'.alloc (.cells #[.int .i64 qn, .bool qo, .int .i64 qp] 27)).heap.size := Nat.le_trans HK9.out.u.size EB.out.size
                    clear nC
                    go_wp2_with (at_builtin; go_loud (refine wpList_append_two _ elem_pt ws.heap.size _ _ rfl rfl A n c (T'.flatMap ptC) rfl HO1.out (some ⟨w3'.heap.size, 0, none⟩) 1 1 [.int .i64 qn, .bool qo, .int .i64 qp] rfl (Sl.one w3' #[.int .i64 qn, .bool qo, .int .i64 qp] 27 3 rfl) (by intro u hu; simp at hu; rcases hu with rfl | rfl | rfl <;> rfl) (by omega) (by decide) hb1 ?_); intro A3 c3 w4 o4 g4 x4; have O4 := Lib.hid o4; have G4 := Lib.hid g4; have X4 := Lib.hid x4; clear o4 g4 x4)
                    go_roundg (n2 - (i + 1))
                    case measure => omega
                    case rel =>
                      have u4 : Upd (fun k => blk A c = some k) w3' w4 := ((Upd.refl _ w3').alloc _).grown G4.out (fun k hk => .inl hk)
                      have hz3 : w3'.heap.size ≤ (w3'.alloc (.cells #[.int .i64 qn, .bool qo, .int .i64 qp] 27)).heap.size := EB.out.size
                      refine ⟨i + 1, _, A3, c3, n + 1, _, rfl, by rw [List.length_append, ← HNT.out]; rfl, by go_num, by omega, rfl, by omega, Lib.hid (HK9.out.push HNC2.out HQ6.out (by have q := HNT.out; omega) u4 (by have q := O4.out; rw [HNT.out] at q; exact q)), Lib.hid (HS9.out.upd u4 (fun k hk e => HDIS.out k k e hk (by omega) rfl)), Lib.hid (fun k k2 h1 h2 h3 => ?_)⟩
                      rcases X4.out with ⟨e1, e2⟩ | ⟨e1, _⟩
                      · rw [e1, e2] at h1; exact HDIS.out k k2 h1 h2 h3
                      · rw [e1] at h1
                        have q1 := sl_lt HS9.out h3 (by omega) h2
                        rw [← Option.some.inj h1]
                        omega
                  · have hzf : (c1 == 0) = false := by simpa using hz
                    clear hz
                    go_wp2
                    go_roundg (n2 - (i + 1))
                    case measure => omega
                    case rel => exact ⟨i + 1, _, A, c, n, T', rfl, HNT.out, by go_num, by omega, rfl, by omega, HK9, HS9, HDIS⟩
              · obtain rfl : i = n2 := by omega
                go_wp2
                go_roundg (L2.length * 2000001 + n)
                case measure => omega
                case rel =>
                  have q := HI.out
                  rw [HN2.out, List.drop_length] at q
                  exact ⟨L2, ck, F2, cnt, D + _, A, c, n, T', rfl, rfl, HNT.out, by omega, Lib.hid q⟩
    · rintro ⟨⟨pn, po, pp⟩, xv, xb⟩ w1 hx hs tr1 g1 z1 hen hlt
      have I1 := HI.out.take hx (by simpa using hs) tr1 g1 hlt
      have h6 := I1.s.tm.k6 _ hx
      have hcall := hN.out (w1.alloc (.cells #[.int .i64 pn, .bool po, .int .i64 pp] 27)) (I1.u.trans (Upd.ext ((Ext.refl w1).alloc _))) _ h6
      have hlen := nl.out ⟨pn, po, pp⟩
      unfold ptV at hen hcall ⊢
      simp only at hen hcall h6 hlt ⊢
      obtain ⟨n2, hn2⟩ : ∃ n, n = (nx ⟨pn, po, pp⟩).length := ⟨_, rfl⟩
      rw [← hn2] at hcall hlen
      obtain ⟨pb, hpb⟩ : ∃ b, b = w1.heap.size := ⟨_, rfl⟩
      have HPB := Lib.hid hpb
      have HCALL := Lib.hid hcall
      have HI1 := Lib.hid I1
      have H6 := Lib.hid h6
      have HN2 := Lib.hid hn2
      clear hx hs tr1 g1 z1 I1 h6 hcall hn2 hpb
      go_wp2_with (first
        | (go_at_fn Fn; go_loud (refine HCALL.out.mono ?_); rintro e w2 ⟨A2, c2, rfl, sl2, x2, _⟩; have SL2 := Lib.hid sl2; have X2 := Lib.hid (((Ext.refl w1).alloc (.cells #[.int .i64 pn, .bool po, .int .i64 pp] 27)).trans x2); have BP : Hid (Bk w2 w1.heap.size 27 #[.int .i64 pn, .bool po, .int .i64 pp]) := Lib.hid ((Bk.new _ _ _).ext x2); clear sl2 x2))
      rw [← HPB.out] at BP ⊢
      have HI2 := Lib.hid (HI1.out.ext X2.out)
      go_loopg [9, 24] n2 (fun gg _ s24 wr => ∃ (k : Nat) (cnt' : Pt → Int), s24 = .int .i64 k ∧ k ≤ n2 ∧ gg = n2 - k ∧ Hid (SfP ws wr kl kc r L ck F nx seen ⟨⟨pn, po, pp⟩, xv, xb⟩ cnt' k A c T) ∧ Hid (Sl wr 3 A2 n2 c2 ((nx ⟨pn, po, pp⟩).flatMap ptC)) ∧ Hid (Bk wr pb 27 #[.int .i64 pn, .bool po, .int .i64 pp]))
      case atStart => exact ⟨0, cnt, rfl, Nat.zero_le _, rfl, HI2, by rw [HN2.out]; have q := SL2.out; exact Lib.hid (by rw [← HN2.out]; exact q), BP⟩
      case round =>
        clear HI2 SL2 BP
        obtain ⟨k, cnt', rfl, hk, rfl, HQ, SL, BP⟩ := hrel
        by_cases hkl : k < n2
        · have hkL : k < (nx ⟨pn, po, pp⟩).length := by rw [← HN2.out]; exact hkl
          have hkz : (k : Int) < (n2 : Int) := by omega
          obtain ⟨ad, hA2, h0, h1⟩ := els_at ptC 3 ptC_len Pt.z (by have q := SL.out; exact q) HN2.out hkL (by omega)
          subst hA2
          have hqm := getD_mem' Pt.z hkL
          have hq6 := n6.out _ _ hqm
          obtain ⟨⟨qn, qo, qp⟩, hq⟩ : ∃ q, (nx ⟨pn, po, pp⟩).getD k Pt.z = q := ⟨_, rfl⟩
          rw [hq] at h0 h1 hq6
          have q0 := h0 _ rfl
          have q1 := h1 0 _ rfl
          have q2 := h1 1 _ rfl
          simp only at q0 q1 q2
          have EA : Hid (Ext wr (wr.alloc (.cells #[.int .i64 qn, .bool qo, .int .i64 qp] 27))) := Lib.hid ((Ext.refl wr).alloc _)
          have hlb := (bk_map hb.out hs.out.tm.bk HQ.out.u).ext EA.out
          have lb0 := hlb.cell 0
          have hlk := (HQ.out.s.ext EA.out).look hq6
          unfold ptV at hlk
          obtain ⟨fb, hfb⟩ : ∃ b, F ⟨qn, qo, qp⟩ = b := ⟨_, rfl⟩
          simp only at hlk
          rw [hfb] at hlk
          have HFB : Hid (F ((nx ⟨pn, po, pp⟩).getD k Pt.z) = fb) := Lib.hid (by rw [hq]; exact hfb)
          clear h0 h1 hqm hq hfb hlb
          cases fb with
          | false =>
            go_wp2
            go_roundg (n2 - (k + 1))
            case measure => omega
            case rel => exact ⟨k + 1, cnt', by go_num, by omega, rfl, Lib.hid ((HQ.out.ext EA.out).skip hkL HFB.out), Lib.hid (SL.out.ext EA.out), Lib.hid (BP.out.ext EA.out)⟩
          | true =>
            go_upto_region 9 with fail
            obtain ⟨w9, hw9⟩ : ∃ w9, w9 = wr.alloc (.cells #[.int .i64 qn, .bool qo, .int .i64 qp] 27) := ⟨_, rfl⟩
            rw [← hw9] at EA ⊢
            have HQ9 := Lib.hid (HQ.out.ext EA.out)
            have BP9 := BP.out.ext EA.out
            have xd : Ext w9 w9.drew := (Ext.refl w9).drew
            obtain ⟨Lc, ckc, tmc, hcn⟩ := HQ9.out.n.ext xd
            obtain ⟨cc, hcc⟩ : ∃ c, c = cnt' ⟨pn, po, pp⟩ := ⟨_, rfl⟩
            have hcb := HQ9.out.cb ⟨pn, po, pp⟩
            rw [← hcc] at hcb
            have Q1 : ∀ y : Zt (CntR kc) w9.drew, y.W.cell? ⟨pb, 0, none⟩ = some (.int .i64 pn) := fun y => Bk.cell (bk_map (BP9.ext xd) tmc.bk y.x.1) 0
            have Q2 : ∀ y : Zt (CntR kc) w9.drew, y.W.cell? ⟨pb, 1, none⟩ = some (.bool po) := fun y => Bk.cell (bk_map (BP9.ext xd) tmc.bk y.x.1) 1
            have Q3 : ∀ y : Zt (CntR kc) w9.drew, y.W.cell? ⟨pb, 2, none⟩ = some (.int .i64 pp) := fun y => Bk.cell (bk_map (BP9.ext xd) tmc.bk y.x.1) 2
            have Q4 : ∀ y : Zt (CntR kc) w9.drew, (Instr.lookup 102 (.map (some kc)) (.agg #[.int .i64 pn, .bool po, .int .i64 pp]) false).run Try.prog y.W = .ok (.int .i64 cc) y.W := fun y => by
              have := (y.x.2 cnt' ⟨Lc, ckc, tmc, hcn⟩).look H6.out
              rw [← hcc] at this
              exact this
            have hcp := hcn ⟨pn, po, pp⟩
            rw [← hcc] at hcp
            have hwr : IntKind.i64.wrap (cc + 1) = cc + 1 := IntWalk.i64_in _ (by omega)
            have HTM := Lib.hid tmc
            have HCN := Lib.hid hcn
            have HCP := Lib.hid hcp
            have HCC := Lib.hid hcc
            have HBP9 := Lib.hid BP9
            clear tmc hcn hcp hcc BP9 hw9
            refine wp_region_ordR (R := (CntR kc)) [0,0,3,7,3,19,63] (.flo [0,1,2,3] (.ext 4 (.flo [5] (.one 6 (.fin))))) (by kernel_rfl) (by kernel_rfl) (by intro _ _ d _ _ h; cases d <;> exact h) ?_
            (refine ord_floR (pick_cons rfl (pick_cons rfl (pick_cons rfl (pick_cons rfl pick_nil)))) ?_; (repeat (go_big_quiet_step (fail))); refine wpQuiet_nil ?_; show ordWalkR _ _ _ _ _ _ _ _)
            refine ord_extR (pick_cons rfl pick_nil) ?_; intro K_ hK_
            clear Q1 Q2 Q3 Q4
            go_wp2_with (refine wpList_entry_tm rfl Try.underlying102 _ _ rfl rfl ⟨pn, po, pp⟩ rfl HTM.out H6.out (.int .i64 0) (zeroIn _) ?_; intro w2' L2 ck2 β tm2 hx2 pp2 gm2 sz2; have RE := Lib.hid (CntR.entry HTM.out tm2 pp2 gm2); rw [HCP.out]; have T2 := Lib.hid tm2; have H2 := Lib.hid hx2; have P2 := Lib.hid pp2; clear tm2 hx2 pp2 gm2 sz2)
            go_simp
            refine ordNextR.mk RE.out ?_
            (refine ord_floR (pick_cons rfl pick_nil) ?_; (repeat (go_big_quiet_step (fail))); refine wpQuiet_nil ?_; show ordWalkR _ _ _ _ _ _ _ _)
            refine ord_oneR (pick_cons rfl pick_nil) ?_; intro K_ hK_
            go_wp2_with (refine wpList_store_tm rfl _ _ _ rfl rfl β rfl _ rfl T2.out ⟨pn, po, pp⟩ H2.out ?_; intro w3' L3 tm3 pp3 gm3 sz3; have T3 := Lib.hid tm3; have P3 := Lib.hid pp3; have G3 := Lib.hid gm3; clear tm3 pp3 gm3 sz3)
            go_simp
            refine ord_finR ?_
            go_wp2
            go_roundg (n2 - (k + 1))
            case measure => omega
            case rel =>
              have u9 : Upd (fun k => k = kc) w9 w3' := ((Upd.ext xd).trans RE.out.1).trans ((Upd.refl _ w2').grown G3.out (fun k hk => .inl (by injection hk with hk; exact hk.symm)))
              have n9 := CntM.store HCN.out P2.out T3.out P3.out
              have I9 := HQ9.out.inc hkL (by rw [← HN2.out]; exact hlen) HFB.out u9 (by have q := n9; rw [HCC.out] at q; exact q)
              exact ⟨k + 1, _, by go_num, by omega, rfl, Lib.hid I9, Lib.hid (sl_map (SL.out.ext EA.out) (show w9.heap[kc]? = _ from HTM.out.bk) u9), Lib.hid (bk_map HBP9.out (show w9.heap[kc]? = _ from HTM.out.bk) u9)⟩
        · obtain rfl : k = n2 := by omega
          have p0 := BP.out.cell 0
          have p1 := BP.out.cell 1
          have p2 := BP.out.cell 2
          have hlk := HQ.out.n.look H6.out
          unfold ptV at hlk
          simp only at hlk
          obtain ⟨cc, hcc⟩ : ∃ c, cnt' ⟨pn, po, pp⟩ = c := ⟨_, rfl⟩
          rw [hcc] at hlk
          by_cases h0 : cc = 0
          · subst h0
            have HCC := Lib.hid hcc
            have hz := HQ.out.tl
            have HLL := hL.out
            have hTl : n ≤ 2100000 := by have h1 := HNT.out; have h2 := hz; omega
            have EA : Hid (Ext wr (wr.alloc (.cells #[.int .i64 pn, .bool po, .int .i64 pp] 27))) := Lib.hid ((Ext.refl wr).alloc _)
            have HO1 : Hid (Own (wr.alloc (.cells #[.int .i64 pn, .bool po, .int .i64 pp] 27)) ws.heap.size 27 3 A n c (T.flatMap ptC)) := Lib.hid (by rw [HNT.out]; exact HQ.out.q.ext EA.out)
            have hb1 : ws.heap.size ≤ (wr.alloc (.cells #[.int .i64 pn, .bool po, .int .i64 pp] 27)).heap.size := Nat.le_trans HQ.out.u.size EA.out.size
            clear hcc hz
            go_wp2_with (at_builtin; go_loud (refine wpList_append_two _ elem_pt ws.heap.size _ _ rfl rfl A n c (T.flatMap ptC) rfl HO1.out (some ⟨wr.heap.size, 0, none⟩) 1 1 [.int .i64 pn, .bool po, .int .i64 pp] rfl (Sl.one wr #[.int .i64 pn, .bool po, .int .i64 pp] 27 3 rfl) (by intro u hu; simp at hu; rcases hu with rfl | rfl | rfl <;> rfl) (by omega) (by decide) hb1 ?_); intro A3 c3 w3 o3 g3 x3; have O3 := Lib.hid o3; have G3 := Lib.hid g3; clear o3 g3 x3)
            go_roundg (leftOf (L.map entT).toArray (seen.push xb)).size
            case measure => exact hlt
            case rel =>
              have u9 : Upd (fun k => blk A c = some k) wr w3 := ((Upd.refl _ wr).alloc _).grown G3.out (fun k hk => .inl hk)
              exact ⟨_, cnt', A3, c3, n + 1, _, rfl, rfl, by rw [List.length_append, ← HNT.out]; rfl, Lib.hid (HQ.out.put HN2.out HCC.out u9 (by have q := O3.out; rw [HNT.out] at q; exact q))⟩
          · have hne : (cc == 0) = false := by simpa using h0
            clear hcc h0
            go_wp2
            go_roundg (leftOf (L.map entT).toArray (seen.push xb)).size
            case measure => exact hlt
            case rel => exact ⟨_, cnt', A, c, n, T, rfl, rfl, HNT.out, Lib.hid (HQ.out.done HN2.out)⟩
end Go.Proofs.Yteklohamkmiphaa
namespace Go.Proofs.Yteklohamkmiphaa
open Go.RowKit

def Gr.nxt (g : Gr) (p : Pt) : List Pt := (g.mvs p).map g.tgt
theorem MpL.blocks {α : Type} {enc : α → List Value} {sz : Nat} {T : TypeId} {w0 w : World} {kb ck : Nat} {L L1 L3 : List Pe} {K : Pt → List α} (h : MpL enc sz T w0 w kb L ck K) {q : Pt} {A A' : Option Addr} {c c' n N : Nat} (hbk : blkV (getE L q) = blk A c) {v : Value} (p1 : Put L q v L1) (p3 : Put L1 q (.slice A' n c') L3) (hb : ∀ k, blk A' c' = some k → blk A c = some k ∨ N ≤ k) : ∀ k, kmB kb L3 k → kmB kb L k ∨ N ≤ k := by
  have _ := h
  intro k hk
  rcases hk with hk | ⟨r, hk⟩
  · exact .inl (.inl hk)
  · rw [p3.get] at hk
    by_cases e : r = q
    · rw [if_pos e] at hk
      rcases hb k hk with q1 | q1
      · exact .inl (.inr ⟨q, hbk.trans q1⟩)
      · exact .inr q1
    · rw [if_neg e, p1.get, if_neg e] at hk
      exact .inl (.inr ⟨r, hk⟩)
/-- what stands in memory -/
structure RnI (w w1 wr : World) (g : Gr) (bm bq : Nat) (Lm : List Pe) (ckm : Nat) (seen : Array Nat) (Ll : List Pe) (ckl : Nat) (F : Pt → Bool) (Lb : List Pe) (ckb : Nat) (Kb : Pt → List Pt) : Prop where
  ex : Ext w wr
  cq : Bk wr bq 74 #[.map (some bm)]
  cl : Bk wr (bq + 2) 76 #[.map (some (bq + 1))]
  cv : Bk wr (bq + 4) 100 #[.map (some (bq + 3))]
  s : SetM wr (bq + 1) Ll ckl F
  b : MpL ptC 3 27 w1 wr (bq + 3) Lb ckb Kb
  t : TR wr bm (bq + 5) Lm ckm seen
  n0 : bq = w.heap.size
  n1 : w1.heap.size = bq + 3
  nm : bm < w.heap.size
section
variable {w w1 wr wr' : World} {g : Gr} {bm bq ckm ckl ckb : Nat} {Lm Ll Lb : List Pe} {seen : Array Nat} {F : Pt → Bool} {Kb : Pt → List Pt}
theorem RnI.ext (I : RnI w w1 wr g bm bq Lm ckm seen Ll ckl F Lb ckb Kb) (e : Ext wr wr') : RnI w w1 wr' g bm bq Lm ckm seen Ll ckl F Lb ckb Kb :=
  ⟨I.ex.trans e, I.cq.ext e, I.cl.ext e, I.cv.ext e, I.s.ext e, I.b.ext e, I.t.ext e, I.n0, I.n1, I.nm⟩
theorem RnI.next (I : RnI w w1 wr g bm bq Lm ckm seen Ll ckl F Lb ckb Kb) {seen' : Array Nat} (t : TR wr' bm (bq + 5) Lm ckm seen') (gr : wr.grownBy wr' (some (bq + 5))) : RnI w w1 wr' g bm bq Lm ckm seen' Ll ckl F Lb ckb Kb := by
  have u : Upd (fun k => k = bq + 5) wr wr' := (Upd.refl _ wr).grown gr (fun k hk => .inl (by injection hk with hk; exact hk.symm))
  have h0 := I.n0
  refine ⟨upd_ext0 I.ex u (fun k e => by omega), I.cq.updB u (fun e => by omega), I.cl.updB u (fun e => by omega), I.cv.updB u (fun e => by omega), I.s.upd u (fun e => by omega), I.b.upd u (fun k hk e => ?_), t, I.n0, I.n1, I.nm⟩
  rcases hk with hk | ⟨q, hk⟩
  · omega
  · rw [e] at hk; exact I.t.not_ty _ (I.b.ty hk)
/-- a place is marked -/
theorem RnI.mark (I : RnI w w1 wr g bm bq Lm ckm seen Ll ckl F Lb ckb Kb) {p : Pt} {L' : List Pe} {ck' : Nat} (m : TM wr' (bq + 1) L' ck') (pp : Put Ll p (.bool true) L') (gm : wr.grownBy wr' (some (bq + 1))) : RnI w w1 wr' g bm bq Lm ckm seen L' ck' (fun q => F q || decide (q = p)) Lb ckb Kb := by
  have u : Upd (fun k => k = bq + 1) wr wr' := (Upd.refl _ wr).grown gm (fun k hk => .inl (by injection hk with hk; exact hk.symm))
  have h0 := I.n0
  have h1 := I.nm
  refine ⟨upd_ext0 I.ex u (fun k e => by omega), I.cq.updB u (fun e => by omega), I.cl.updB u (fun e => by omega), I.cv.updB u (fun e => by omega), I.s.put m pp, I.b.upd u (fun k hk e => ?_), I.t.upd u (fun e => by omega) (fun e => by omega), I.n0, I.n1, I.nm⟩
  rcases hk with hk | ⟨q, hk⟩
  · omega
  · rw [e] at hk; exact I.s.tm.not_ty _ (I.b.ty hk)
/-- .. and put behind another one -/
theorem RnI.push {w2 w3 w4 : World} (I : RnI w w1 wr g bm bq Lm ckm seen Ll ckl F Lb ckb Kb) {q x : Pt} {A A' : Option Addr} {c c' n ck1 : Nat} {L1 L3 : List Pe} {v : Value} (hn : n = (Kb q).length) (hv : (getE Lb q).getD nilS = .slice A n c) (hbk : blkV (getE Lb q) = blk A c) (hvv : v = .slice A n c) (m1 : TM w2 (bq + 3) L1 ck1) (p1 : Put Lb q v L1) (g1 : wr.grownBy w2 (some (bq + 3)))
    (g2 : w2.grownBy w3 (blk A c)) (o : Own w3 w1.heap.size 27 3 A' (n + 1) c' ((Kb q).flatMap ptC ++ ptC x)) (hb : (A' = A ∧ c' = c) ∨ (blk A' c' = some w2.heap.size ∧ Ext w2 w3)) (m3 : TM w4 (bq + 3) L3 ck1) (p3 : Put L1 q (.slice A' (n + 1) c') L3) (g3 : w3.grownBy w4 (some (bq + 3))) :
    RnI w w1 w4 g bm bq Lm ckm seen Ll ckl F L3 ck1 (fun r => if r = q then Kb q ++ [x] else Kb r) ∧ (∀ k, kmB (bq + 3) L3 k → kmB (bq + 3) Lb k ∨ wr.heap.size ≤ k) ∧ Upd (kmB (bq + 3) Lb) wr w4 := by
  subst hn
  have h0 := I.n0
  have h1 := I.nm
  have h2 := I.n1
  have u : Upd (fun k => blk A c = some k) w2 w3 := (Upd.refl _ w2).grown g2 (fun k hk => .inl hk)
  have hbb : ∀ k, blk A' c' = some k → blk A c = some k ∨ w2.heap.size ≤ k := fun k hk => by
    rcases hb with ⟨e1, e2⟩ | ⟨e1, _⟩
    · rw [e1, e2] at hk; exact .inl hk
    · rw [e1] at hk; exact .inr (Nat.le_of_eq (Option.some.inj hk))
  have U := I.b.frame hbk g1 u g3
  have far : ∀ {t : TypeId} {b : Nat}, Ty wr b t → t ≠ 27 → b ≠ bq + 3 → ¬ kmB (bq + 3) Lb b := fun ht hne hb hk => by
    rcases hk with hk | ⟨q, hk⟩
    · exact hb hk
    · exact hne (ht.ne (I.b.ty hk))
  refine ⟨⟨upd_ext0 I.ex U (fun k hk => by have := (I.b.lt hk).1; omega), I.cq.updB U (far I.cq.ty (by decide) (by omega)), I.cl.updB U (far I.cl.ty (by decide) (by omega)), I.cv.updB U (far I.cv.ty (by decide) (by omega)), I.s.upd U (fun hk => ?_), I.b.push hv hbk m1 (by rw [hv, ← hvv]; exact p1) g1 u o hbb m3 p3 g3, I.t.upd U (fun hk => ?_) (fun hk => ?_), I.n0, I.n1, I.nm⟩, fun k hk => ?_, U⟩
  · rcases hk with hk | ⟨q, hk⟩
    · omega
    · exact I.s.tm.not_ty _ (I.b.ty hk)
  · rcases hk with hk | ⟨q, hk⟩
    · omega
    · exact I.t.m.not_ty _ (I.b.ty hk)
  · rcases hk with hk | ⟨q, hk⟩
    · omega
    · exact I.t.not_ty _ (I.b.ty hk)
  · rcases I.b.blocks hbk p1 p3 hbb k hk with h | h
    · exact .inl h
    · exact .inr (Nat.le_trans g1.size h)
end
/-- what has been seen -/
structure RnP (g : Gr) (Lm : List Pe) (seen : Array Nat) (z : Nat) (Ll : List Pe) (F : Pt → Bool) (Kb : Pt → List Pt) : Prop where
  f : ∀ x ∈ Lm, seen.contains x.born = true → F x.p = true
  c : ∀ x ∈ Lm, seen.contains x.born = true → ∀ q, (Kb q).count x.p = (g.nxt x.p).count q
  n : ∀ p, (∀ x ∈ Lm, x.p = p → seen.contains x.born = false) → ∀ q, (Kb q).count p = 0
  l1 : Ll.length + 1001 * z ≤ 2002000
  l2 : ∀ q, (Kb q).length + 1000 * z ≤ 2000000
  p6 : ∀ q p, p ∈ Kb q → P64 p
/-- .. and so many steps of one place -/
structure RnQ (g : Gr) (Lm : List Pe) (seen : Array Nat) (z : Nat) (x : Pe) (i : Nat) (Ll : List Pe) (F : Pt → Bool) (Kb : Pt → List Pt) : Prop where
  f : ∀ y ∈ Lm, seen.contains y.born = true → F y.p = true
  fx : F x.p = true
  c : ∀ y ∈ Lm, seen.contains y.born = true → ∀ q, (Kb q).count y.p = (g.nxt y.p).count q
  cx : ∀ q, (Kb q).count x.p = ((g.nxt x.p).take i).count q
  n : ∀ p, p ≠ x.p → (∀ x ∈ Lm, x.p = p → seen.contains x.born = false) → ∀ q, (Kb q).count p = 0
  l1 : Ll.length + 1001 * z + 1000 ≤ 2002000 + i
  l2 : ∀ q, (Kb q).length + 1000 * z + 1000 ≤ 2000000 + i
  p6 : ∀ q p, p ∈ Kb q → P64 p
  xm : x ∈ Lm
  xs : seen.contains x.born = false
  x6 : P64 x.p
section
variable {g : Gr} {Lm Ll Ll' : List Pe} {seen : Array Nat} {z z' i : Nat} {F : Pt → Bool} {Kb : Pt → List Pt} {x : Pe}
theorem RnP.start (g : Gr) (Lm : List Pe) (h : Lm.length ≤ 2000) : RnP g Lm #[] (leftOf (Lm.map entT).toArray #[]).size [] (fun _ => false) (fun _ => []) :=
  have hz := leftOf_le Lm #[]
  ⟨fun x _ h => by simp at h, fun x _ h => by simp at h, fun p _ q => rfl, by simp only [List.length_nil]; omega, fun q => by simp only [List.length_nil]; omega, fun q p h => (nomatch h)⟩
theorem RnP.take (P : RnP g Lm seen z Ll F Kb) (nb : (Lm.map Pe.born).Nodup) (np : (Lm.map Pe.p).Nodup) (hx : x ∈ Lm) (hs : seen.contains x.born = false) (h6 : P64 x.p) (hz : z' < z) (hl : Ll'.length ≤ Ll.length + 1) : RnQ g Lm seen z' x 0 Ll' (fun q => F q || decide (q = x.p)) Kb := by
  have _ := nb
  have l1 := P.l1
  refine ⟨fun y hy h => by simp [P.f y hy h], by simp, P.c, fun q => ?_, fun p _ h => P.n p h, by omega, fun q => by have := P.l2 q; omega, P.p6, hx, hs, h6⟩
  rw [List.take_zero]
  exact P.n x.p (fun y hy e => by rw [place_eq np hy hx e]; exact hs) q
theorem RnQ.step (P : RnQ g Lm seen z x i Ll F Kb) (np : (Lm.map Pe.p).Nodup) {t : Pt} (hi : (g.nxt x.p)[i]? = some t) (hl : Ll'.length ≤ Ll.length + 1) : RnQ g Lm seen z x (i + 1) Ll' (fun q => F q || decide (q = t)) (fun r => if r = t then Kb t ++ [x.p] else Kb r) := by
  have l1 := P.l1
  have key : ∀ p q, ((if q = t then Kb t ++ [x.p] else Kb q).count p) = (Kb q).count p + (if q = t ∧ p = x.p then 1 else 0) := fun p q => by
    by_cases e : q = t
    · subst e
      rw [if_pos rfl, List.count_append]
      by_cases e2 : p = x.p
      · rw [if_pos ⟨rfl, e2⟩, e2]; simp
      · rw [if_neg (fun h => e2 h.2), show [x.p].count p = 0 from List.count_eq_zero.2 (by simpa using e2)]
    · rw [if_neg e, if_neg (fun h => e h.1)]; rfl
  refine ⟨fun y hy h => by simp [P.f y hy h], by simp [P.fx], fun y hy h q => ?_, fun q => ?_, fun p hp h q => ?_, by omega, fun q => ?_, fun q p hp => ?_, P.xm, P.xs, P.x6⟩
  · rw [key, if_neg, P.c y hy h q]; · rfl
    rintro ⟨_, e⟩
    have := place_eq np hy P.xm e
    rw [this, P.xs] at h
    cases h
  · rw [key, P.cx q]
    obtain ⟨h1, h2⟩ := List.getElem?_eq_some_iff.1 hi
    rw [List.take_succ_eq_append_getElem h1, List.count_append, h2]
    congr 1
    by_cases e : q = t
    · rw [if_pos ⟨e, rfl⟩, e]; simp
    · rw [if_neg (fun h => e h.1), show [t].count q = 0 from List.count_eq_zero.2 (by simpa using e)]
  · rw [key, if_neg (fun e => hp e.2), P.n p hp h q]
  · have := P.l2 q
    by_cases e : q = t
    · simp only [if_pos e]
      subst e
      rw [List.length_append, List.length_singleton]; omega
    · simp only [if_neg e]; omega
  · by_cases e : q = t
    · simp only [if_pos e] at hp
      rcases List.mem_append.1 hp with hp | hp
      · exact P.p6 _ _ hp
      · rw [List.mem_singleton.1 hp]; exact P.x6
    · simp only [if_neg e] at hp
      exact P.p6 _ _ hp
theorem RnQ.done (P : RnQ g Lm seen z x i Ll F Kb) (nb : (Lm.map Pe.born).Nodup) (hi : i = (g.nxt x.p).length) (h : i ≤ 1000) : RnP g Lm (seen.push x.born) z Ll F Kb := by
  have l1 := P.l1
  refine ⟨fun y hy hs => ?_, fun y hy hs q => ?_, fun p h q => ?_, by omega, fun q => by have := P.l2 q; omega, P.p6⟩
  · rcases contains_push' hs with hs | hs
    · exact P.f y hy hs
    · rw [born_eq nb hy P.xm hs]; exact P.fx
  · rcases contains_push' hs with hs | hs
    · exact P.c y hy hs q
    · rw [born_eq nb hy P.xm hs, P.cx q, hi, List.take_length]
  · refine P.n p (fun e => ?_) (fun y hy e => ?_) q
    · have := h x P.xm e.symm
      rw [contains_new] at this; cases this
    · have := h y hy e
      cases hs : seen.contains y.born with
      | false => rfl
      | true => rw [contains_old hs] at this; cases this
/-- all has been seen -/
theorem RnP.all (P : RnP g Lm seen z Ll F Kb) (hall : ∀ x ∈ Lm, seen.contains x.born = true) (hk : ∀ q, getE Lm q = none → g.mvs q = []) : (∀ p, Reach g p p → F p = true) ∧ (∀ p q, (Kb p).count q = (g.nxt q).count p) := by
  refine ⟨fun p hp => ?_, fun p q => ?_⟩
  · obtain ⟨t, b, s, _⟩ := hp.first
    obtain ⟨m, hm, _⟩ := stp_to s
    cases hq : getE Lm p with
    | none => rw [hk p hq] at hm; cases hm
    | some v =>
      obtain ⟨x, hx, e, _⟩ := getE_mem hq
      rw [← e]; exact P.f x hx (hall x hx)
  · cases hq : getE Lm q with
    | none =>
      unfold Gr.nxt
      rw [hk q hq, P.n q (fun x hx e => ?_) p]
      · rfl
      · exfalso
        unfold getE at hq
        cases hf : Lm.find? (fun x => decide (x.p = q)) with
        | none => have := List.find?_eq_none.1 hf x hx; simp [e] at this
        | some y => rw [hf] at hq; cases hq
    | some v =>
      obtain ⟨x, hx, e, _⟩ := getE_mem hq
      rw [← e]; exact P.c x hx (hall x hx) p
theorem loop_nxt {p : Pt} (h : Reach g p p) : ∃ x, x ∈ g.nxt p ∧ Reach g x x := by
  obtain ⟨t, b, s, r⟩ := h.first
  obtain ⟨m, hm, e, _⟩ := stp_to s
  refine ⟨t, List.mem_map.2 ⟨m, hm, e⟩, ?_⟩
  rcases r with r | r
  · rw [r]; exact h
  · exact .more r s
theorem loop_prv {p : Pt} (tp : ∀ p q, (Kb p).count q = (g.nxt q).count p) (h : Reach g p p) : ∃ x, x ∈ Kb p ∧ Reach g x x := by
  have of : ∀ x b, Stp g x p b → x ∈ Kb p := fun x b s => by
    obtain ⟨m, hm, e, _⟩ := stp_to s
    have h1 : 0 < (g.nxt x).count p := List.count_pos_iff.2 (List.mem_map.2 ⟨m, hm, e⟩)
    rw [← tp p x] at h1
    exact List.count_pos_iff.1 h1
  cases h with
  | one s => exact ⟨p, of p _ s, .one s⟩
  | more h s => exact ⟨_, of _ _ s, (Reach.one s).trans h⟩
end
end Go.Proofs.Yteklohamkmiphaa
namespace Go.Proofs.Yteklohamkmiphaa
open Go.RowKit

def RoundsOut (w : World) (g : Gr) (e : Ending) (w' : World) : Prop := ∃ kl L ck F, e = .returned (.map (some kl)) ∧ SetM w' kl L ck F ∧ (∀ p, Reach g p p → F p = true) ∧ Ext w w'
/-- on, whatever is written to the set -/
theorem on_ok {w wr : World} {g : Gr} {bm bq kl : Nat} (hm : StR w bm g) (ex : Ext w wr) (cq : Bk wr bq 74 #[.map (some bm)]) (hk : w.heap.size ≤ kl) (hq : bq ≠ kl) (nl : ∀ p, (g.mvs p).length ≤ 1000) : NxtOk wr.heap.size (fun W => Upd (fun k => k = kl) wr W) 47 (.pointer (some ⟨bq, 0, none⟩)) g.nxt := fun W u ⟨pn, po, pp⟩ h6 => by
  have c := (cq.updB u hq).cell 0
  have x := upd_ext0 ex u (fun k e => by rw [e]; exact hk)
  refine (on_any bq bm g pn po pp W c (Lib.hid (hm.ext x)) (Lib.hid h6) (Lib.hid (nl _))).mono ?_
  rintro e w' ⟨A, c, h1, h2, h3, h4⟩
  exact ⟨A, c, h1, h2, h3, fun k hk => .inr (h4 k hk)⟩
/-- off, likewise -/
theorem off_ok {w1 wr : World} {kk vb kl : Nat} {Lb : List Pe} {ckb : Nat} {Kb : Pt → List Pt} (b : MpL ptC 3 27 w1 wr kk Lb ckb Kb) (cv : Bk wr vb 100 #[.map (some kk)]) (hv : vb ≠ kl) (hk : kk ≠ kl) (hkl : ∀ t, ¬ Ty wr kl t) : NxtOk wr.heap.size (fun W => Upd (fun k => k = kl) wr W) 48 (.pointer (some ⟨vb, 0, none⟩)) Kb := fun W u ⟨pn, po, pp⟩ h6 => by
  have c := (cv.updB u hv).cell 0
  have b2 := b.upd u (fun k hk2 e => by
    rcases hk2 with hk2 | ⟨q, hk2⟩
    · exact hk (hk2.symm.trans e)
    · rw [e] at hk2; exact hkl _ (b.ty hk2))
  refine (off_any vb kk Kb pn po pp W c (Lib.hid b2) (Lib.hid h6)).mono ?_
  rintro e w' ⟨A, c, h1, h2, h3, h4⟩
  exact ⟨A, c, h1, h2, h3, fun k hk => .inl (b.lt (h4 k hk)).2⟩
set_option maxRecDepth 100000 in
set_option maxHeartbeats 4000000 in
theorem rounds_any (bm : Nat) (g : Gr) (w : World) (hm : Hid (StR w bm g)) (n6 : Hid (∀ p q, q ∈ g.nxt p → P64 q)) (nl : Hid (∀ p, (g.mvs p).length ≤ 1000)) :
    Calls Try.prog 25 #[.map (some bm)] w (RoundsOut w g) := by
  have hmm := @run_makeMap Try.prog
  go_enter Try.func25, Try.ntmps25
  go_upto_region 3 with fail
  obtain ⟨Lm, ckm, tmm, hlm, hcnt⟩ := hm.out.ex
  obtain ⟨bq, hbq⟩ : ∃ b, b = w.heap.size := ⟨_, rfl⟩
  rw [← hbq, show bq + 1 + 1 = bq + 2 from rfl, show bq + 2 + 1 = bq + 3 from rfl, show bq + 3 + 1 = bq + 4 from rfl]
  obtain ⟨w1, hw1⟩ : ∃ w1, w1 = ((w.alloc (.cells #[.map (some bm)] 74)).alloc (.map #[] 0)).alloc (.cells #[.map (some (bq + 1))] 76) := ⟨_, rfl⟩
  have hs1 : w1.heap.size = bq + 3 := by rw [hw1, hbq]; simp
  obtain ⟨w2, hw2⟩ : ∃ w2, w2 = (w1.alloc (.map #[] 0)).alloc (.cells #[.map (some (bq + 3))] 100) := ⟨_, rfl⟩
  have hs2 : w2.heap.size = bq + 5 := by rw [hw2]; simp [hs1]
  have x1 : Ext w w1 := by rw [hw1]; exact (((Ext.refl w).alloc _).alloc _).alloc _
  have x2 : Ext w1 w2 := by rw [hw2]; exact ((Ext.refl w1).alloc _).alloc _
  have bk1 : Bk w1 bq 74 #[.map (some bm)] := by rw [hw1, hbq]; exact ((Bk.new w _ _).alloc _).alloc _
  have bk2 : Bk w1 (bq + 2) 76 #[.map (some (bq + 1))] := by rw [hw1, hbq]; exact Bk.at (by simp)
  have bk3 : Bk w2 (bq + 4) 100 #[.map (some (bq + 3))] := by rw [hw2]; exact Bk.at (by simp [hs1])
  have st1 : SetM w1 (bq + 1) [] 0 (fun _ => false) := by
    have q := SetM.made (w.alloc (.cells #[.map (some bm)] 74))
    rw [show (w.alloc (.cells #[.map (some bm)] 74)).heap.size = bq + 1 by rw [hbq]; simp] at q
    rw [hw1]; exact q.ext ((Ext.refl _).alloc _)
  have mp1 : MpL ptC 3 27 w1 w2 (bq + 3) [] 0 (fun _ => []) := by
    have q := MpL.made (enc := ptC) (sz := 3) (T := 27) w1
    rw [hs1] at q
    rw [hw2]; exact q.ext ((Ext.refl _).alloc _)
  have hbm : bm < w.heap.size := tmm.lt
  have HI0 : ∀ w3, Ext w2 w3 → TR w3 bm (bq + 5) Lm ckm #[] → RnI w w1 w3 g bm bq Lm ckm #[] [] 0 (fun _ => false) [] 0 (fun _ => []) := fun w3 e t =>
    ⟨(x1.trans x2).trans e, (bk1.ext x2).ext e, (bk2.ext x2).ext e, bk3.ext e, (st1.ext x2).ext e, mp1.ext e, t, hbq, hs1, hbm⟩
  have q0 := (bk1.ext x2).cell 0
  have HI0 := Lib.hid HI0
  have HTM := Lib.hid (tmm.ext (x1.trans x2))
  have HLM := Lib.hid hlm
  have HCN := Lib.hid hcnt
  have HS2 := Lib.hid hs2
  have HS1 := Lib.hid hs1
  have HBQ := Lib.hid hbq
  rw [← hw1, ← hw2]
  clear tmm hlm hcnt hbq hs1 hs2 hw1 hw2 x1 x2 bk1 bk2 bk3 st1 mp1 hbm
  go_wp2_with (first
    | (at_range; refine wpList_range_tm rfl Try.underlying74 _ rfl rfl HTM.out ?_; intro w3 tr1 ex1 sz1; rw [HS2.out] at tr1 ⊢; have HR := Lib.hid (HI0.out w3 ex1 tr1); clear tr1 ex1 sz1))
  go_frame
  clear q0 HI0 HTM
  have HP0 := Lib.hid (RnP.start g Lm HCN.out)
  go_loopg [5, 6, 8, 25] (leftOf (Lm.map entT).toArray #[]).size (fun gg _ _ _ _ wr => ∃ (seen : Array Nat) (Ll : List Pe) (ckl : Nat) (F : Pt → Bool) (Lb : List Pe) (ckb : Nat) (Kb : Pt → List Pt), gg = (leftOf (Lm.map entT).toArray seen).size ∧ Hid (RnI w w1 wr g bm bq Lm ckm seen Ll ckl F Lb ckb Kb) ∧ Hid (RnP g Lm seen (leftOf (Lm.map entT).toArray seen).size Ll F Kb))
  case atStart => exact ⟨#[], [], 0, _, [], 0, _, rfl, HR, HP0⟩
  case round =>
    clear HR HP0
    obtain ⟨seen, Ll, ckl, F, Lb, ckb, Kb, rfl, HI, HP⟩ := hrel
    go_wp2_with (first
      | (at_next; go_loud (refine wpList_next_tm rfl _ rfl rfl HI.out.t ?_ ?_)))
    · intro hdone
      have hall : ∀ x ∈ Lm, seen.contains x.born = true := fun x hx => by simpa using hdone x hx
      obtain ⟨hC, tp⟩ := HP.out.all hall (fun q hq => by
        rcases HLM.out q with ⟨_, h⟩ | ⟨A, c, xs, h, _⟩
        · exact h
        · rw [hq] at h; cases h)
      have hb0 := HBQ.out
      have hklT : ∀ t, ¬ Ty wr (bq + 1) t := fun t => HI.out.s.tm.not_ty t
      have hnl : ∀ p, (g.nxt p).length ≤ 2000000 := fun p => by unfold Gr.nxt; rw [List.length_map]; have := nl.out p; omega
      have hpl : ∀ p, (Kb p).length ≤ 2000000 := fun p => by have := HP.out.l2 p; omega
      have hLl : Ll.length ≤ 2100000 := by have := HP.out.l1; omega
      have S1 := Lib.hid (sift_any 47 48 (.pointer (some ⟨bq, 0, none⟩)) (.pointer (some ⟨bq + 4, 0, none⟩)) (fun _ _ => by kernel_rfl) (fun _ _ => by kernel_rfl) g.nxt Kb (fun p => Reach g p p) (bq + 2) (bq + 1) ckl Ll F wr (Lib.hid HI.out.s) (Lib.hid HI.out.cl) (Lib.hid (on_ok hm.out HI.out.ex HI.out.cq (by omega) (by omega) nl.out)) (Lib.hid (off_ok HI.out.b HI.out.cv (by omega) (by omega) hklT)) n6 (Lib.hid HP.out.p6) (Lib.hid hnl) (Lib.hid hpl) (Lib.hid tp) (Lib.hid hC) (Lib.hid (fun p hp => loop_nxt hp)) (Lib.hid hLl))
      have S2 : Hid (∀ w5, SiftOut wr (bq + 1) (fun p => Reach g p p) (.returned (.tuple #[])) w5 → Calls Try.prog 46 #[.func (.func 48) #[] #[.pointer (some ⟨bq + 4, 0, none⟩)], .func (.func 47) #[] #[.pointer (some ⟨bq, 0, none⟩)], .pointer (some ⟨bq + 2, 0, none⟩)] w5 (SiftOut w5 (bq + 1) (fun p => Reach g p p))) := Lib.hid (fun w5 h => by
        obtain ⟨_, L5, ck5, F5, s5, l5, c5, u5⟩ := h
        have cq := HI.out.cq.updB u5 (by omega)
        have cl := HI.out.cl.updB u5 (by omega)
        have cv := HI.out.cv.updB u5 (by omega)
        have b5 := HI.out.b.upd u5 (fun k hk e => by
          rcases hk with hk | ⟨q, hk⟩
          · omega
          · rw [e] at hk; exact hklT _ (HI.out.b.ty hk))
        have x5 := upd_ext0 HI.out.ex u5 (fun k e => by omega)
        exact sift_any 48 47 (.pointer (some ⟨bq + 4, 0, none⟩)) (.pointer (some ⟨bq, 0, none⟩)) (fun _ _ => by kernel_rfl) (fun _ _ => by kernel_rfl) Kb g.nxt (fun p => Reach g p p) (bq + 2) (bq + 1) ck5 L5 F5 w5 (Lib.hid s5) (Lib.hid cl) (Lib.hid (off_ok b5 cv (by omega) (by omega) (fun t => s5.tm.not_ty t))) (Lib.hid (on_ok hm.out x5 cq (by omega) (by omega) nl.out)) (Lib.hid HP.out.p6) n6 (Lib.hid hpl) (Lib.hid hnl) (Lib.hid (fun p q => (tp q p).symm)) (Lib.hid c5) (Lib.hid (fun p hp => loop_prv tp hp)) (Lib.hid l5))
      clear hall hC tp hklT hnl hpl hLl hdone HP hb0
      go_wp2_with (first
        | (go_at_call 46; have mk := R5; refine (S2.out w5 R5.out).mono ?_; rintro e w6 ⟨rfl, L6, ck6, F6, s6, l6, c6, u6⟩; obtain ⟨_, _, _, _, _, _, _, u5⟩ := R5.out; have cl6 := (HI.out.cl.updB u5 (by omega)).updB u6 (by omega); have l0 := cl6.cell 0; have HS6 := Lib.hid s6; have HC6 := Lib.hid c6; have X6 := Lib.hid (upd_ext0 (upd_ext0 HI.out.ex u5 (fun k e => (by have h0 := HBQ.out; omega))) u6 (fun k e => (by have h0 := HBQ.out; omega))); clear u5 u6 s6 c6 cl6)
        | (go_at_call 46; go_loud (refine S1.out.mono ?_); rintro e w5 hr5; obtain ⟨he, hr6⟩ := hr5; subst he; have R5 : Hid (SiftOut wr (bq + 1) (fun p => Reach g p p) (.returned (.tuple #[])) w5) := Lib.hid ⟨rfl, hr6⟩; clear hr6))
      go_ret
      exact ⟨bq + 1, L6, ck6, F6, rfl, HS6.out, HC6.out, X6.out⟩
    · rintro ⟨⟨pn, po, pp⟩, xv, xb⟩ w' hx hs tr1 g1 z1 hen hlt
      have hs : seen.contains xb = false := by simpa using hs
      have I1 := HI.out.next tr1 g1
      have h6 : P64 ⟨pn, po, pp⟩ := tr1.m.k6 _ hx
      obtain ⟨sA, sc, xs, hxv, hsl, hsv⟩ : ∃ (A : Option Addr) (c : Nat) (xs : List Sm), xv = .slice A xs.length c ∧ Sl w 6 A xs.length c (xs.flatMap spC) ∧ xs.map (fun s => s.q) = g.nxt ⟨pn, po, pp⟩ := by
        rcases HLM.out ⟨pn, po, pp⟩ with ⟨q1, _⟩ | ⟨A, c, xs, q1, q2, _, q4⟩
        · rw [getE_some tr1.m.np hx] at q1; cases q1
        · rw [getE_some tr1.m.np hx] at q1
          refine ⟨A, c, xs, Option.some.inj q1, q2, ?_⟩
          have := congrArg (List.map Prod.fst) q4
          rw [List.map_map, List.map_map] at this
          exact this
      subst hxv
      obtain ⟨ns, hns⟩ : ∃ n, n = xs.length := ⟨_, rfl⟩
      have hn9 : ns ≤ 1000 := by have h1 := congrArg List.length hsv; unfold Gr.nxt at h1; rw [List.length_map, List.length_map] at h1; have h2 := nl.out ⟨pn, po, pp⟩; omega
      unfold ptV at hen ⊢
      simp only at hen hlt ⊢
      rw [← hns] at hen ⊢
      have EP : Hid (Ext w' (w'.alloc (.cells #[.int .i64 pn, .bool po, .int .i64 pp] 27))) := Lib.hid ((Ext.refl w').alloc _)
      have J1 := I1.ext EP.out
      have l0 := J1.cl.cell 0
      obtain ⟨pb, hpb⟩ : ∃ b, b = w'.heap.size := ⟨_, rfl⟩
      have hfar : ∀ k, kmB (bq + 3) Lb k → k ≠ pb := fun k hk => by have := (I1.b.lt hk).2; omega
      have BP : Hid (Bk (w'.alloc (.cells #[.int .i64 pn, .bool po, .int .i64 pp] 27)) pb 27 #[.int .i64 pn, .bool po, .int .i64 pp]) := Lib.hid (by rw [hpb]; exact Bk.new _ _ _)
      have HJ1 := Lib.hid J1
      have H6 := Lib.hid h6
      have HX := Lib.hid hx
      have HSX := Lib.hid hs
      have HNS := Lib.hid hns
      have HSL := Lib.hid hsl
      have HSV := Lib.hid hsv
      have HPB := Lib.hid hpb
      have HFAR := Lib.hid hfar
      clear hx hs tr1 g1 z1 I1 J1 h6 hns hsl hsv hpb hfar
      go_wp2_with (first
        | (at_mapUpdate; go_loud (refine wpList_put_tm rfl Try.underlying76 _ _ _ rfl rfl ⟨pn, po, pp⟩ rfl _ rfl HJ1.out.s.tm H6.out ?_); intro w4 L4 ck4 tm4 pp4 gm4 sz4; have TM4 := Lib.hid tm4; have PP4 := Lib.hid pp4; have GM4 := Lib.hid gm4; clear tm4 pp4 gm4 sz4))
      have J4 := Lib.hid (HJ1.out.mark TM4.out PP4.out GM4.out)
      have Q4 := Lib.hid (HP.out.take HJ1.out.t.m.nb HJ1.out.t.m.np HX.out (by simpa using HSX.out) H6.out hlt PP4.out.len)
      have BP4 := Lib.hid (bk_map BP.out HJ1.out.s.tm.bk ((Upd.refl _ _).grown GM4.out (fun k hk => .inl (by injection hk with hk; exact hk.symm))))
      clear TM4 PP4 GM4
      clear l0
      obtain ⟨zz, hzz⟩ : ∃ z, z = (leftOf (Lm.map entT).toArray (seen.push xb)).size := ⟨_, rfl⟩
      rw [← hzz] at Q4
      rw [← HPB.out]
      have HZZ := Lib.hid hzz
      clear hzz
      go_loopg [8, 25] ns (fun gg _ s25 wr => ∃ (i : Nat) (Ll : List Pe) (ckl : Nat) (F : Pt → Bool) (Lb : List Pe) (ckb : Nat) (Kb : Pt → List Pt), s25 = .int .i64 i ∧ i ≤ ns ∧ gg = ns - i ∧ Hid (RnI w w1 wr g bm bq Lm ckm (seen.push xb) Ll ckl F Lb ckb Kb) ∧ Hid (RnQ g Lm seen zz ⟨⟨pn, po, pp⟩, .slice sA xs.length sc, xb⟩ i Ll F Kb) ∧ Hid (Bk wr pb 27 #[.int .i64 pn, .bool po, .int .i64 pp]) ∧ Hid (∀ k, kmB (bq + 3) Lb k → k ≠ pb))
      case atStart => exact ⟨0, L4, ck4, _, Lb, ckb, Kb, rfl, Nat.zero_le _, rfl, J4, Q4, BP4, HFAR⟩
      case round =>
        clear J4 Q4 BP4 HFAR HI HP HJ1 BP EP
        obtain ⟨i, Ll, ckl, F, Lb, ckb, Kb, rfl, hi, rfl, HI, HQ, BP, HFAR⟩ := hrel
        by_cases hil : i < ns
        · have hiL : i < xs.length := by rw [← HNS.out]; exact hil
          have hiz : (i : Int) < (ns : Int) := by omega
          obtain ⟨ad, hA, h0, h1⟩ := els_at spC 6 spC_len Sm.zero (HSL.out.ext HI.out.ex) rfl hiL (by omega)
          subst hA
          have hgi : (g.nxt ⟨pn, po, pp⟩)[i]? = some (xs.getD i Sm.zero).q := by
            rw [← HSV.out, List.getElem?_map, List.getD_eq_getElem?_getD, List.getElem?_eq_getElem hiL]; rfl
          obtain ⟨⟨⟨sn, so, sp⟩, ⟨bA, bc, ⟨bl, ba, be⟩⟩⟩, hs⟩ : ∃ s, xs.getD i Sm.zero = s := ⟨_, rfl⟩
          rw [hs] at h0 h1 hgi
          simp only at hgi
          obtain ⟨nb, hnb⟩ : ∃ n, n = be.length := ⟨_, rfl⟩
          have q0 := h0 _ rfl
          have q1 := h1 0 _ rfl
          have q2 := h1 1 _ rfl
          have q3 := h1 2 _ rfl
          have q4 := h1 3 _ rfl
          have q5 := h1 4 _ rfl
          simp only at q0 q1 q2 q3 q4 q5
          rw [← hnb] at q5
          have hs6 := n6.out _ _ (List.mem_of_getElem? hgi)
          have EA : Hid (Ext wr (wr.alloc (.cells #[.int .i64 sn, .bool so, .int .i64 sp, .int .i64 bl, .int .u32 ba, .slice bA nb bc] 99))) := Lib.hid ((Ext.refl wr).alloc _)
          have HIA := Lib.hid (HI.out.ext EA.out)
          have l0 := HIA.out.cl.cell 0
          have BS : Hid (Bk (wr.alloc (.cells #[.int .i64 sn, .bool so, .int .i64 sp, .int .i64 bl, .int .u32 ba, .slice bA nb bc] 99)) wr.heap.size 99 #[.int .i64 sn, .bool so, .int .i64 sp, .int .i64 bl, .int .u32 ba, .slice bA nb bc]) := Lib.hid (Bk.new _ _ _)
          have HS6 := Lib.hid hs6
          have HGI := Lib.hid hgi
          have hl2 := HQ.out.l2 ⟨sn, so, sp⟩
          obtain ⟨A, c, hv, _, hbk⟩ := HI.out.b.ls ⟨sn, so, sp⟩
          obtain ⟨n, hn⟩ : ∃ n, n = (Kb ⟨sn, so, sp⟩).length := ⟨_, rfl⟩
          rw [← hn] at hv hl2
          have HV : Hid ((getE Lb ⟨sn, so, sp⟩).getD (.slice none 0 0) = .slice A n c) := Lib.hid hv
          have HBK := Lib.hid hbk
          have HN := Lib.hid hn
          have hpbl := BP.out.lt
          have hwb := HI.out.b.tm.lt
          clear h0 h1 hgi hs hnb hs6 hv hbk hn
          go_wp2_with (first
            | (at_mapUpdate; go_loud (refine wpList_put_tm rfl Try.underlying76 _ _ _ rfl rfl ⟨sn, so, sp⟩ rfl _ rfl HIA.out.s.tm HS6.out ?_); intro w4 L4 ck4 tm4 pp4 gm4 sz4; have J4 := Lib.hid (HIA.out.mark tm4 pp4 gm4); have PL4 := Lib.hid pp4.len; have um := ((Upd.refl _ _).grown gm4 (fun k hk => .inl (by injection hk with hk; exact hk.symm)) : Upd (fun k => k = bq + 1) _ w4); have s4 := bk_map BS.out HIA.out.s.tm.bk um; have p4 := bk_map (BP.out.ext EA.out) HIA.out.s.tm.bk um; have HP4 := Lib.hid p4; have v0 := J4.out.cv.cell 0; have s0 := s4.cell 0; have s1 := s4.cell 1; have s2 := s4.cell 2; have p0 := p4.cell 0; have p1 := p4.cell 1; have p2 := p4.cell 2; have EC : Hid (Ext w4 (w4.alloc (.cells #[.int .i64 pn, .bool po, .int .i64 pp] 27))) := Lib.hid ((Ext.refl w4).alloc _); have J5 := Lib.hid (J4.out.ext EC.out); have hsz4 : wr.heap.size + 1 = w4.heap.size := (by rw [sz4]; simp); have HSZ4 := Lib.hid hsz4; clear tm4 pp4 gm4 sz4 um s4 p4 hsz4)
            | (at_builtin; go_loud (refine wpList_append_two _ elem_pt w1.heap.size _ _ rfl rfl A n c ((Kb ⟨sn, so, sp⟩).flatMap ptC) rfl HO2.out (some ⟨w4.heap.size, 0, none⟩) 1 1 [.int .i64 pn, .bool po, .int .i64 pp] rfl HS3.out (by intro u hu; simp at hu; rcases hu with rfl | rfl | rfl <;> rfl) (by omega) (by decide) hb2 ?_); intro A3 c3 w6 o6 g6 x6; have O6 := Lib.hid o6; have G6 := Lib.hid g6; have Y6 := Lib.hid x6; have T6 : Hid (TM w6 (bq + 3) L5 ck5) := Lib.hid (T5.out.upd ((Upd.refl _ _).grown g6 (fun k hk => .inl hk)) (fun e => J5.out.b.ne_kb (HBK.out.trans e))); clear o6 g6 x6)
            | (refine wpList_store_tm rfl _ _ _ rfl rfl β rfl _ rfl T6.out ⟨sn, so, sp⟩ H5.out ?_; intro w7 L7 tm7 pp7 gm7 sz7; have R7 := Lib.hid (RnI.push (x := ⟨pn, po, pp⟩) (v := .slice A n c) J5.out HN.out HV.out HBK.out rfl T5.out P5.out G5.out G6.out O6.out Y6.out tm7 pp7 gm7); clear tm7 pp7 gm7 sz7)
            | (refine wpList_entry_tm rfl Try.underlying100 _ _ rfl rfl ⟨sn, so, sp⟩ rfl J5.out.b.tm HS6.out (.slice none 0 0) (zeroPt _) ?_; intro w5 L5 ck5 β tm5 hx5 pp5 gm5 sz5; rw [HV.out] at pp5 ⊢; have T5 := Lib.hid tm5; have H5 := Lib.hid hx5; have P5 := Lib.hid pp5; have G5 := Lib.hid gm5; have HO2 : Hid (Own w5 w1.heap.size 27 3 A n c ((Kb ⟨sn, so, sp⟩).flatMap ptC)) := (Lib.hid (by obtain ⟨A', c', q1, q2, q3⟩ := J5.out.b.ls ⟨sn, so, sp⟩; have q4 := q1.symm.trans HV.out; injection q4 with q5 q6 q7; subst q5 q7; rw [HN.out]; exact q2.kept gm5 (.inr (fun e => J5.out.b.ne_kb (q3.trans e))))); have HS3 := Lib.hid (sl_kept (Sl.one w4 #[.int .i64 pn, .bool po, .int .i64 pp] 27 3 rfl) gm5 (fun k hk e => (by have q := Option.some.inj hk; simp only at q; have h4 := HSZ4.out; omega))); have hb2 : w1.heap.size ≤ w5.heap.size := (by have q1 := HS1.out; have q2 := EC.out.size; have h4 := HSZ4.out; omega); clear tm5 hx5 pp5 gm5 sz5))
          go_roundg (ns - (i + 1))
          case measure => omega
          case rel =>
            obtain ⟨r1, r2, r3⟩ := R7.out
            have Q7 := HQ.out.step (Ll' := L4) HI.out.t.m.np HGI.out PL4.out
            refine ⟨i + 1, L4, ck4, _, L7, ck5, _, by go_num, by omega, rfl, Lib.hid r1, Lib.hid Q7, Lib.hid ((HP4.out.ext EC.out).updB r3 (fun hk => ?_)), Lib.hid (fun k hk => ?_)⟩
            · exact HFAR.out pb hk rfl
            · rcases r2 k hk with q | q
              · exact HFAR.out k q
              · have h4 := HSZ4.out; have h5 := EC.out.size; omega
        · obtain rfl : i = ns := by omega
          go_wp2
          go_roundg zz
          case measure => rw [HZZ.out]; exact hlt
          case rel =>
            rw [HZZ.out] at HQ
            refine ⟨seen.push xb, Ll, ckl, F, Lb, ckb, Kb, by rw [HZZ.out], HI, Lib.hid (HQ.out.done HI.out.t.m.nb ?_ (by omega))⟩
            have q := congrArg List.length HSV.out
            rw [List.length_map, ← HNS.out] at q
            exact q
end Go.Proofs.Yteklohamkmiphaa
