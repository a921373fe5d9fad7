/- What comes in at chapter 6: graphs, places. penstocklaw06.much: are there more nodes, edges, ways than are looked at? A graph that is built up in new memory: nodes, edges put behind its lists. penstocklaw06.graph: the chapter's graph. FlowGoes: what lies in memory while one goes along a graph. penstockref06.steps: where one may go from a place, and by what way. penstockref06.edge: whether an edge may be. Conditions: each theorem states its own. -/
import Derived.Test.YteklohamkmiphaaFa11
import Derived.Test.YteklohamkmiphaaFa4
import Derived.Deep.LoopGhost
import Derived.Test.YteklohamkmiphaaFa9
import Derived.Test.YteklohamkmiphaaFa6
import Derived.Test.YteklohamkmiphaaFa7
import Derived.Test.YteklohamkmiphaaFa10
namespace Go.Proofs.Yteklohamkmiphaa
open Go.ChangeShapes Go.WideShapes Go.ChangeAt Go.RowKit Go.WideElems

section
variable {H : Type} {enc : TypeId × Value → H} {W : World}
/-- a list of what is read one by one -/
theorem come_list {T E : TypeId} (ht : Try.prog.underlying T = some (.slice E)) {k : Nat} (hk : Try.prog.cellsOf E = k) (k0 : 0 < k) {α : Type} (C : α → List Value) (hC : ∀ x, (C x).length = k) (z : α) {R : α → Prop} (one : ∀ fuel cs y, DataW.trod enc Try.prog W 0 (fun _ => true) true fuel E cs = some y → ∃ x, cs = C x ∧ R x) {fuel : Nat} {v : Value} {y : DataW H × List MemPlace} (h : DataW.trod enc Try.prog W 0 (fun _ => true) true fuel T [v] = some y) :
    ∃ A c L, v = .slice A (List.length L) c ∧ Sl W k A (List.length L) c (L.flatMap C) ∧ ∀ x ∈ L, R x := by
  rcases Go.Deep.open_slice ht h with ⟨hcs, _⟩ | ⟨a, n, c, m, fu, D, Pl, hcs, _, hnc, hcm, hm, hy, hx⟩
  · obtain rfl : v = .slice none 0 0 := by injection hcs
    exact ⟨none, 0, [], rfl, Sl.nil W k, fun x hx => (nomatch hx)⟩
  · obtain rfl : v = .slice (some a) n c := by injection hcs
    rw [hk] at hx
    have hmn : n ≤ m := by rw [hm]; split <;> omega
    haveI : Inhabited α := ⟨z⟩
    obtain ⟨F, hF⟩ := Go.Deep.choose_lt (α := α) (n := n) (p := fun i x => (∀ j, j < k → W.cell? (a.add (i * k + j)) = (C x)[j]?) ∧ R x) (fun i hi => by
      obtain ⟨cs', h1, h2⟩ := hx i (by omega)
      obtain ⟨_, _, h3⟩ := World.cells?_some h1
      obtain ⟨x, rfl, h4⟩ := one _ _ _ h2
      exact ⟨x, fun j hj => by rw [← add_add']; exact h3 j hj, h4⟩)
    have hlen : ((List.range n).map F).length = n := by simp
    refine ⟨some a, c, (List.range n).map F, by rw [hlen], ⟨by rw [els_len C k hC], by rw [hlen]; exact hnc, hcm, (fun h => nomatch h), fun _ => ⟨a, rfl, fun j u hu => ?_⟩⟩, fun x hx => ?_⟩
    · have hj : j < n * k := by
        rcases Nat.lt_or_ge j (n * k) with q | q
        · exact q
        · rw [List.getElem?_eq_none (by rw [els_len C k hC, hlen]; exact q)] at hu
          cases hu
      have hq : j / k < n := (Nat.div_lt_iff_lt_mul k0).2 hj
      have hr : j % k < k := Nat.mod_lt _ k0
      have e : j = j / k * k + j % k := by rw [Nat.mul_comm]; exact (Nat.div_add_mod j k).symm
      rw [e, els_get C k hC z _ _ _ (by rw [hlen]; exact hq) hr] at hu
      have e2 : ((List.range n).map F).getD (j / k) z = F (j / k) := by
        rw [List.getD_eq_getElem?_getD, List.getElem?_map, List.getElem?_range hq]
        rfl
      rw [e2] at hu
      rw [e, (hF (j / k) hq).1 (j % k) hr]
      exact hu
    · obtain ⟨i, hi, rfl⟩ := List.mem_map.1 hx
      exact (hF i (List.mem_range.1 hi)).2
theorem trod_s2 {P : Program} {w : World} {base : Nat} {spare : Nat → Bool} {held : Bool} {t : TypeId} {f0 f1 : Field} {fuel : Nat} {cs : List Value} {x : DataW H × List MemPlace} (ht : P.underlying t = some (.struct #[f0, f1])) (h : DataW.trod enc P w base spare held fuel t cs = some x) :
    ∃ y0 y1 n, x.1 = .agg [y0.1, y1.1] ∧ cs.length = P.cellsOf t ∧ DataW.trod enc P w base spare held n f0.type ((cs.drop f0.offset).take (P.cellsOf f0.type)) = some y0 ∧
      DataW.trod enc P w base spare held n f1.type ((cs.drop f1.offset).take (P.cellsOf f1.type)) = some y1 := by
  obtain ⟨xs, n, _, rfl, hl, hlen, hf⟩ := DataW.trod_struct ht h
  match xs, hlen with
  | [y0, y1], _ => exact ⟨y0, y1, n, by simp, hl, by simpa using hf 0 f0 rfl, by simpa using hf 1 f1 rfl⟩
theorem trod_s3 {P : Program} {w : World} {base : Nat} {spare : Nat → Bool} {held : Bool} {t : TypeId} {f0 f1 f2 : Field} {fuel : Nat} {cs : List Value} {x : DataW H × List MemPlace} (ht : P.underlying t = some (.struct #[f0, f1, f2])) (h : DataW.trod enc P w base spare held fuel t cs = some x) :
    ∃ y0 y1 y2 n, x.1 = .agg [y0.1, y1.1, y2.1] ∧ cs.length = P.cellsOf t ∧ DataW.trod enc P w base spare held n f0.type ((cs.drop f0.offset).take (P.cellsOf f0.type)) = some y0 ∧
      DataW.trod enc P w base spare held n f1.type ((cs.drop f1.offset).take (P.cellsOf f1.type)) = some y1 ∧ DataW.trod enc P w base spare held n f2.type ((cs.drop f2.offset).take (P.cellsOf f2.type)) = some y2 := by
  obtain ⟨xs, n, _, rfl, hl, hlen, hf⟩ := DataW.trod_struct ht h
  match xs, hlen with
  | [y0, y1, y2], _ => exact ⟨y0, y1, y2, n, by simp, hl, by simpa using hf 0 f0 rfl, by simpa using hf 1 f1 rfl, by simpa using hf 2 f2 rfl⟩
theorem trod_s4 {P : Program} {w : World} {base : Nat} {spare : Nat → Bool} {held : Bool} {t : TypeId} {f0 f1 f2 f3 : Field} {fuel : Nat} {cs : List Value} {x : DataW H × List MemPlace} (ht : P.underlying t = some (.struct #[f0, f1, f2, f3])) (h : DataW.trod enc P w base spare held fuel t cs = some x) :
    ∃ y0 y1 y2 y3 n, x.1 = .agg [y0.1, y1.1, y2.1, y3.1] ∧ cs.length = P.cellsOf t ∧ DataW.trod enc P w base spare held n f0.type ((cs.drop f0.offset).take (P.cellsOf f0.type)) = some y0 ∧
      DataW.trod enc P w base spare held n f1.type ((cs.drop f1.offset).take (P.cellsOf f1.type)) = some y1 ∧ DataW.trod enc P w base spare held n f2.type ((cs.drop f2.offset).take (P.cellsOf f2.type)) = some y2 ∧
      DataW.trod enc P w base spare held n f3.type ((cs.drop f3.offset).take (P.cellsOf f3.type)) = some y3 := by
  obtain ⟨xs, n, _, rfl, hl, hlen, hf⟩ := DataW.trod_struct ht h
  match xs, hlen with
  | [y0, y1, y2, y3], _ => exact ⟨y0, y1, y2, y3, n, by simp, hl, by simpa using hf 0 f0 rfl, by simpa using hf 1 f1 rfl, by simpa using hf 2 f2 rfl, by simpa using hf 3 f3 rfl⟩
theorem f_one_int : Try.prog.cellsOf 3 = 1 := by kernel_rfl
theorem f_one_bool : Try.prog.cellsOf 4 = 1 := by kernel_rfl
theorem f_one_u32 : Try.prog.cellsOf 45 = 1 := by kernel_rfl
theorem f_one_words : Try.prog.cellsOf 30 = 1 := by kernel_rfl
theorem f_one_inner : Try.prog.cellsOf 48 = 1 := by kernel_rfl
theorem f_three_path : Try.prog.cellsOf 47 = 3 := by kernel_rfl
theorem f_three_port : Try.prog.cellsOf 27 = 3 := by kernel_rfl
theorem f_five_inner : Try.prog.cellsOf 52 = 5 := by kernel_rfl
theorem f_four_node : Try.prog.cellsOf 50 = 4 := by kernel_rfl
theorem f_six_edge : Try.prog.cellsOf 44 = 6 := by kernel_rfl
theorem int_at {fuel : Nat} {c : Value} {y : DataW H × List MemPlace} {l : List Value} (h : DataW.trod enc Try.prog W 0 (fun _ => true) true fuel 3 l = some y) (e : l = [c]) : ∃ n, c = .int .i64 n ∧ I64 n := by
  subst e
  obtain ⟨n, e0, _, w0⟩ := DataW.trod_int Try.underlying3 h
  obtain rfl : c = .int .i64 n := by simpa using e0
  exact ⟨n, rfl, wf_i64 w0⟩
theorem bool_at {fuel : Nat} {c : Value} {y : DataW H × List MemPlace} {l : List Value} (h : DataW.trod enc Try.prog W 0 (fun _ => true) true fuel 4 l = some y) (e : l = [c]) : ∃ b, c = .bool b := by
  subst e
  obtain ⟨b, e0, _⟩ := DataW.trod_bool Try.underlying4 h
  exact ⟨b, by simpa using e0⟩
/-- what is known of a way that comes in -/
def WIn (x : Way) : Prop := I64 x.leave ∧ (0 ≤ x.add ∧ x.add ≤ 4294967295) ∧ U32 x.enter
set_option maxRecDepth 100000 in
theorem come_pmC {fuel : Nat} {cs : List Value} {y : DataW H × List MemPlace} (h : DataW.trod enc Try.prog W 0 (fun _ => true) true fuel 47 cs = some y) : ∃ x : Pm, cs = pmC x ∧ PmR W x ∧ WIn x.w := by
  obtain ⟨y0, y1, y2, n, _, hl, h0, h1, h2⟩ := trod_s3 Try.underlying47 h
  rw [f_three_path] at hl
  match cs, hl with
  | [c0, c1, c2], _ =>
    obtain ⟨L, rfl, wL⟩ := int_at (c := c0) h0 (by rw [show Try.prog.cellsOf _ = 1 from f_one_int]; rfl)
    have g1 : DataW.trod enc Try.prog W 0 (fun _ => true) true n 45 [c1] = some y1 := by
      have q : DataW.trod enc Try.prog W 0 (fun _ => true) true n 45 (([Value.int .i64 L, c1, c2].drop 1).take (Try.prog.cellsOf 45)) = some y1 := h1
      rw [f_one_u32] at q
      exact q
    have g2 : DataW.trod enc Try.prog W 0 (fun _ => true) true n 30 [c2] = some y2 := by
      have q : DataW.trod enc Try.prog W 0 (fun _ => true) true n 30 (([Value.int .i64 L, c1, c2].drop 2).take (Try.prog.cellsOf 30)) = some y2 := h2
      rw [f_one_words] at q
      exact q
    obtain ⟨a, e1, _, w1⟩ := DataW.trod_int Try.underlying45 g1
    obtain ⟨A, k, c, l, rfl, hs, hu⟩ := come_words g2
    obtain rfl : c1 = .int .u32 a := by simpa using e1
    have hk : k = l.length := by have := hs.1; simp [wds] at this; omega
    subst hk
    exact ⟨⟨A, c, ⟨L, a, l⟩⟩, rfl, hs, wL, wf_u32 w1, hu⟩
set_option maxRecDepth 100000 in
theorem come_imC {fuel : Nat} {cs : List Value} {y : DataW H × List MemPlace} (h : DataW.trod enc Try.prog W 0 (fun _ => true) true fuel 52 cs = some y) : ∃ x : Im, cs = imC x ∧ PmR W x.p ∧ I64 x.i ∧ I64 x.o ∧ WIn x.p.w := by
  obtain ⟨y0, y1, y2, n, _, hl, h0, h1, h2⟩ := trod_s3 Try.underlying52 h
  rw [f_five_inner] at hl
  match cs, hl with
  | [c0, c1, c2, c3, c4], _ =>
    obtain ⟨i, rfl, wi⟩ := int_at (c := c0) h0 (by rw [show Try.prog.cellsOf _ = 1 from f_one_int]; rfl)
    obtain ⟨o, rfl, wo⟩ := int_at (c := c1) h1 (by rw [show Try.prog.cellsOf _ = 1 from f_one_int]; rfl)
    have g2 : DataW.trod enc Try.prog W 0 (fun _ => true) true n 47 [c2, c3, c4] = some y2 := by
      have q : DataW.trod enc Try.prog W 0 (fun _ => true) true n 47 (([Value.int .i64 i, .int .i64 o, c2, c3, c4].drop 2).take (Try.prog.cellsOf 47)) = some y2 := h2
      rw [f_three_path] at q
      exact q
    obtain ⟨x, hx, hr, hw⟩ := come_pmC g2
    refine ⟨⟨i, o, x⟩, ?_, hr, wi, wo, hw⟩
    unfold pmC at hx
    injection hx with e2 hx
    injection hx with e3 hx
    injection hx with e4 _
    rw [e2, e3, e4]
    rfl
set_option maxRecDepth 100000 in
theorem come_ptC {fuel : Nat} {cs : List Value} {y : DataW H × List MemPlace} (h : DataW.trod enc Try.prog W 0 (fun _ => true) true fuel 27 cs = some y) : ∃ p : Pt, cs = [.int .i64 p.n, .bool p.o, .int .i64 p.p] ∧ P64 p := by
  obtain ⟨y0, y1, y2, n, _, hl, h0, h1, h2⟩ := trod_s3 Try.underlying27 h
  rw [f_three_port] at hl
  match cs, hl with
  | [c0, c1, c2], _ =>
    obtain ⟨i, rfl, wi⟩ := int_at (c := c0) h0 (by rw [show Try.prog.cellsOf _ = 1 from f_one_int]; rfl)
    obtain ⟨b, rfl⟩ := bool_at (c := c1) h1 (by rw [show Try.prog.cellsOf _ = 1 from f_one_bool]; rfl)
    obtain ⟨p, rfl, wp⟩ := int_at (c := c2) h2 (by rw [show Try.prog.cellsOf _ = 1 from f_one_int]; rfl)
    exact ⟨⟨i, b, p⟩, rfl, wi, wp⟩
set_option maxRecDepth 100000 in
theorem come_edC {fuel : Nat} {cs : List Value} {y : DataW H × List MemPlace} (h : DataW.trod enc Try.prog W 0 (fun _ => true) true fuel 44 cs = some y) : ∃ e : Pt × Pt, cs = edC e ∧ P64 e.1 ∧ P64 e.2 := by
  obtain ⟨y0, y1, n, _, hl, h0, h1⟩ := trod_s2 Try.underlying44 h
  rw [f_six_edge] at hl
  match cs, hl with
  | [c0, c1, c2, c3, c4, c5], _ =>
    have g0 : DataW.trod enc Try.prog W 0 (fun _ => true) true n 27 [c0, c1, c2] = some y0 := by
      have q : DataW.trod enc Try.prog W 0 (fun _ => true) true n 27 (([c0, c1, c2, c3, c4, c5].drop 0).take (Try.prog.cellsOf 27)) = some y0 := h0
      rw [f_three_port] at q
      exact q
    have g1 : DataW.trod enc Try.prog W 0 (fun _ => true) true n 27 [c3, c4, c5] = some y1 := by
      have q : DataW.trod enc Try.prog W 0 (fun _ => true) true n 27 (([c0, c1, c2, c3, c4, c5].drop 3).take (Try.prog.cellsOf 27)) = some y1 := h1
      rw [f_three_port] at q
      exact q
    obtain ⟨p, hp, wp⟩ := come_ptC g0
    obtain ⟨q, hq, wq⟩ := come_ptC g1
    refine ⟨(p, q), ?_, wp, wq⟩
    injection hp with a0 hp
    injection hp with a1 hp
    injection hp with a2 _
    injection hq with b0 hq
    injection hq with b1 hq
    injection hq with b2 _
    rw [a0, a1, a2, b0, b1, b2]
    rfl
/-- what is known of a node that comes in -/
structure NIn (x : Nm) : Prop where
  ins : I64 x.ins
  outs : I64 x.outs
  depth : I64 x.depth
  inn : ∀ y ∈ x.inner, I64 y.i ∧ I64 y.o ∧ WIn y.p.w
set_option maxRecDepth 100000 in
theorem come_nmC {fuel : Nat} {cs : List Value} {y : DataW H × List MemPlace} (h : DataW.trod enc Try.prog W 0 (fun _ => true) true fuel 50 cs = some y) : ∃ x : Nm, cs = nmC x ∧ NmR W x ∧ NIn x := by
  obtain ⟨y0, y1, y2, y3, n, _, hl, h0, h1, h2, h3⟩ := trod_s4 Try.underlying50 h
  rw [f_four_node] at hl
  match cs, hl with
  | [c0, c1, c2, c3], _ =>
    obtain ⟨i, rfl, wi⟩ := int_at (c := c0) h0 (by rw [show Try.prog.cellsOf _ = 1 from f_one_int]; rfl)
    obtain ⟨o, rfl, wo⟩ := int_at (c := c1) h1 (by rw [show Try.prog.cellsOf _ = 1 from f_one_int]; rfl)
    obtain ⟨d, rfl, wd⟩ := int_at (c := c2) h2 (by rw [show Try.prog.cellsOf _ = 1 from f_one_int]; rfl)
    have g3 : DataW.trod enc Try.prog W 0 (fun _ => true) true n 48 [c3] = some y3 := by
      have q : DataW.trod enc Try.prog W 0 (fun _ => true) true n 48 (([Value.int .i64 i, .int .i64 o, .int .i64 d, c3].drop 3).take (Try.prog.cellsOf 48)) = some y3 := h3
      rw [f_one_inner] at q
      exact q
    obtain ⟨A, c, L, rfl, hs, hr⟩ := come_list Try.underlying48 f_five_inner (by decide) imC imC_len Im.zero (fun _ _ _ q => come_imC q) g3
    exact ⟨⟨i, o, d, A, c, L⟩, rfl, ⟨hs, fun x hx => (hr x hx).1⟩, wi, wo, wd, fun x hx => (hr x hx).2⟩
/-! ### sizes -/
theorem fweights_part {e : TypeId} {d : DataW H} {n : Nat} : ∀ {l : List (DataW H)}, d ∈ l → n ∈ d.weights Try.prog e → n ∈ DataW.weightsAll Try.prog e l
  | x :: r, h, hn => by
    unfold DataW.weightsAll
    rcases List.mem_cons.1 h with rfl | h
    · exact List.mem_append_left _ hn
    · exact List.mem_append_right _ (fweights_part h hn)
def FReach (l : List Nat) : Prop := ∀ q ∈ l, q ≤ 140737488355328
theorem freach_of {t : TypeId} {d : DataW H} {ts : List TypeId} {ds : List (DataW H)} {j : Nat} (ht : ts[j]? = some t) (hd : ds[j]? = some d) (hz : (DataW.weightsEach Try.prog ts ds).all (· ≤ reachBytes) = true) : FReach (d.weights Try.prog t) := fun q hq => by
  have hm := DataW.weights_mem_each ht hd _ hq
  have hle := List.all_eq_true.1 hz _ hm
  have hle2 : q ≤ reachBytes := of_decide_eq_true hle
  have := reachBytes_lt
  have e : (2 : Nat) ^ 47 = 140737488355328 := by decide
  omega
set_option maxRecDepth 100000 in
/-- a list's length, and what is known of its elements -/
theorem list_w {T E : TypeId} (ht : Try.prog.underlying T = some (.slice E)) (hb : 1 ≤ Try.prog.bytesOf E) {k : Nat} (hk : Try.prog.cellsOf E = k) (k0 : 0 < k) {α : Type} (C : α → List Value) (hC : ∀ x, (C x).length = k) (z : α) {R : α → Prop} (one : ∀ fuel x y, DataW.trod enc Try.prog W 0 (fun _ => true) true fuel E (C x) = some y → FReach (y.1.weights Try.prog E) → R x) {fuel n c : Nat} {A : Option Addr} {L : List α} {y : DataW H × List MemPlace} (hn : n = List.length L) (sl : Sl W k A n c (L.flatMap C)) (h : DataW.trod enc Try.prog W 0 (fun _ => true) true fuel T [.slice A n c] = some y)
    (hr : FReach (y.1.weights Try.prog T)) : n ≤ 140737488355328 ∧ ∀ x ∈ L, R x := by
  rcases Go.Deep.open_slice ht h with ⟨hcs, _⟩ | ⟨a, n', c', m, fu, D, Pl, hcs, _, hnc, hcm, hm, hy, hx⟩
  · have e : (Value.slice A n c) = .slice none 0 0 := by injection hcs
    injection e with _ e _
    refine ⟨by omega, fun x hx => ?_⟩
    rw [List.eq_nil_of_length_eq_zero (by omega : L.length = 0)] at hx
    cases hx
  · have e : (Value.slice A n c) = .slice (some a) n' c' := by injection hcs
    injection e with eA e _
    subst e
    subst eA
    have hmn : n ≤ m := by rw [hm]; split <;> omega
    have hw : ∀ j, j < n → ∀ q ∈ (D j).weights Try.prog E, q ∈ y.1.weights Try.prog T := fun j hj q hq => by
      rw [hy]
      show _ ∈ DataW.weights Try.prog T (DataW.slice ((List.range n).map D) ((List.range (m - n)).map fun j => D (n + j)))
      unfold DataW.weights
      rw [ht]
      refine List.mem_cons_of_mem _ (List.mem_append_left _ ?_)
      exact fweights_part (List.mem_map.2 ⟨j, List.mem_range.2 hj, rfl⟩) hq
    refine ⟨?_, fun x hxm => ?_⟩
    · refine Nat.le_trans ?_ (hr ((((List.range n).map D).length + ((List.range (m - n)).map fun j => D (n + j)).length) * Try.prog.bytesOf E) ?_)
      · rw [List.length_map, List.length_range]
        exact Nat.le_trans (Nat.le_add_right _ _) (Nat.le_mul_of_pos_right _ hb)
      · rw [hy]
        show _ ∈ DataW.weights Try.prog T (DataW.slice ((List.range n).map D) ((List.range (m - n)).map fun j => D (n + j)))
        unfold DataW.weights
        rw [ht]
        exact List.mem_cons_self ..
    · obtain ⟨i, hi, rfl⟩ := List.getElem_of_mem hxm
      rw [hk] at hx
      obtain ⟨cs', h1, h2⟩ := hx i (by omega)
      obtain ⟨_, h4, h3⟩ := World.cells?_some h1
      have e : cs' = C (L[i]'hi) := by
        refine List.ext_getElem? fun j => ?_
        rcases Nat.lt_or_ge j k with q | q
        · rw [← h3 j q, add_add']
          obtain ⟨ad, e1, hc⟩ := sl.2.2.2.2 (by omega)
          injection e1 with e1
          subst e1
          have q2 : j < (C (L[i]'hi)).length := by rw [hC]; exact q
          have e3 : (C (L[i]'hi))[j]? = some ((C (L[i]'hi))[j]'q2) := List.getElem?_eq_getElem q2
          rw [e3]
          exact hc _ _ (by rw [els_get C k hC z L i j hi q, List.getD_eq_getElem?_getD, List.getElem?_eq_getElem hi]; exact e3)
        · rw [List.getElem?_eq_none (by omega), List.getElem?_eq_none (by rw [hC]; exact q)]
      subst e
      exact one _ _ _ h2 (fun q hq => hr q (hw i (by omega) q hq))
/-- so many inner ways -/
def NmB (x : Nm) : Prop := x.inner.length ≤ 140737488355328
set_option maxRecDepth 100000 in
theorem nm_w {fuel : Nat} {x : Nm} {y : DataW H × List MemPlace} (h : DataW.trod enc Try.prog W 0 (fun _ => true) true fuel 50 (nmC x) = some y) (hr : FReach (y.1.weights Try.prog 50)) : NmB x := by
  obtain ⟨x', e, hx, _⟩ := come_nmC h
  have e2 : x'.A = x.A ∧ x'.inner.length = x.inner.length ∧ x'.c = x.c := by
    unfold nmC at e
    injection e with _ e
    injection e with _ e
    injection e with _ e
    injection e with e _
    injection e with a b c
    exact ⟨a.symm, b.symm, c.symm⟩
  obtain ⟨y0, y1, y2, y3, n, hy, _, _, _, _, h3⟩ := trod_s4 Try.underlying50 h
  have g3 : DataW.trod enc Try.prog W 0 (fun _ => true) true n 48 [.slice x.A x.inner.length x.c] = some y3 := by
    have q : DataW.trod enc Try.prog W 0 (fun _ => true) true n 48 (((nmC x).drop 3).take (Try.prog.cellsOf 48)) = some y3 := h3
    rw [f_one_inner] at q
    exact q
  have r3 : FReach (y3.1.weights Try.prog 48) := fun q hq => by
    refine hr q ?_
    rw [hy]
    show _ ∈ DataW.weights Try.prog 50 (DataW.agg [y0.1, y1.1, y2.1, y3.1])
    unfold DataW.weights
    rw [Try.underlying50]
    exact DataW.weights_mem_each (ts := [3, 3, 3, 48]) (j := 3) rfl rfl _ hq
  have sl : Sl W 5 x.A x.inner.length x.c (x'.inner.flatMap imC) := by rw [← e2.1, ← e2.2.1, ← e2.2.2]; exact hx.sl
  exact (list_w (R := fun _ => True) Try.underlying48 (by decide +kernel) f_five_inner (by decide) imC imC_len Im.zero (fun _ _ _ _ _ => trivial) (L := x'.inner) e2.2.1.symm sl g3 r3).1
/-- what is known of a graph that comes in -/
structure GIn (g : Gm) : Prop where
  nd : ∀ x ∈ g.nodes, NIn x
  ed : ∀ e ∈ g.edges, P64 e.1 ∧ P64 e.2
structure GmB (g : Gm) : Prop where
  n : g.nodes.length ≤ 140737488355328
  e : g.edges.length ≤ 140737488355328
  i : ∀ x ∈ g.nodes, NmB x
set_option maxRecDepth 100000 in
theorem come_graph_z {base : Nat} {v : Value} {d : DataW H} {p : List MemPlace} (hv : Value.okWide Try.prog W .any base 25 v) (h : DataW.Trod enc Try.prog W 0 (fun _ => true) true 25 v d p) :
    ∃ NA Nc nodes EA Ec edges, v = .agg #[.slice NA (List.length nodes) Nc, .slice EA (List.length edges) Ec] ∧ GmR W ⟨NA, Nc, nodes, EA, Ec, edges⟩ ∧ GIn ⟨NA, Nc, nodes, EA, Ec, edges⟩ ∧
      ∀ (ts : List TypeId) (ds : List (DataW H)) (j : Nat), ts[j]? = some 25 → ds[j]? = some d → (DataW.weightsEach Try.prog ts ds).all (· ≤ reachBytes) = true → GmB ⟨NA, Nc, nodes, EA, Ec, edges⟩ := by
  obtain ⟨v0, v1, y0, y1, n, rfl, hd, _, h0, h1⟩ := Go.Joins.open_agg2 Try.underlying25 (by kernel_rfl) (by kernel_rfl) hv h
  obtain ⟨NA, Nc, nodes, rfl, hs, hr⟩ := come_list Try.underlying22 f_four_node (by decide) nmC nmC_len Nm.zero (fun _ _ _ q => come_nmC q) h0
  obtain ⟨EA, Ec, edges, rfl, hs2, hr2⟩ := come_list Try.underlying23 f_six_edge (by decide) edC edC_len edZ (fun _ _ _ q => come_edC q) h1
  refine ⟨NA, Nc, nodes, EA, Ec, edges, rfl, ⟨hs, fun x hx => (hr x hx).1, hs2⟩, ⟨fun x hx => (hr x hx).2, hr2⟩, fun ts ds j ht hdj hz => ?_⟩
  have hre := freach_of ht hdj hz
  have hw : ∀ (j : Nat) (t : TypeId) (d : DataW H), ([22, 23] : List TypeId)[j]? = some t → [y0.1, y1.1][j]? = some d → FReach (d.weights Try.prog t) := fun j t d2 ht hd2 q hq => by
    refine hre q ?_
    rw [hd]
    show _ ∈ DataW.weights Try.prog 25 (DataW.agg [y0.1, y1.1])
    unfold DataW.weights
    rw [Try.underlying25]
    exact DataW.weights_mem_each (j := j) (t := t) (d := d2) ht hd2 _ hq
  have q0 := list_w Try.underlying22 (by decide +kernel) f_four_node (by decide) nmC nmC_len Nm.zero (fun _ _ _ q r => nm_w q r) rfl hs h0 (hw 0 _ _ rfl rfl)
  have q1 := list_w (R := fun _ => True) Try.underlying23 (by decide +kernel) f_six_edge (by decide) edC edC_len edZ (fun _ _ _ _ _ => trivial) rfl hs2 h1 (hw 1 _ _ rfl rfl)
  exact ⟨q0.1, q1.1, q0.2⟩
end
end Go.Proofs.Yteklohamkmiphaa
namespace Go.Proofs.Yteklohamkmiphaa
open Go.RowKit

def wtP (y : Im) : Nat := y.p.w.enter.length / 4
def wtN (x : Nm) : Nat := x.inner.length + (x.inner.map wtP).sum
def wtG (nodes : List Nm) (edges : List (Pt × Pt)) : Nat := nodes.length + edges.length + (nodes.map wtN).sum
theorem sum_take {α : Type} (f : α → Nat) (z : α) {L : List α} {k : Nat} (h : k < L.length) : ((L.take (k + 1)).map f).sum = ((L.take k).map f).sum + f (L.getD k z) := by
  rw [List.take_succ_eq_append_getElem h, List.map_append, List.sum_append, List.getD_eq_getElem?_getD, List.getElem?_eq_getElem h]
  simp
/-- so much, if it is not too much -/
def Upto60 (N T : Nat) : Prop := N ≤ 60 → N = T
def MuchOut (w : World) (nodes : List Nm) (edges : List (Pt × Pt)) (e : Ending) (w' : World) : Prop := ∃ b, e = .returned (.bool b) ∧ (b = false → wtG nodes edges ≤ 60) ∧ Ext w w'
set_option maxRecDepth 100000 in
set_option maxHeartbeats 4000000 in
theorem much6_any (NA : Option Addr) (Nc : Nat) (nodes : List Nm) (EA : Option Addr) (Ec : Nat) (edges : List (Pt × Pt)) (nl el : Nat) (w : World) (hl : Hid (nl = nodes.length)) (he : Hid (el = edges.length)) (hG : Hid (GmR w ⟨NA, Nc, nodes, EA, Ec, edges⟩)) (hB : Hid (GmB ⟨NA, Nc, nodes, EA, Ec, edges⟩)) :
    Calls Try.prog 6 #[.agg #[.slice NA nl Nc, .slice EA el Ec]] w (MuchOut w nodes edges) := by
  have b1 : nl ≤ 140737488355328 := by rw [hl.out]; exact hB.out.n
  have b2 : el ≤ 140737488355328 := by rw [he.out]; exact hB.out.e
  go_enter Try.func6, Try.ntmps6
  go_upto_region 2 with fail
  obtain ⟨w0, hw0⟩ : ∃ w0, w0 = w.alloc (.cells #[.slice NA nl Nc, .slice EA el Ec] 25) := ⟨_, rfl⟩
  obtain ⟨bg, hbg⟩ : ∃ b, b = w.heap.size := ⟨_, rfl⟩
  have X0 : Hid (Ext w w0) := Lib.hid (by rw [hw0]; exact (Ext.refl w).alloc _)
  have B0 : Hid (Bk w0 bg 25 #[.slice NA nl Nc, .slice EA el Ec]) := Lib.hid (by rw [hw0, hbg]; exact Bk.new _ _ _)
  rw [← hw0, ← hbg]
  clear hw0 hbg
  have E00 := Lib.hid (Ext.refl w0)
  have HP0 : Hid (Upto60 (nl + el) (nl + el + ((nodes.take 0).map wtN).sum)) := Lib.hid (fun _ => by simp)
  go_wp2
  go_loopg [3, 4, 5] nl (fun z v3 v4 _ wr => ∃ (i N : Nat), z = nl - i ∧ i ≤ nl ∧ v4 = .int .i64 i ∧ v3 = .int .i64 N ∧ N ≤ 4611686018427387904 ∧ Hid (Upto60 N (nl + el + ((nodes.take i).map wtN).sum)) ∧ Hid (Ext w0 wr))
  case atStart => exact ⟨0, nl + el, rfl, Nat.zero_le _, rfl, by go_num, by omega, HP0, E00⟩
  case round =>
    clear HP0 E00
    obtain ⟨i, N, rfl, hi, rfl, rfl, hN, HU, HX⟩ := hrel
    have c0 := (B0.out.ext HX.out).cell 0
    by_cases hlt : i < nl
    · by_cases h60 : N ≤ 60
      · have hil : i < nodes.length := by rw [← hl.out]; exact hlt
        have hltz : (i : Int) < (nl : Int) := by omega
        have h60z : (N : Int) ≤ 60 := by omega
        obtain ⟨ad, hNA, _, _, _, h3⟩ := (hG.out.ext X0.out).nat hil
        simp only at hNA
        subst hNA
        have hnm := getD_mem' Nm.zero hil
        have hib := hB.out.i _ hnm
        have hnd := (hG.out.ext X0.out).nd _ hnm
        have hst := sum_take wtN Nm.zero hil
        obtain ⟨⟨nin, nou, nde, iA, ic, inner⟩, hx⟩ : ∃ e, nodes.getD i Nm.zero = e := ⟨_, rfl⟩
        simp only at h3 hnm hib hnd
        rw [hx] at h3 hib hnd hst
        unfold NmB at hib
        simp only at h3 hib
        obtain ⟨ni, hni⟩ : ∃ n, n = inner.length := ⟨_, rfl⟩
        rw [← hni] at h3 hib
        have HST := Lib.hid hst
        have HND := Lib.hid hnd
        have HNI := Lib.hid hni
        have D3 : Hid (∀ W, Ext w0 W → W.cell? ⟨(ad.add (i * 4)).block, (ad.add (i * 4)).off + 3, none⟩ = some (.slice iA ni ic)) := Lib.hid (fun W e => e.cell h3)
        have h3 := D3.out _ HX.out
        have HT0 : Hid (Upto60 (N + ni) (nl + el + ((nodes.take i).map wtN).sum + (ni + ((inner.take 0).map wtP).sum))) := Lib.hid (fun _ => by rw [← HU.out h60]; simp)
        clear hst hnd hni hx hnm hil
        go_wp2
        clear h3 c0
        go_loopg [3, 5] ni (fun z v3 v5 wr => ∃ (k N : Nat), z = ni - k ∧ k ≤ ni ∧ v5 = .int .i64 k ∧ v3 = .int .i64 N ∧ N ≤ 4611686018427387904 ∧ Hid (Upto60 N (nl + el + ((nodes.take i).map wtN).sum + (ni + ((inner.take k).map wtP).sum))) ∧ Hid (Ext w0 wr))
        case atStart => exact ⟨0, N + ni, rfl, Nat.zero_le _, rfl, by go_num, by omega, HT0, HX⟩
        case round =>
          clear HT0 HX hN h60z
          obtain ⟨k, N, rfl, hk, rfl, rfl, hN, HV, HX⟩ := hrel
          have c0 := (B0.out.ext HX.out).cell 0
          have h3 := D3.out _ HX.out
          by_cases hkl : k < ni
          · by_cases h60 : N ≤ 60
            · have hkL : k < inner.length := by rw [← HNI.out]; exact hkl
              have hkz : (k : Int) < (ni : Int) := by omega
              have h60z : (N : Int) ≤ 60 := by omega
              obtain ⟨a2, ha2, _, _, _, _, g4⟩ := (HND.out.ext HX.out).at hkL
              simp only at ha2
              subst ha2
              have hle := (HND.out.ls _ (getD_mem' Im.zero hkL)).le
              have hsk := sum_take wtP Im.zero hkL
              obtain ⟨⟨xi, xo, ⟨pA, pc, ⟨pl_, pa, pe⟩⟩⟩, hx⟩ : ∃ e, inner.getD k Im.zero = e := ⟨_, rfl⟩
              simp only at g4
              rw [hx] at g4 hle hsk
              simp only at g4 hle
              obtain ⟨np, hnp⟩ : ∃ n, n = pe.length := ⟨_, rfl⟩
              rw [← hnp] at g4 hle
              have HSK := Lib.hid hsk
              have HNP := Lib.hid hnp
              clear hsk hnp hx hkL
              go_wp2
              clear g4 h3 c0
              go_roundg (ni - (k + 1))
              case measure => omega
              case rel =>
                refine ⟨k + 1, N + np / 4, by omega, by omega, by go_num, by go_num, by omega, Lib.hid (fun _ => ?_), HX⟩
                have q := HV.out h60
                have q2 : wtP ⟨xi, xo, ⟨pA, pc, ⟨pl_, pa, pe⟩⟩⟩ = np / 4 := by rw [HNP.out]; rfl
                have q3 := HSK.out
                rw [q2] at q3
                omega
            · have h60z : ¬ (N : Int) ≤ 60 := by omega
              have hkz : (k : Int) < (ni : Int) := by omega
              go_wp2
              go_roundg (nl - (i + 1))
              case measure => omega
              case rel => exact ⟨i + 1, N, by omega, by omega, by go_num, rfl, hN, Lib.hid (fun h => absurd h h60), HX⟩
          · obtain rfl : k = ni := by omega
            go_wp2
            go_roundg (nl - (i + 1))
            case measure => omega
            case rel =>
              refine ⟨i + 1, N, by omega, by omega, by go_num, rfl, hN, Lib.hid (fun h => ?_), HX⟩
              have q := HV.out h
              have q2 : wtN ⟨nin, nou, nde, iA, ic, inner⟩ = inner.length + (inner.map wtP).sum := rfl
              have q3 := HST.out
              rw [q2] at q3
              rw [HNI.out, List.take_length] at q
              omega
      · have h60z : ¬ (N : Int) ≤ 60 := by omega
        have h60y : (N : Int) > 60 := by omega
        have hltz : (i : Int) < (nl : Int) := by omega
        go_wp2
        go_returns
        exact ⟨true, rfl, fun h => (nomatch h), X0.out.trans HX.out⟩
    · obtain rfl : i = nl := by omega
      have e : nodes.take i = nodes := by rw [hl.out]; exact List.take_length
      rw [e] at HU
      have hN' : N ≤ 60 → wtG nodes edges ≤ 60 := fun h => by have q := HU.out h; unfold wtG; rw [← hl.out, ← he.out]; omega
      have HNN := Lib.hid hN'
      clear hN' e
      by_cases h60 : N ≤ 60
      · have h60y : ¬ (N : Int) > 60 := by omega
        go_wp2
        go_returns
        exact ⟨false, rfl, fun _ => HNN.out h60, X0.out.trans HX.out⟩
      · have h60y : (N : Int) > 60 := by omega
        go_wp2
        go_returns
        exact ⟨true, rfl, fun h => (nomatch h), X0.out.trans HX.out⟩
end Go.Proofs.Yteklohamkmiphaa
namespace Go.Proofs.Yteklohamkmiphaa
open Go.RowKit

theorem elem_nm : Elem Try.prog 22 50 4 48 (.agg #[.int .i64 0, .int .i64 0, .int .i64 0, .slice none 0 0]) := ⟨by kernel_rfl, by kernel_rfl, rfl, by decide⟩
theorem elem_ed : Elem Try.prog 23 44 6 48 (.agg #[.int .i64 0, .bool false, .int .i64 0, .int .i64 0, .bool false, .int .i64 0]) := ⟨by kernel_rfl, by kernel_rfl, rfl, by decide⟩
/-- a block that the building leaves alone -/
def SafeK (B : Nat) (w : World) (k : Nat) : Prop := k < B ∨ Ty w k 52 ∨ Ty w k 45
def SafeS (B : Nat) (w : World) (sz : Nat) (A : Option Addr) (n c : Nat) (xs : List Value) : Prop := Sl w sz A n c xs ∧ (0 < n → ∀ k, blk A c = some k → SafeK B w k)
structure SafeN (B : Nat) (w : World) (x : Nm) : Prop where
  sl : SafeS B w 5 x.A x.inner.length x.c (x.inner.flatMap imC)
  ls : ∀ y ∈ x.inner, SafeS B w 1 y.p.A y.p.w.enter.length y.p.c (wds y.p.w.enter)
/-- a block that the building writes to -/
def BuiltK (B : Nat) (w : World) (k : Nat) : Prop := B ≤ k ∧ (Ty w k 25 ∨ Ty w k 50 ∨ Ty w k 44)
section
variable {w w' w0 : World} {B : Nat}
theorem Ty.upd {S : Nat → Prop} {k : Nat} {e : TypeId} (h : Ty w k e) (u : Upd S w w') (hn : ¬ S k) : Ty w' k e := by
  obtain ⟨a, b, h⟩ := h
  exact ⟨a, b, (u.block k (Array.getElem?_eq_some_iff.1 h).1 hn).trans h⟩
theorem BuiltK.safe {k : Nat} (h : BuiltK B w k) : ¬ SafeK B w k := by
  rintro (q | q | q)
  · have := h.1; omega
  · rcases h.2 with r | r | r <;> exact absurd (q.ne r) (by decide)
  · rcases h.2 with r | r | r <;> exact absurd (q.ne r) (by decide)
theorem SafeK.upd {S : Nat → Prop} {k : Nat} (h : SafeK B w k) (u : Upd S w w') (hS : ∀ k, S k → BuiltK B w k) : SafeK B w' k := by
  have hn : ¬ S k := fun e => (hS k e).safe h
  rcases h with q | q | q
  · exact .inl q
  · exact .inr (.inl (q.upd u hn))
  · exact .inr (.inr (q.upd u hn))
theorem SafeS.upd {S : Nat → Prop} {sz n c : Nat} {A : Option Addr} {xs : List Value} (h : SafeS B w sz A n c xs) (u : Upd S w w') (hS : ∀ k, S k → BuiltK B w k) : SafeS B w' sz A n c xs := by
  refine ⟨?_, fun h0 k hk => (h.2 h0 k hk).upd u hS⟩
  refine ⟨h.1.1, h.1.2.1, h.1.2.2.1, h.1.2.2.2.1, fun h0 => ?_⟩
  exact (h.1.upd u (fun k hk e => (hS k e).safe (h.2 h0 k hk))).2.2.2.2 h0
theorem SafeN.upd {S : Nat → Prop} {x : Nm} (h : SafeN B w x) (u : Upd S w w') (hS : ∀ k, S k → BuiltK B w k) : SafeN B w' x := ⟨h.sl.upd u hS, fun y hy => (h.ls y hy).upd u hS⟩
theorem SafeN.ext {x : Nm} (h : SafeN B w x) (e : Ext w w') : SafeN B w' x := h.upd (S := fun _ => False) (Upd.ext e) (fun _ h => h.elim)
theorem SafeN.nmR {x : Nm} (h : SafeN B w x) : NmR w x := ⟨h.sl.1, fun y hy => (h.ls y hy).1⟩
/-- what was there at first -/
theorem SafeS.old {sz n c : Nat} {A : Option Addr} {xs : List Value} (h : Sl w0 sz A n c xs) (hs : 0 < sz) (e : Ext w0 w) : SafeS w0.heap.size w sz A n c xs :=
  ⟨h.ext e, fun h0 k hk => .inl (sl_lt h h0 hs hk)⟩
/-- what is owned, of a type that is not written -/
theorem SafeS.own {B' sz n c : Nat} {A : Option Addr} {xs : List Value} {e : TypeId} (h : Own w B' e sz A n c xs) (he : e = 52 ∨ e = 45) : SafeS B w sz A n c xs :=
  ⟨h.sl, fun _ k hk => .inr (by
    have := h.ty hk
    rcases he with rfl | rfl
    · exact .inl this
    · exact .inr this)⟩
end
/-- a graph under way -/
structure GrB (B0 : Nat) (w0 w : World) (gb : Nat) (NA : Option Addr) (Nc : Nat) (nodes : List Nm) (EA : Option Addr) (Ec : Nat) (edges : List (Pt × Pt)) : Prop where
  b0 : B0 ≤ w0.heap.size
  bk : Bk w gb 25 #[.slice NA nodes.length Nc, .slice EA edges.length Ec]
  g0 : w0.heap.size ≤ gb
  no : Own w w0.heap.size 50 4 NA nodes.length Nc (nodes.flatMap nmC)
  eo : Own w w0.heap.size 44 6 EA edges.length Ec (edges.flatMap edC)
  nd : ∀ x ∈ nodes, SafeN B0 w x
  ex : Ext w0 w
section
variable {B0 : Nat} {w0 w w' w2 : World} {gb : Nat} {NA : Option Addr} {Nc : Nat} {nodes : List Nm} {EA : Option Addr} {Ec : Nat} {edges : List (Pt × Pt)}
theorem GrB.ext (h : GrB B0 w0 w gb NA Nc nodes EA Ec edges) (e : Ext w w') : GrB B0 w0 w' gb NA Nc nodes EA Ec edges :=
  ⟨h.b0, h.bk.ext e, h.g0, h.no.ext e, h.eo.ext e, fun x hx => (h.nd x hx).ext e, h.ex.trans e⟩
theorem GrB.gm (h : GrB B0 w0 w gb NA Nc nodes EA Ec edges) : GmR w ⟨NA, Nc, nodes, EA, Ec, edges⟩ := ⟨h.no.sl, fun x hx => (h.nd x hx).nmR, h.eo.sl⟩
theorem GrB.kG (h : GrB B0 w0 w gb NA Nc nodes EA Ec edges) : BuiltK B0 w gb := ⟨Nat.le_trans h.b0 h.g0, .inl h.bk.ty⟩
theorem GrB.kN (h : GrB B0 w0 w gb NA Nc nodes EA Ec edges) {k : Nat} (hk : blk NA Nc = some k) : BuiltK B0 w k := ⟨Nat.le_trans h.b0 (h.no.lt k hk).1, .inr (.inl (h.no.ty hk))⟩
theorem GrB.kE (h : GrB B0 w0 w gb NA Nc nodes EA Ec edges) {k : Nat} (hk : blk EA Ec = some k) : BuiltK B0 w k := ⟨Nat.le_trans h.b0 (h.eo.lt k hk).1, .inr (.inr (h.eo.ty hk))⟩
theorem GrB.nG (h : GrB B0 w0 w gb NA Nc nodes EA Ec edges) : blk NA Nc ≠ some gb := fun e => absurd ((h.no.ty e).ne h.bk.ty) (by decide)
theorem GrB.eG (h : GrB B0 w0 w gb NA Nc nodes EA Ec edges) : blk EA Ec ≠ some gb := fun e => absurd ((h.eo.ty e).ne h.bk.ty) (by decide)
theorem GrB.eN (h : GrB B0 w0 w gb NA Nc nodes EA Ec edges) {k : Nat} (hk : blk EA Ec = some k) : blk NA Nc ≠ some k := fun e => absurd ((h.no.ty e).ne (h.eo.ty hk)) (by decide)
/-- nodes behind the others -/
theorem GrB.pushN (h : GrB B0 w0 w gb NA Nc nodes EA Ec edges) {xs : List Nm} (sx : ∀ x ∈ xs, SafeN B0 w x) (g : w.grownBy w2 (blk NA Nc)) {NA' : Option Addr} {Nc' m : Nat} (hm : m = nodes.length + xs.length) (o : Own w2 w0.heap.size 50 4 NA' m Nc' (nodes.flatMap nmC ++ xs.flatMap nmC)) :
    GrB B0 w0 (w2.setCell ⟨gb, 0, none⟩ (.slice NA' m Nc')) gb NA' Nc' (nodes ++ xs) EA Ec edges := by
  subst hm
  have u : Upd (fun k => blk NA Nc = some k) w w2 := (Upd.refl _ w).grown g (fun k hk => .inl hk)
  have bk2 : Bk w2 gb 25 #[.slice NA nodes.length Nc, .slice EA edges.length Ec] := h.bk.grown g h.nG
  have u2 : Upd (fun k => blk NA Nc = some k ∨ k = gb) w (w2.setCell ⟨gb, 0, none⟩ (.slice NA' (nodes.length + xs.length) Nc')) := Upd.setCell (u.mono (fun k _ hk => .inl hk)) (.inl (.inr rfl)) _
  have hS : ∀ k, (blk NA Nc = some k ∨ k = gb) → BuiltK B0 w k := fun k hk => by
    rcases hk with hk | rfl
    · exact h.kN hk
    · exact h.kG
  have hlen : (nodes ++ xs).length = nodes.length + xs.length := List.length_append
  refine ⟨h.b0, ?_, h.g0, ?_, ?_, fun x hx => ?_, ?_⟩
  · have := bk2.set 0 (.slice NA' (nodes.length + xs.length) Nc')
    rw [hlen]
    exact this
  · rw [hlen, List.flatMap_append]
    exact o.far (p := ⟨gb, 0, none⟩) (fun e => absurd ((o.ty e).ne bk2.ty) (by decide)) _
  · exact h.eo.upd u2 (fun k hk e => by
      rcases e with e | rfl
      · exact h.eN hk e
      · exact h.eG hk)
  · rcases List.mem_append.1 hx with hx | hx
    · exact (h.nd x hx).upd u2 hS
    · exact (sx x hx).upd u2 hS
  · exact (h.ex.grown g (fun k hk => (h.no.lt k hk).1)).set h.g0 _
/-- edges behind the others -/
theorem GrB.pushE (h : GrB B0 w0 w gb NA Nc nodes EA Ec edges) {xs : List (Pt × Pt)} (g : w.grownBy w2 (blk EA Ec)) {EA' : Option Addr} {Ec' m : Nat} (hm : m = edges.length + xs.length) (o : Own w2 w0.heap.size 44 6 EA' m Ec' (edges.flatMap edC ++ xs.flatMap edC)) :
    GrB B0 w0 (w2.setCell ⟨gb, 1, none⟩ (.slice EA' m Ec')) gb NA Nc nodes EA' Ec' (edges ++ xs) := by
  subst hm
  have u : Upd (fun k => blk EA Ec = some k) w w2 := (Upd.refl _ w).grown g (fun k hk => .inl hk)
  have bk2 : Bk w2 gb 25 #[.slice NA nodes.length Nc, .slice EA edges.length Ec] := h.bk.grown g h.eG
  have u2 : Upd (fun k => blk EA Ec = some k ∨ k = gb) w (w2.setCell ⟨gb, 1, none⟩ (.slice EA' (edges.length + xs.length) Ec')) := Upd.setCell (u.mono (fun k _ hk => .inl hk)) (.inl (.inr rfl)) _
  have hS : ∀ k, (blk EA Ec = some k ∨ k = gb) → BuiltK B0 w k := fun k hk => by
    rcases hk with hk | rfl
    · exact h.kE hk
    · exact h.kG
  have hlen : (edges ++ xs).length = edges.length + xs.length := List.length_append
  refine ⟨h.b0, ?_, h.g0, ?_, ?_, fun x hx => (h.nd x hx).upd u2 hS, ?_⟩
  · have := bk2.set 1 (.slice EA' (edges.length + xs.length) Ec')
    rw [hlen]
    exact this
  · exact h.no.upd u2 (fun k hk e => by
      rcases e with e | rfl
      · exact h.eN e hk
      · exact h.nG hk)
  · rw [hlen, List.flatMap_append]
    exact o.far (p := ⟨gb, 1, none⟩) (fun e => absurd ((o.ty e).ne bk2.ty) (by decide)) _
  · exact (h.ex.grown g (fun k hk => (h.eo.lt k hk).1)).set h.g0 _
end
end Go.Proofs.Yteklohamkmiphaa
namespace Go.Proofs.Yteklohamkmiphaa
open Go.RowKit

theorem own_new (w : World) (cs : Array Value) (T : TypeId) (sz n base : Nat) (hb : base ≤ w.heap.size) (hl : cs.size = n * sz) (hn : n ≤ 1000000) : Own (w.alloc (.cells cs T)) base T sz (some ⟨w.heap.size, 0, none⟩) n n cs.toList :=
  ⟨by rw [Array.length_toList]; exact hl, .inr ⟨w.heap.size, cs, rfl, hb, Bk.new w T cs, Nat.le_refl _, by unfold maxLen; omega, by omega, by rw [List.take_of_length_le (by rw [Array.length_toList]; omega)]⟩⟩
def GraphOut (w : World) (a : Int) (e : Ending) (w' : World) : Prop := ∃ NA Nc nodes EA Ec edges, e = .returned (.agg #[.slice NA 6 Nc, .slice EA 6 Ec]) ∧ GmR w' ⟨NA, Nc, nodes, EA, Ec, edges⟩ ∧ Gm.v ⟨NA, Nc, nodes, EA, Ec, edges⟩ = exG a ∧ Ext w w'
/-- so many of the chapter's nodes, of its edges, are there -/
structure GSt (a : Int) (B0 : Nat) (wR w : World) (gb n m : Nat) (NA : Option Addr) (Nc : Nat) (nodes : List Nm) (EA : Option Addr) (Ec : Nat) (edges : List (Pt × Pt)) (k j : Nat) : Prop where
  n : n = nodes.length
  m : m = edges.length
  nv : nodes.map Nm.v = (exG a).nodes.take k
  ev : edges = (exG a).edges.take j
  gr : GrB B0 wR w gb NA Nc nodes EA Ec edges
theorem GSt.node {a : Int} {B0 : Nat} {wR w w2 w3 : World} {gb n m Nc Ec k j : Nat} {NA EA : Option Addr} {nodes : List Nm} {edges : List (Pt × Pt)} (h : GSt a B0 wR w gb n m NA Nc nodes EA Ec edges k j) (e : Ext w w2) {xs : List Nm} (sx : ∀ x ∈ xs, SafeN B0 w2 x) (g : w2.grownBy w3 (blk NA Nc)) {A3 : Option Addr} {c3 n' k' : Nat} (o : Own w3 wR.heap.size 50 4 A3 n' c3 (nodes.flatMap nmC ++ xs.flatMap nmC)) (hn : n' = n + xs.length) (hv : (exG a).nodes.take k ++ xs.map Nm.v = (exG a).nodes.take k') :
    GSt a B0 wR (w3.setCell ⟨gb, 0, none⟩ (.slice A3 n' c3)) gb n' m A3 c3 (nodes ++ xs) EA Ec edges k' j :=
  ⟨by rw [hn, h.n, List.length_append], h.m, by rw [List.map_append, h.nv, hv], h.ev, (h.gr.ext e).pushN sx g (by rw [hn, h.n]) o⟩
theorem GSt.edge {a : Int} {B0 : Nat} {wR w w2 w3 : World} {gb n m Nc Ec k j : Nat} {NA EA : Option Addr} {nodes : List Nm} {edges : List (Pt × Pt)} (h : GSt a B0 wR w gb n m NA Nc nodes EA Ec edges k j) (e : Ext w w2) {xs : List (Pt × Pt)} (g : w2.grownBy w3 (blk EA Ec)) {A3 : Option Addr} {c3 n' j' : Nat} (o : Own w3 wR.heap.size 44 6 A3 n' c3 (edges.flatMap edC ++ xs.flatMap edC)) (hn : n' = m + xs.length) (hv : (exG a).edges.take j ++ xs = (exG a).edges.take j') :
    GSt a B0 wR (w3.setCell ⟨gb, 1, none⟩ (.slice A3 n' c3)) gb n n' NA Nc nodes A3 c3 (edges ++ xs) k j' :=
  ⟨h.n, by rw [hn, h.m, List.length_append], h.nv, by rw [h.ev, hv], (h.gr.ext e).pushE g (by rw [hn, h.m]) o⟩
theorem GrB.stepE {B0 : Nat} {wR w w2 : World} {gb Nc Ec : Nat} {NA EA : Option Addr} {nodes : List Nm} {edges : List (Pt × Pt)} (h : GrB B0 wR w gb NA Nc nodes EA Ec edges) (g : w.grownBy w2 (blk EA Ec)) (v : Value) : ∃ S : Nat → Prop, Upd S w (w2.setCell ⟨gb, 1, none⟩ v) ∧ ∀ k, S k → BuiltK B0 w k :=
  ⟨fun k => blk EA Ec = some k ∨ k = gb, Upd.setCell ((Upd.refl _ w).grown g (fun k hk => .inl (.inl hk))) (.inl (.inr rfl)) _, fun k hk => by
    rcases hk with hk | rfl
    · exact h.kE hk
    · exact h.kG⟩
theorem own_keep {w w' : World} {B B' sz n c : Nat} {e : TypeId} {A : Option Addr} {xs : List Value} (o : Own w B e sz A n c xs) (he : e ≠ 25 ∧ e ≠ 50 ∧ e ≠ 44) {S : Nat → Prop} (u : Upd S w w') (hS : ∀ k, S k → BuiltK B' w k) : Own w' B e sz A n c xs :=
  o.upd u (fun k hk hs => by
    rcases (hS k hs).2 with q | q | q
    · exact he.1 ((o.ty hk).ne q)
    · exact he.2.1 ((o.ty hk).ne q)
    · exact he.2.2 ((o.ty hk).ne q))
theorem GrB.result {B0 : Nat} {w0 w : World} {gb rb Nc Ec : Nat} {NA EA : Option Addr} {nodes : List Nm} {edges : List (Pt × Pt)} (h : GrB B0 w0 w gb NA Nc nodes EA Ec edges) {cs : Array Value} (hb : Bk w rb 25 cs) (hr : B0 ≤ rb) (u v : Value) {wz : World} (hz : Ext wz w0) (hz2 : wz.heap.size ≤ rb) :
    GmR ((w.setCell ⟨rb, 0, none⟩ u).setCell ⟨rb, 1, none⟩ v) ⟨NA, Nc, nodes, EA, Ec, edges⟩ ∧ Ext wz ((w.setCell ⟨rb, 0, none⟩ u).setCell ⟨rb, 1, none⟩ v) := by
  have up : Upd (fun k => k = rb) w ((w.setCell ⟨rb, 0, none⟩ u).setCell ⟨rb, 1, none⟩ v) := Upd.setCell (S := fun k => k = rb) (Upd.setCell (S := fun k => k = rb) (Upd.refl _ w) (p := ⟨rb, 0, none⟩) (.inl rfl) u) (p := ⟨rb, 1, none⟩) (.inl rfl) v
  have hB : ∀ k, k = rb → BuiltK B0 w k := fun k hk => by subst hk; exact ⟨hr, .inl hb.ty⟩
  refine ⟨⟨(h.no.upd up (fun k hk e => ?_)).sl, fun x hx => ((h.nd x hx).upd up hB).nmR, (h.eo.upd up (fun k hk e => ?_)).sl⟩, ((hz.trans h.ex).set hz2 u).set hz2 v⟩
  · subst e; exact absurd ((h.no.ty hk).ne hb.ty) (by decide)
  · subst e; exact absurd ((h.eo.ty hk).ne hb.ty) (by decide)
/-- where its edges begin and lead -/
def exF : List Int := [0, 1, 3, 2, 2, 4]
def exT : List Pt := [⟨1, false, 0⟩, ⟨2, false, 0⟩, ⟨2, false, 1⟩, ⟨3, false, 0⟩, ⟨4, false, 0⟩, ⟨5, false, 0⟩]
def intC1 (x : Int) : List Value := [.int .i64 x]
theorem ex_edge (a : Int) : ∀ i, i < 6 → (exG a).edges.take i ++ [(⟨exF.getD i 0, true, 0⟩, exT.getD i ⟨0, false, 0⟩)] = (exG a).edges.take (i + 1)
  | 0, _ => rfl | 1, _ => rfl | 2, _ => rfl | 3, _ => rfl | 4, _ => rfl | 5, _ => rfl
  | n + 6, h => absurd h (by omega)
theorem node_safe (B : Nat) {wd w' : World} (inner : List Im) (cs : Array Value) (hcs : cs.toList = inner.flatMap imC) (hl : inner.length ≤ 1000) (i o d : Int) (hs : ∀ y ∈ inner, SafeS B wd 1 y.p.A y.p.w.enter.length y.p.c (wds y.p.w.enter)) {ad : Addr} {c : Nat} (had : ad = ⟨wd.heap.size, 0, none⟩) (hc : c = inner.length) (e : Ext (wd.alloc (.cells cs 52)) w') : SafeN B w' ⟨i, o, d, some ad, c, inner⟩ := by
  subst had
  subst hc
  have hsz : cs.size = inner.length * 5 := by rw [← Array.length_toList, hcs, els_len imC 5 imC_len]
  have h := own_new wd cs 52 5 inner.length 0 (Nat.zero_le _) hsz (by omega)
  rw [hcs] at h
  exact ⟨SafeS.own (h.ext e) (.inl rfl), fun y hy => (hs y hy).upd (S := fun _ => False) (Upd.ext (((Ext.refl wd).alloc _).trans e)) (fun _ h => h.elim)⟩
theorem zero_safe (B : Nat) (w : World) : SafeS B w 1 none 0 0 (wds []) := ⟨Sl.nil _ _, fun h => absurd h (Nat.lt_irrefl _)⟩
set_option maxRecDepth 100000 in
set_option maxHeartbeats 4000000 in
theorem graph_any (a : Int) (w : World) : Calls Try.prog 17 #[.int .u32 a] w (GraphOut w a) := by
  go_enter Try.func17, Try.ntmps17
  go_upto_region 2 with fail
  obtain ⟨wR, hwR⟩ : ∃ x, x = w.alloc (.cells #[.slice none 0 0, .slice none 0 0] 25) := ⟨_, rfl⟩
  have hsR : wR.heap.size = w.heap.size + 1 := by rw [hwR]; simp
  have BR : Hid (Bk wR w.heap.size 25 #[.slice none 0 0, .slice none 0 0]) := Lib.hid (by rw [hwR]; exact Bk.new _ _ _)
  have XR : Hid (Ext w wR) := Lib.hid (by rw [hwR]; exact (Ext.refl w).alloc _)
  rw [← hwR, ← hsR]
  obtain ⟨rb, hrb⟩ : ∃ b, b = w.heap.size := ⟨_, rfl⟩
  rw [← hrb] at BR ⊢
  have HRB : Hid (rb < wR.heap.size) := Lib.hid (by omega)
  have hlt0 : w.heap.size < wR.heap.size := by omega
  have HRB2 : Hid (rb = w.heap.size) := Lib.hid hrb
  clear hwR hsR hrb
  obtain ⟨wa, hwa⟩ : ∃ x, x = wR.alloc (.cells #[.int .u32 0] 45) := ⟨_, rfl⟩
  obtain ⟨wb, hwb⟩ : ∃ x, x = wa.alloc (.cells #[.int .i64 0, .int .i64 0, .int .i64 0, .int .u32 0, .slice (some ⟨wR.heap.size, 0, none⟩) 1 1] 52) := ⟨_, rfl⟩
  obtain ⟨wc, hwc⟩ : ∃ x, x = wb.alloc (.cells #[.int .i64 0, .int .i64 1, .int .i64 0, .slice none 0 0, .int .i64 1, .int .i64 1, .int .i64 0, .slice (some ⟨wR.heap.size + 1, 0, none⟩) 1 1] 50) := ⟨_, rfl⟩
  obtain ⟨wd, hwd⟩ : ∃ x, x = wc.alloc (.cells #[.slice (some ⟨wR.heap.size + 1 + 1, 0, none⟩) 2 2, .slice none 0 0] 25) := ⟨_, rfl⟩
  have sa : wa.heap.size = wR.heap.size + 1 := by rw [hwa]; simp
  have sb : wb.heap.size = wR.heap.size + 1 + 1 := by rw [hwb]; simp [sa]
  have sc : wc.heap.size = wR.heap.size + 1 + 1 + 1 := by rw [hwc]; simp [sb]
  have oa : Own wa wR.heap.size 45 1 (some ⟨wR.heap.size, 0, none⟩) 1 1 (wds [0]) := by rw [hwa]; exact own_new wR #[.int .u32 0] _ 1 1 _ (by omega) rfl (by omega)
  have ob : Own wb wR.heap.size 52 5 (some ⟨wR.heap.size + 1, 0, none⟩) 1 1 ([(⟨0, 0, ⟨some ⟨wR.heap.size, 0, none⟩, 1, ⟨0, 0, [0]⟩⟩⟩ : Im)].flatMap imC) := by
    rw [hwb, ← sa]
    exact own_new wa #[.int .i64 0, .int .i64 0, .int .i64 0, .int .u32 0, .slice (some ⟨wR.heap.size, 0, none⟩) 1 1] _ 5 1 _ (by omega) rfl (by omega)
  have oc : Own wc wR.heap.size 50 4 (some ⟨wR.heap.size + 1 + 1, 0, none⟩) 2 2 ([(⟨0, 1, 0, none, 0, []⟩ : Nm), ⟨1, 1, 0, some ⟨wR.heap.size + 1, 0, none⟩, 1, [(⟨0, 0, ⟨some ⟨wR.heap.size, 0, none⟩, 1, ⟨0, 0, [0]⟩⟩⟩ : Im)]⟩].flatMap nmC) := by
    rw [hwc, ← sb]
    exact own_new wb #[.int .i64 0, .int .i64 1, .int .i64 0, .slice none 0 0, .int .i64 1, .int .i64 1, .int .i64 0, .slice (some ⟨wR.heap.size + 1, 0, none⟩) 1 1] _ 4 2 _ (by omega) rfl (by omega)
  have xab : Ext wa wb := by rw [hwb]; exact (Ext.refl _).alloc _
  have xbc : Ext wb wc := by rw [hwc]; exact (Ext.refl _).alloc _
  have xcd : Ext wc wd := by rw [hwd]; exact (Ext.refl _).alloc _
  obtain ⟨gb, hgb⟩ : ∃ b, b = wR.heap.size + 1 + 1 + 1 := ⟨_, rfl⟩
  have G0 : Hid (∃ NA Nc n nodes, .slice (some ⟨wR.heap.size + 1 + 1, 0, none⟩) 2 2 = Value.slice NA n Nc ∧ GSt a w.heap.size wR wd gb n 0 NA Nc nodes none 0 [] 2 0) := Lib.hid (by
    refine ⟨_, _, _, _, rfl, rfl, rfl, rfl, rfl, XR.out.size, ?_, by omega, oc.ext xcd, Own.nil _ _ _ _, fun x hx => ?_, ?_⟩
    · rw [hwd, hgb, ← sc]; exact Bk.new _ _ _
    · simp only [List.mem_cons, List.not_mem_nil, or_false] at hx
      rcases hx with rfl | rfl
      · exact ⟨⟨Sl.nil _ _, fun h => absurd h (Nat.lt_irrefl _)⟩, fun y hy => (nomatch hy)⟩
      · refine ⟨SafeS.own (ob.ext (xbc.trans xcd)) (.inl rfl), fun y hy => ?_⟩
        simp only [List.mem_cons, List.not_mem_nil, or_false] at hy
        subst hy
        exact SafeS.own (oa.ext (xab.trans (xbc.trans xcd))) (.inr rfl)
    · exact (by rw [hwa]; exact (Ext.refl _).alloc _ : Ext wR wa).trans (xab.trans (xbc.trans xcd)))
  rw [← hwa, ← hwb, ← hwc, ← hwd, ← hgb]
  obtain ⟨NA, Nc, n, nodes, hsl, hG⟩ := G0.out
  rw [hsl]
  have HG := Lib.hid hG
  clear hwa hwb hwc hwd sa sb sc oa ob oc xab xbc xcd G0 hsl hG hgb
  -- the third node
  obtain ⟨w1, hw1⟩ : ∃ x, x = wd.alloc (.cells #[.int .i64 0, .int .i64 0, .int .i64 0, .int .u32 0, .slice none 0 0, .int .i64 1, .int .i64 0, .int .i64 0, .int .u32 0, .slice none 0 0] 52) := ⟨_, rfl⟩
  obtain ⟨w2, hw2⟩ : ∃ x, x = w1.alloc (.cells #[.int .i64 2, .int .i64 1, .int .i64 1, .slice (some ⟨wd.heap.size, 0, none⟩) 2 2] 50) := ⟨_, rfl⟩
  have s1 : w1.heap.size = wd.heap.size + 1 := by rw [hw1]; simp
  have x12 : Ext w1 w2 := by rw [hw2]; exact (Ext.refl _).alloc _
  have x2 : Ext wd w2 := (by rw [hw1]; exact (Ext.refl _).alloc _ : Ext wd w1).trans x12
  have hb : wR.heap.size ≤ wd.heap.size := HG.out.gr.ex.size
  have SN : Hid (∀ x ∈ ([⟨2, 1, 1, some ⟨wd.heap.size, 0, none⟩, 2, [⟨0, 0, Pm.zero⟩, ⟨1, 0, Pm.zero⟩]⟩] : List Nm), SafeN w.heap.size w2 x) := Lib.hid (fun x hx => by
    simp only [List.mem_cons, List.not_mem_nil, or_false] at hx
    subst hx
    exact node_safe w.heap.size [⟨0, 0, Pm.zero⟩, ⟨1, 0, Pm.zero⟩] #[.int .i64 0, .int .i64 0, .int .i64 0, .int .u32 0, .slice none 0 0, .int .i64 1, .int .i64 0, .int .i64 0, .int .u32 0, .slice none 0 0] rfl (by simp) 2 1 1 (fun y hy => by simp only [List.mem_cons, List.not_mem_nil, or_false] at hy; rcases hy with rfl | rfl <;> exact zero_safe _ _) rfl rfl (by rw [← hw1]; exact x12))
  have SL : Hid (Sl w2 4 (some ⟨wd.heap.size + 1, 0, none⟩) 1 1 [.int .i64 2, .int .i64 1, .int .i64 1, .slice (some ⟨wd.heap.size, 0, none⟩) 2 2]) := Lib.hid (by rw [hw2, ← s1]; exact (own_new w1 #[.int .i64 2, .int .i64 1, .int .i64 1, .slice (some ⟨wd.heap.size, 0, none⟩) 2 2] 50 4 1 0 (Nat.zero_le _) rfl (by omega)).sl)
  have G2 := Lib.hid (HG.out.gr.ext x2)
  have X2 := Lib.hid x2
  have b0 : wd.cell? ⟨gb, 0, none⟩ = some (.slice NA n Nc) := by have := HG.out.gr.bk.cell 0; rw [← HG.out.n] at this; exact this
  have hb2 : wR.heap.size ≤ w2.heap.size := Nat.le_trans hb x2.size
  have hn9 : n ≤ 10 := by rw [HG.out.n, ← List.length_map Nm.v, HG.out.nv]; exact Nat.le_trans (List.length_take_le _ _) (by decide)
  have HW1 := Lib.hid hw1
  have HW2 := Lib.hid hw2
  have HO : Hid (Own w2 wR.heap.size 50 4 NA n Nc (nodes.flatMap nmC)) := Lib.hid (by rw [HG.out.n]; exact G2.out.no)
  clear hw1 hw2 s1 x12 x2
  go_upto_region 3 with (at_builtin; rw [← HW1.out, ← HW2.out]; go_loud (refine wpList_append_two _ elem_nm wR.heap.size _ _ rfl rfl NA n Nc (nodes.flatMap nmC) rfl HO.out (some ⟨wd.heap.size + 1, 0, none⟩) 1 1 [.int .i64 2, .int .i64 1, .int .i64 1, .slice (some ⟨wd.heap.size, 0, none⟩) 2 2] rfl SL.out (by intro u hu; simp only [List.mem_cons, List.not_mem_nil, or_false] at hu; rcases hu with rfl | rfl | rfl | rfl <;> rfl) (by omega) (by decide) hb2 ?_); intro NA1 Nc1 w3 o3 g3 x3; have BK := G2.out.bk.grown g3 G2.out.nG; have k0 := BK.cell 0; have f0 := BK.free 0; have O3 := Lib.hid o3; have X3 := Lib.hid g3; clear o3 g3 x3 BK)
  have HT9 := Lib.hid (HG.out.node X2.out (xs := [⟨2, 1, 1, some ⟨wd.heap.size, 0, none⟩, 2, [⟨0, 0, Pm.zero⟩, ⟨1, 0, Pm.zero⟩]⟩]) SN.out X3.out (k' := 3) O3.out rfl rfl)
  obtain ⟨wd1, hw4⟩ : ∃ x, x = w3.setCell ⟨gb, 0, none⟩ (.slice NA1 (n + 1) Nc1) := ⟨_, rfl⟩
  obtain ⟨n1, hn4⟩ : ∃ x, x = n + 1 := ⟨_, rfl⟩
  obtain ⟨nodes1, hnd4⟩ : ∃ x, x = nodes ++ ([⟨2, 1, 1, some ⟨wd.heap.size, 0, none⟩, 2, [⟨0, 0, Pm.zero⟩, ⟨1, 0, Pm.zero⟩]⟩] : List Nm) := ⟨_, rfl⟩
  have HG1 : Hid (GSt a w.heap.size wR wd1 gb n1 0 NA1 Nc1 nodes1 none 0 [] 3 0) := Lib.hid (by rw [hw4, hn4, hnd4]; exact HT9.out)
  rw [← hw4]
  clear hw4 k0 f0 O3 X3 HT9 SN SL G2 X2 b0 HO HG HW1 HW2 hnd4 hb hb2 hn9
  clear hn4
  -- the fourth
  obtain ⟨w1, hw1⟩ : ∃ x, x = wd1.alloc (.cells #[.int .i64 0, .int .i64 0, .int .i64 0, .int .u32 a, .slice none 0 0] 52) := ⟨_, rfl⟩
  obtain ⟨w2, hw2⟩ : ∃ x, x = w1.alloc (.cells #[.int .i64 1, .int .i64 1, .int .i64 1, .slice (some ⟨wd1.heap.size, 0, none⟩) 1 1] 50) := ⟨_, rfl⟩
  have s1 : w1.heap.size = wd1.heap.size + 1 := by rw [hw1]; simp
  have x12 : Ext w1 w2 := by rw [hw2]; exact (Ext.refl _).alloc _
  have x2 : Ext wd1 w2 := (by rw [hw1]; exact (Ext.refl _).alloc _ : Ext wd1 w1).trans x12
  have hb : wR.heap.size ≤ wd1.heap.size := HG1.out.gr.ex.size
  have SN : Hid (∀ x ∈ ([⟨1, 1, 1, some ⟨wd1.heap.size, 0, none⟩, 1, [⟨0, 0, ⟨none, 0, ⟨0, a, []⟩⟩⟩]⟩] : List Nm), SafeN w.heap.size w2 x) := Lib.hid (fun x hx => by
    simp only [List.mem_cons, List.not_mem_nil, or_false] at hx
    subst hx
    exact node_safe w.heap.size [⟨0, 0, ⟨none, 0, ⟨0, a, []⟩⟩⟩] #[.int .i64 0, .int .i64 0, .int .i64 0, .int .u32 a, .slice none 0 0] rfl (by simp) 1 1 1 (fun y hy => by simp only [List.mem_cons, List.not_mem_nil, or_false] at hy; rcases hy with rfl <;> exact zero_safe _ _) rfl rfl (by rw [← hw1]; exact x12))
  have SL : Hid (Sl w2 4 (some ⟨wd1.heap.size + 1, 0, none⟩) 1 1 [.int .i64 1, .int .i64 1, .int .i64 1, .slice (some ⟨wd1.heap.size, 0, none⟩) 1 1]) := Lib.hid (by rw [hw2, ← s1]; exact (own_new w1 #[.int .i64 1, .int .i64 1, .int .i64 1, .slice (some ⟨wd1.heap.size, 0, none⟩) 1 1] 50 4 1 0 (Nat.zero_le _) rfl (by omega)).sl)
  have G2 := Lib.hid (HG1.out.gr.ext x2)
  have X2 := Lib.hid x2
  have b0 : wd1.cell? ⟨gb, 0, none⟩ = some (.slice NA1 n1 Nc1) := by have := HG1.out.gr.bk.cell 0; rw [← HG1.out.n] at this; exact this
  have hb2 : wR.heap.size ≤ w2.heap.size := Nat.le_trans hb x2.size
  have hn9 : n1 ≤ 10 := by rw [HG1.out.n, ← List.length_map Nm.v, HG1.out.nv]; exact Nat.le_trans (List.length_take_le _ _) (by decide)
  have HW1 := Lib.hid hw1
  have HW2 := Lib.hid hw2
  have HO : Hid (Own w2 wR.heap.size 50 4 NA1 n1 Nc1 (nodes1.flatMap nmC)) := Lib.hid (by rw [HG1.out.n]; exact G2.out.no)
  clear hw1 hw2 s1 x12 x2
  go_upto_region 4 with (at_builtin; rw [← HW1.out, ← HW2.out]; go_loud (refine wpList_append_two _ elem_nm wR.heap.size _ _ rfl rfl NA1 n1 Nc1 (nodes1.flatMap nmC) rfl HO.out (some ⟨wd1.heap.size + 1, 0, none⟩) 1 1 [.int .i64 1, .int .i64 1, .int .i64 1, .slice (some ⟨wd1.heap.size, 0, none⟩) 1 1] rfl SL.out (by intro u hu; simp only [List.mem_cons, List.not_mem_nil, or_false] at hu; rcases hu with rfl | rfl | rfl | rfl <;> rfl) (by omega) (by decide) hb2 ?_); intro NA2 Nc2 w3 o3 g3 x3; have BK := G2.out.bk.grown g3 G2.out.nG; have k0 := BK.cell 0; have f0 := BK.free 0; have O3 := Lib.hid o3; have X3 := Lib.hid g3; clear o3 g3 x3 BK)
  have HT9 := Lib.hid (HG1.out.node X2.out (xs := [⟨1, 1, 1, some ⟨wd1.heap.size, 0, none⟩, 1, [⟨0, 0, ⟨none, 0, ⟨0, a, []⟩⟩⟩]⟩]) SN.out X3.out (k' := 4) O3.out rfl rfl)
  obtain ⟨wd2, hw4⟩ : ∃ x, x = w3.setCell ⟨gb, 0, none⟩ (.slice NA2 (n1 + 1) Nc2) := ⟨_, rfl⟩
  obtain ⟨n2, hn4⟩ : ∃ x, x = n1 + 1 := ⟨_, rfl⟩
  obtain ⟨nodes2, hnd4⟩ : ∃ x, x = nodes1 ++ ([⟨1, 1, 1, some ⟨wd1.heap.size, 0, none⟩, 1, [⟨0, 0, ⟨none, 0, ⟨0, a, []⟩⟩⟩]⟩] : List Nm) := ⟨_, rfl⟩
  have HG2 : Hid (GSt a w.heap.size wR wd2 gb n2 0 NA2 Nc2 nodes2 none 0 [] 4 0) := Lib.hid (by rw [hw4, hn4, hnd4]; exact HT9.out)
  rw [← hw4]
  clear hw4 k0 f0 O3 X3 HT9 SN SL G2 X2 b0 HO HG1 HW1 HW2 hnd4 hb hb2 hn9
  clear hn4
  -- the last two
  obtain ⟨w1, hw1⟩ : ∃ x, x = wd2.alloc (.cells #[.int .i64 0, .int .i64 0, .int .i64 1, .int .u32 0, .slice none 0 0] 52) := ⟨_, rfl⟩
  obtain ⟨w2, hw2⟩ : ∃ x, x = w1.alloc (.cells #[.int .i64 1, .int .i64 1, .int .i64 1, .slice (some ⟨wd2.heap.size, 0, none⟩) 1 1, .int .i64 1, .int .i64 0, .int .i64 0, .slice none 0 0] 50) := ⟨_, rfl⟩
  have s1 : w1.heap.size = wd2.heap.size + 1 := by rw [hw1]; simp
  have x12 : Ext w1 w2 := by rw [hw2]; exact (Ext.refl _).alloc _
  have x2 : Ext wd2 w2 := (by rw [hw1]; exact (Ext.refl _).alloc _ : Ext wd2 w1).trans x12
  have hb : wR.heap.size ≤ wd2.heap.size := HG2.out.gr.ex.size
  have SN : Hid (∀ x ∈ ([⟨1, 1, 1, some ⟨wd2.heap.size, 0, none⟩, 1, [⟨0, 0, ⟨none, 0, ⟨1, 0, []⟩⟩⟩]⟩, ⟨1, 0, 0, none, 0, []⟩] : List Nm), SafeN w.heap.size w2 x) := Lib.hid (fun x hx => by
    simp only [List.mem_cons, List.not_mem_nil, or_false] at hx
    rcases hx with rfl | rfl
    · exact node_safe w.heap.size [⟨0, 0, ⟨none, 0, ⟨1, 0, []⟩⟩⟩] #[.int .i64 0, .int .i64 0, .int .i64 1, .int .u32 0, .slice none 0 0] rfl (by simp) 1 1 1 (fun y hy => by simp only [List.mem_cons, List.not_mem_nil, or_false] at hy; rcases hy with rfl <;> exact zero_safe _ _) rfl rfl (by rw [← hw1]; exact x12)
    · exact ⟨⟨Sl.nil _ _, fun h => absurd h (Nat.lt_irrefl _)⟩, fun y hy => (nomatch hy)⟩)
  have SL : Hid (Sl w2 4 (some ⟨wd2.heap.size + 1, 0, none⟩) 2 2 [.int .i64 1, .int .i64 1, .int .i64 1, .slice (some ⟨wd2.heap.size, 0, none⟩) 1 1, .int .i64 1, .int .i64 0, .int .i64 0, .slice none 0 0]) := Lib.hid (by rw [hw2, ← s1]; exact (own_new w1 #[.int .i64 1, .int .i64 1, .int .i64 1, .slice (some ⟨wd2.heap.size, 0, none⟩) 1 1, .int .i64 1, .int .i64 0, .int .i64 0, .slice none 0 0] 50 4 2 0 (Nat.zero_le _) rfl (by omega)).sl)
  have G2 := Lib.hid (HG2.out.gr.ext x2)
  have X2 := Lib.hid x2
  have b0 : wd2.cell? ⟨gb, 0, none⟩ = some (.slice NA2 n2 Nc2) := by have := HG2.out.gr.bk.cell 0; rw [← HG2.out.n] at this; exact this
  have hb2 : wR.heap.size ≤ w2.heap.size := Nat.le_trans hb x2.size
  have hn9 : n2 ≤ 10 := by rw [HG2.out.n, ← List.length_map Nm.v, HG2.out.nv]; exact Nat.le_trans (List.length_take_le _ _) (by decide)
  have HW1 := Lib.hid hw1
  have HW2 := Lib.hid hw2
  have HO : Hid (Own w2 wR.heap.size 50 4 NA2 n2 Nc2 (nodes2.flatMap nmC)) := Lib.hid (by rw [HG2.out.n]; exact G2.out.no)
  clear hw1 hw2 s1 x12 x2
  go_upto_region 5 with (at_builtin; rw [← HW1.out, ← HW2.out]; go_loud (refine wpList_append_two _ elem_nm wR.heap.size _ _ rfl rfl NA2 n2 Nc2 (nodes2.flatMap nmC) rfl HO.out (some ⟨wd2.heap.size + 1, 0, none⟩) 2 2 [.int .i64 1, .int .i64 1, .int .i64 1, .slice (some ⟨wd2.heap.size, 0, none⟩) 1 1, .int .i64 1, .int .i64 0, .int .i64 0, .slice none 0 0] rfl SL.out (by intro u hu; simp only [List.mem_cons, List.not_mem_nil, or_false] at hu; rcases hu with rfl | rfl | rfl | rfl | rfl | rfl | rfl | rfl <;> rfl) (by omega) (by decide) hb2 ?_); intro NA3 Nc3 w3 o3 g3 x3; have BK := G2.out.bk.grown g3 G2.out.nG; have k0 := BK.cell 0; have f0 := BK.free 0; have O3 := Lib.hid o3; have X3 := Lib.hid g3; clear o3 g3 x3 BK)
  have HT9 := Lib.hid (HG2.out.node X2.out (xs := [⟨1, 1, 1, some ⟨wd2.heap.size, 0, none⟩, 1, [⟨0, 0, ⟨none, 0, ⟨1, 0, []⟩⟩⟩]⟩, ⟨1, 0, 0, none, 0, []⟩]) SN.out X3.out (k' := 6) O3.out rfl rfl)
  obtain ⟨wd3, hw4⟩ : ∃ x, x = w3.setCell ⟨gb, 0, none⟩ (.slice NA3 (n2 + 2) Nc3) := ⟨_, rfl⟩
  obtain ⟨n3, hn4⟩ : ∃ x, x = n2 + 2 := ⟨_, rfl⟩
  obtain ⟨nodes3, hnd4⟩ : ∃ x, x = nodes2 ++ ([⟨1, 1, 1, some ⟨wd2.heap.size, 0, none⟩, 1, [⟨0, 0, ⟨none, 0, ⟨1, 0, []⟩⟩⟩]⟩, ⟨1, 0, 0, none, 0, []⟩] : List Nm) := ⟨_, rfl⟩
  have HG3 : Hid (GSt a w.heap.size wR wd3 gb n3 0 NA3 Nc3 nodes3 none 0 [] 6 0) := Lib.hid (by rw [hw4, hn4, hnd4]; exact HT9.out)
  rw [← hw4]
  clear hw4 k0 f0 O3 X3 HT9 SN SL G2 X2 b0 HO HG2 HW1 HW2 hnd4 hb hb2 hn9
  clear hn4
  go_upto_region 7 with fail
  obtain ⟨we, hwe⟩ : ∃ x, x = wd3.alloc (.cells #[.int .i64 0, .int .i64 1, .int .i64 3, .int .i64 2, .int .i64 2, .int .i64 4] 3) := ⟨_, rfl⟩
  obtain ⟨wf, hwf⟩ : ∃ x, x = we.alloc (.cells #[.int .i64 1, .bool false, .int .i64 0, .int .i64 2, .bool false, .int .i64 0, .int .i64 2, .bool false, .int .i64 1, .int .i64 3, .bool false, .int .i64 0, .int .i64 4, .bool false, .int .i64 0, .int .i64 5, .bool false, .int .i64 0] 27) := ⟨_, rfl⟩
  have se : we.heap.size = wd3.heap.size + 1 := by rw [hwe]; simp
  have xef : Ext we wf := by rw [hwf]; exact (Ext.refl _).alloc _
  have xf : Ext wd3 wf := (by rw [hwe]; exact (Ext.refl _).alloc _ : Ext wd3 we).trans xef
  have SF : Hid (Own wf 0 3 1 (some ⟨wd3.heap.size, 0, none⟩) 6 6 (exF.flatMap intC1)) := Lib.hid (by rw [hwe] at xef; exact (own_new wd3 #[.int .i64 0, .int .i64 1, .int .i64 3, .int .i64 2, .int .i64 2, .int .i64 4] 3 1 6 0 (Nat.zero_le _) rfl (by omega)).ext xef)
  have ST : Hid (Own wf 0 27 3 (some ⟨wd3.heap.size + 1, 0, none⟩) 6 6 (exT.flatMap ptC)) := Lib.hid (by rw [hwf, ← se]; exact (own_new we #[.int .i64 1, .bool false, .int .i64 0, .int .i64 2, .bool false, .int .i64 0, .int .i64 2, .bool false, .int .i64 1, .int .i64 3, .bool false, .int .i64 0, .int .i64 4, .bool false, .int .i64 0, .int .i64 5, .bool false, .int .i64 0] 27 3 6 0 (Nat.zero_le _) rfl (by omega)))
  have HG := Lib.hid (show GSt a w.heap.size wR wf gb n3 0 NA3 Nc3 nodes3 none 0 [] 6 0 from ⟨HG3.out.n, HG3.out.m, HG3.out.nv, HG3.out.ev, HG3.out.gr.ext xf⟩)
  rw [← hwe, ← hwf]
  obtain ⟨FA, hFA⟩ : ∃ x, x = some (⟨wd3.heap.size, 0, none⟩ : Addr) := ⟨_, rfl⟩
  obtain ⟨TA, hTA⟩ : ∃ x, x = some (⟨wd3.heap.size + 1, 0, none⟩ : Addr) := ⟨_, rfl⟩
  rw [← hFA] at SF ⊢
  rw [← hTA] at ST ⊢
  clear hwe hwf se xef xf HG3 hFA hTA
  go_wp2
  go_loopg [6] 6 (fun z v wr => ∃ (i m Ec : Nat) (EA : Option Addr) (edges : List (Pt × Pt)), v = .int .i64 i ∧ i ≤ 6 ∧ z = 6 - i ∧ Hid (GSt a w.heap.size wR wr gb n3 m NA3 Nc3 nodes3 EA Ec edges 6 i) ∧ Hid (Own wr 0 3 1 FA 6 6 (exF.flatMap intC1)) ∧ Hid (Own wr 0 27 3 TA 6 6 (exT.flatMap ptC)))
  case atStart => exact ⟨0, 0, 0, none, [], rfl, Nat.zero_le _, rfl, HG, SF, ST⟩
  case round =>
    clear HG SF ST
    obtain ⟨i, m, Ec, EA, edges, rfl, hi, rfl, HG, SF, ST⟩ := hrel
    by_cases hlt : i < 6
    · have hlz : (i : Int) < 6 := by omega
      obtain ⟨fa, hfa, p0, _⟩ := els_at intC1 1 (fun _ => rfl) 0 SF.out.sl rfl hlt (by omega)
      obtain ⟨ta, hta, q0, q1⟩ := els_at ptC 3 ptC_len ⟨0, false, 0⟩ ST.out.sl rfl hlt (by omega)
      subst hfa
      subst hta
      have p0 := p0 _ rfl
      have q2 := q1 1 _ rfl
      have q1 := q1 0 _ rfl
      have q0 := q0 _ rfl
      have hee := ex_edge a i hlt
      obtain ⟨fv, hfv⟩ : ∃ x, exF.getD i 0 = x := ⟨_, rfl⟩
      obtain ⟨⟨tn, to_, tp⟩, htv⟩ : ∃ x, exT.getD i ⟨0, false, 0⟩ = x := ⟨_, rfl⟩
      rw [hfv] at p0 hee
      rw [htv] at q0 q1 q2 hee
      simp only [Nat.mul_one] at p0 q0 q1 q2
      have bk := HG.out.gr.bk
      rw [← HG.out.m] at bk
      have hm9 : m ≤ 6 := by rw [HG.out.m, HG.out.ev]; exact Nat.le_trans (List.length_take_le _ _) hi
      have xd : Ext wr wr.drew := (Ext.refl wr).drew
      have P0 : ∀ y : Zt Ext wr.drew, y.W.cell? (fa.add i) = some (.int .i64 fv) := fun y => (xd.trans y.x).cell p0
      have Q0 : ∀ y : Zt Ext wr.drew, y.W.cell? (ta.add (i * 3)) = some (.int .i64 tn) := fun y => (xd.trans y.x).cell q0
      have Q1 : ∀ y : Zt Ext wr.drew, y.W.cell? ⟨(ta.add (i * 3)).block, (ta.add (i * 3)).off + 1, none⟩ = some (.bool to_) := fun y => (xd.trans y.x).cell q1
      have Q2 : ∀ y : Zt Ext wr.drew, y.W.cell? ⟨(ta.add (i * 3)).block, (ta.add (i * 3)).off + 2, none⟩ = some (.int .i64 tp) := fun y => (xd.trans y.x).cell q2
      have B1 : ∀ y : Zt Ext wr.drew, y.W.cell? ⟨gb, 1, none⟩ = some (.slice EA m Ec) := fun y => (bk.ext (xd.trans y.x)).cell 1
      have HEE := Lib.hid hee
      have HBK := Lib.hid bk
      clear p0 q0 q1 q2 hee hfv htv bk
      go_upto_region 10 with fail
      refine wp_region_ordS (R := Ext) [0,1,0,0,12,28,60,0,0,384,896,2044,4092,8191,16383,32767] (.flo [0,1,2,3,4,5,6,7,8,9,10,11] (.ext 12 (.one 13 (.flo [14] (.one 15 (.fin)))))) (by kernel_rfl) (by kernel_rfl) (by intro _ _ d _ _ h; cases d <;> exact h) ?_
      (refine ord_floS (pick_cons rfl (pick_cons rfl (pick_cons rfl (pick_cons rfl (pick_cons rfl (pick_cons rfl (pick_cons rfl (pick_cons rfl (pick_cons rfl (pick_cons rfl (pick_cons rfl (pick_cons rfl pick_nil)))))))))))) ?_; (repeat (go_big_quiet_step (fail))); refine wpQuiet_nil ?_; show ordWalkS _ _ _ _ _ _ _ _)
      refine ord_extS (pick_cons rfl pick_nil) ?_; intro K_ hK_
      clear P0 Q0 Q1 Q2 B1
      go_wp2
      refine ordNextS.mk ((Ext.refl _).alloc _) ?_
      obtain ⟨wE, hwE⟩ : ∃ x, x = (wr.alloc (.cells #[.int .i64 fv, .bool true, .int .i64 0, .int .i64 tn, .bool to_, .int .i64 tp] 44)).drew := ⟨_, rfl⟩
      have xE : Ext wr wE := by rw [hwE]; exact ((Ext.refl _).alloc _).drew
      have GE := Lib.hid (HG.out.gr.ext xE)
      have XE := Lib.hid xE
      have HOE : Hid (Own wE wR.heap.size 44 6 EA m Ec (edges.flatMap edC)) := Lib.hid (by rw [HG.out.m]; exact GE.out.eo)
      have SE : Hid (Sl wE 6 (some ⟨wr.heap.size, 0, none⟩) 1 1 [.int .i64 fv, .bool true, .int .i64 0, .int .i64 tn, .bool to_, .int .i64 tp]) := Lib.hid (by rw [hwE]; exact (Sl.one wr #[.int .i64 fv, .bool true, .int .i64 0, .int .i64 tn, .bool to_, .int .i64 tp] 44 6 rfl).ext (Ext.refl _).drew)
      have hbE : wR.heap.size ≤ wE.heap.size := GE.out.ex.size
      rw [← hwE]
      clear hwE xE xd
      refine ord_oneS (pick_cons rfl pick_nil) ?_; intro K_ hK_
      go_wp2_with (at_builtin; go_loud (refine wpList_append_two _ elem_ed wR.heap.size _ _ rfl rfl EA m Ec (edges.flatMap edC) rfl HOE.out (some ⟨wr.heap.size, 0, none⟩) 1 1 [.int .i64 fv, .bool true, .int .i64 0, .int .i64 tn, .bool to_, .int .i64 tp] rfl SE.out (by intro u hu; simp only [List.mem_cons, List.not_mem_nil, or_false] at hu; rcases hu with rfl | rfl | rfl | rfl | rfl | rfl <;> rfl) (by omega) (by decide) hbE ?_); intro A5 c5 w5 o5 g5 x5; have BK := GE.out.bk.grown g5 GE.out.eG; have k0 := BK.cell 1; have f0 := BK.free 1; have O5 := Lib.hid o5; have X5 := Lib.hid g5; clear o5 g5 x5 BK)
      go_simp
      (refine ord_floS (pick_cons rfl pick_nil) ?_; (repeat (go_big_quiet_step (fail))); refine wpQuiet_nil ?_; show ordWalkS _ _ _ _ _ _ _ _)
      refine ord_oneS (pick_cons rfl pick_nil) ?_; intro K_ hK_
      go_wp2
      refine ord_finS ?_
      clear k0 f0
      have HG5 := Lib.hid (HG.out.edge XE.out (xs := [(⟨fv, true, 0⟩, ⟨tn, to_, tp⟩)]) X5.out O5.out rfl HEE.out)
      obtain ⟨S, uS, hS⟩ := GE.out.stepE X5.out (.slice A5 (m + 1) c5)
      have SF5 := Lib.hid (own_keep (SF.out.ext XE.out) (by decide) uS hS)
      have ST5 := Lib.hid (own_keep (ST.out.ext XE.out) (by decide) uS hS)
      clear uS hS
      go_wp2
      go_roundg (6 - (i + 1))
      case measure => omega
      case rel => exact ⟨i + 1, m + 1, c5, A5, _, by go_num, by omega, rfl, HG5, SF5, ST5⟩
    · obtain rfl : i = 6 := by omega
      have bk := HG.out.gr.bk
      rw [← HG.out.m, ← HG.out.n] at bk
      have k0 := bk.cell 0
      have k1 := bk.cell 1
      have hne : rb ≠ gb := by have := HG.out.gr.g0; have := HRB.out; omega
      have bR := BR.out.ext HG.out.gr.ex
      have r0 := bR.free 0
      have r1 := bR.free 1
      have r2 := bR.cell 0
      have r3 := bR.cell 1
      have HBK := Lib.hid bk
      have HBR := Lib.hid bR
      clear bk bR
      have hrn : w.heap.size ≤ rb := by rw [HRB2.out]; exact Nat.le_refl _
      have RES := Lib.hid (HG.out.gr.result HBR.out hrn (.slice NA3 n3 Nc3) (.slice EA m Ec) XR.out hrn)
      have bb2 := HBR.out.set2 (.slice NA3 n3 Nc3) (.slice EA m Ec)
      have h6n : n3 = 6 := by rw [HG.out.n, ← List.length_map Nm.v, HG.out.nv]; rfl
      have h6m : m = 6 := by rw [HG.out.m, HG.out.ev]; rfl
      have B2 := Lib.hid bb2
      have HN := Lib.hid h6n
      have HM := Lib.hid h6m
      clear bb2 h6n h6m
      go_wp2
      refine bodyPost_ret (v := .agg #[.slice NA3 n3 Nc3, .slice EA m Ec]) (by simp [results, Try.results17, go_sem, B2.out.1, B2.out.2]) rfl ⟨NA3, Nc3, nodes3, EA, Ec, edges, by rw [HN.out, HM.out], RES.out.1, ?_, RES.out.2⟩
      show Gr.mk (nodes3.map Nm.v) edges = _
      rw [HG.out.nv, HG.out.ev]
      rfl
end Go.Proofs.Yteklohamkmiphaa
namespace Go.Proofs.Yteklohamkmiphaa
open Go.RowKit

theorem own_other {w w' : World} {B B' sz sz' n n' c c' : Nat} {T T' : TypeId} {A A' : Option Addr} {xs ys : List Value} (o : Own w B T sz A n c xs) (o' : Own w B' T' sz' A' n' c' ys) (hT : T ≠ T') (g : w.grownBy w' (blk A' c')) : Own w' B T sz A n c xs := by
  cases hb : blk A c with
  | none => exact o.kept g (.inl hb)
  | some k => exact o.kept g (.inr (fun e => hT ((o.ty hb).ne (o'.ty (by rw [← e, hb])))))
/-- where one may go next, and by what ways: what has been put down so far -/
structure ToBy (g : Gr) (at_ : Pt) (w2 wo wq : World) (n : Nat) (A1 : Option Addr) (c1 : Nat) (A2 : Option Addr) (c2 : Nat) (L : List (Pt × Pm)) : Prop where
  ln : n = L.length
  tt : Own wq wo.heap.size 27 3 A1 n c1 ((L.map Prod.fst).flatMap ptC)
  via : Own wq wo.heap.size 47 3 A2 n c2 ((L.map Prod.snd).flatMap pmC)
  st : ∀ x ∈ L, Stp g at_ x.1 x.2.w ∧ PmR w2 x.2 ∧ (0 ≤ x.2.w.add ∧ x.2.w.add ≤ 4294967295) ∧ x.2.w.enter.length ≤ 1000000
  ex : Ext wo wq
section
variable {g : Gr} {at_ : Pt} {w2 wo wq : World} {n c1 c2 : Nat} {A1 A2 : Option Addr} {L : List (Pt × Pm)}
theorem ToBy.nil : ToBy g at_ w2 wo wo 0 none 0 none 0 [] := ⟨rfl, Own.nil _ _ _ _, Own.nil _ _ _ _, fun x hx => (nomatch hx), Ext.refl _⟩
theorem ToBy.ext {w' : World} (h : ToBy g at_ w2 wo wq n A1 c1 A2 c2 L) (e : Ext wq w') : ToBy g at_ w2 wo w' n A1 c1 A2 c2 L := ⟨h.ln, h.tt.ext e, h.via.ext e, h.st, h.ex.trans e⟩
/-- one more: the place, then the way -/
theorem ToBy.push {w3 w4 w5 : World} (h : ToBy g at_ w2 wo wq n A1 c1 A2 c2 L) {t : Pt} {b : Pm} (g1 : wq.grownBy w3 (blk A1 c1)) {A3 A4 : Option Addr} {c3 c4 : Nat} (o3 : Own w3 wo.heap.size 27 3 A3 (n + 1) c3 ((L.map Prod.fst).flatMap ptC ++ ptC t)) (e : Ext w3 w4) (g2 : w4.grownBy w5 (blk A2 c2)) (o5 : Own w5 wo.heap.size 47 3 A4 (n + 1) c4 ((L.map Prod.snd).flatMap pmC ++ pmC b))
    (s : Stp g at_ t b.w ∧ PmR w2 b ∧ (0 ≤ b.w.add ∧ b.w.add ≤ 4294967295) ∧ b.w.enter.length ≤ 1000000) : ToBy g at_ w2 wo w5 (n + 1) A3 c3 A4 c4 (L ++ [(t, b)]) := by
  have v4 : Own w4 wo.heap.size 47 3 A2 n c2 ((L.map Prod.snd).flatMap pmC) := (own_other h.via h.tt (by decide) g1).ext e
  refine ⟨by rw [h.ln, List.length_append]; rfl, ?_, ?_, fun x hx => ?_, ?_⟩
  · rw [List.map_append, List.flatMap_append, List.map_singleton, List.flatMap_singleton]
    exact own_other (o3.ext e) v4 (by decide) g2
  · rw [List.map_append, List.flatMap_append, List.map_singleton, List.flatMap_singleton]
    exact o5
  · rcases List.mem_append.1 hx with hx | hx
    · exact h.st x hx
    · simp only [List.mem_cons, List.not_mem_nil, or_false] at hx
      subst hx
      exact s
  · exact ((h.ex.grown g1 (fun k hk => (h.tt.lt k hk).1)).trans e).grown g2 (fun k hk => (v4.lt k hk).1)
end
/-- under way -/
structure GoI (g : Gr) (w2 wr : World) (ab nb : Nat) (fr : Pt) (te : Int) (tl : List Int) (at_ : Pt) (ne : Int) (nl : List Int) (A : Option Addr) (n c : Nat) : Prop where
  a0 : w2.heap.size ≤ ab
  n0 : w2.heap.size ≤ nb
  dif : ab ≠ nb
  bk1 : Bk wr ab 27 #[.int .i64 at_.n, .bool at_.o, .int .i64 at_.p]
  bk2 : Bk wr nb 32 #[.int .u64 ne, .slice A n c]
  ln : n = nl.length
  now : SafeS w2.heap.size wr 1 A n c (wds nl)
  ex : Ext w2 wr
  st : GoS g fr te tl at_ ne nl
section
variable {g : Gr} {w2 wr w' : World} {ab nb : Nat} {fr : Pt} {te : Int} {tl : List Int} {at_ : Pt} {ne : Int} {nl : List Int} {A : Option Addr} {n c : Nat}
theorem SafeS.ext {B sz n c : Nat} {A : Option Addr} {xs : List Value} {w w' : World} (h : SafeS B w sz A n c xs) (e : Ext w w') : SafeS B w' sz A n c xs := h.upd (S := fun _ => False) (Upd.ext e) (fun _ h => h.elim)
theorem GoI.ext (h : GoI g w2 wr ab nb fr te tl at_ ne nl A n c) (e : Ext wr w') : GoI g w2 w' ab nb fr te tl at_ ne nl A n c :=
  ⟨h.a0, h.n0, h.dif, h.bk1.ext e, h.bk2.ext e, h.ln, h.now.ext e, h.ex.trans e, h.st⟩
/-- the place is set, then the time -/
theorem GoI.move (h : GoI g w2 wr ab nb fr te tl at_ ne nl A n c) {tn tp : Int} {t_ : Bool} {ye : Int} {yl : List Int} {A' : Option Addr} {m c' : Nat} (hm : m = yl.length) (o : Own wr w2.heap.size 45 1 A' m c' (wds yl)) (s : GoS g fr te tl ⟨tn, t_, tp⟩ ye yl) :
    GoI g w2 (((((wr.setCell ⟨ab, 0, none⟩ (.int .i64 tn)).setCell ⟨ab, 1, none⟩ (.bool t_)).setCell ⟨ab, 2, none⟩ (.int .i64 tp)).setCell ⟨nb, 0, none⟩ (.int .u64 ye)).setCell ⟨nb, 1, none⟩ (.slice A' m c')) ab nb fr te tl ⟨tn, t_, tp⟩ ye yl A' m c' := by
  have hx : ∀ k, blk A' c' = some k → k ≠ ab ∧ k ≠ nb := fun k hk =>
    ⟨fun e => absurd ((o.ty hk).ne (e ▸ h.bk1.ty)) (by decide), fun e => absurd ((o.ty hk).ne (e ▸ h.bk2.ty)) (by decide)⟩
  have o5 : Own (((((wr.setCell ⟨ab, 0, none⟩ (.int .i64 tn)).setCell ⟨ab, 1, none⟩ (.bool t_)).setCell ⟨ab, 2, none⟩ (.int .i64 tp)).setCell ⟨nb, 0, none⟩ (.int .u64 ye)).setCell ⟨nb, 1, none⟩ (.slice A' m c')) w2.heap.size 45 1 A' m c' (wds yl) :=
    ((((o.far (p := ⟨ab, 0, none⟩) (fun e => (hx _ e).1 rfl) _).far (p := ⟨ab, 1, none⟩) (fun e => (hx _ e).1 rfl) _).far (p := ⟨ab, 2, none⟩) (fun e => (hx _ e).1 rfl) _).far (p := ⟨nb, 0, none⟩) (fun e => (hx _ e).2 rfl) _).far (p := ⟨nb, 1, none⟩) (fun e => (hx _ e).2 rfl) _
  refine ⟨h.a0, h.n0, h.dif, ?_, ?_, hm, SafeS.own o5 (.inr rfl), ?_, s⟩
  · exact ((((h.bk1.set 0 _).set 1 _).set 2 _).far (p := ⟨nb, 0, none⟩) h.dif _).far (p := ⟨nb, 1, none⟩) h.dif _
  · exact ((((h.bk2.far (p := ⟨ab, 0, none⟩) (Ne.symm h.dif) _).far (p := ⟨ab, 1, none⟩) (Ne.symm h.dif) _).far (p := ⟨ab, 2, none⟩) (Ne.symm h.dif) _).set 0 _).set 1 _
  · exact ((((h.ex.set h.a0 _).set h.a0 _).set h.a0 _).set h.n0 _).set h.n0 _
end
end Go.Proofs.Yteklohamkmiphaa
namespace Go.Proofs.Yteklohamkmiphaa
open Go.RowKit

def stV (x : Pt × Pm) : Pt × Way := (x.1, x.2.w)
def RStepsOut (wz : World) (g : Gm) (q : Pt) (w : World) (e : Ending) (w' : World) : Prop := ∃ (n c1 c2 : Nat) (A1 A2 : Option Addr) (L : List (Pt × Pm)), e = .returned (.tuple #[.slice A1 n c1, .slice A2 n c2]) ∧ ToBy g.v q wz w w' n A1 c1 A2 c2 L ∧ L.map stV = (g.v.mvs q).map g.v.mvv ∧ n ≤ 2000
theorem mvs_out {g : Gm} {q : Pt} (ho : q.o = true) : (g.v.mvs q).map g.v.mvv = (g.edges.filter (fun e => decide (e.1 = q))).map (fun e => (e.2, idW)) := by
  unfold Gr.mvs
  rw [if_pos ho, List.map_map]
  rfl
theorem mvs_in {g : Gm} (G : GOK g.v) {i : Nat} {p : Int} (hi : i < g.nodes.length) : (g.v.mvs ⟨i, false, p⟩).map g.v.mvv = ((g.nodes.getD i Nm.zero).inner.filter (fun x => decide (x.i = p))).map (fun x => (⟨i, true, x.o⟩, x.p.w)) := by
  rw [← steps_mvs g G]
  unfold allS
  rw [sel_append, List.map_append, sel_edges, sel_nodes]
  have he : g.edges.filter (fun e => decide (e.1 = (⟨i, false, p⟩ : Pt))) = [] := by
    refine List.filter_eq_nil_iff.2 fun e he h => ?_
    have := (G.ed e he).1
    rw [of_decide_eq_true h] at this
    cases this
  rw [he, if_pos ⟨rfl, by simp only; omega, by simp only; omega⟩]
  simp
theorem node_of {m : Gm} {p : Pt} (h : (m.v.dep p).isSome) : ∃ q : Nat, p.n = (q : Int) ∧ q < m.nodes.length ∧ m.v.nd p.n = some (m.nodes.getD q Nm.zero).v := by
  have h1 : ¬ (p.n < 0 ∨ (m.nodes.length : Int) ≤ p.n ∨ p.p < 0) := fun e => by rw [dep_off e] at h; exact absurd h (by simp)
  have h2 : p.n.toNat < m.nodes.length := by omega
  refine ⟨p.n.toNat, by omega, h2, ?_⟩
  unfold Gr.nd
  rw [if_pos (by omega)]
  show (m.nodes.map Nm.v)[p.n.toNat]? = _
  rw [List.getElem?_map, List.getElem?_eq_getElem h2, List.getD_eq_getElem?_getD, List.getElem?_eq_getElem h2]; rfl
theorem pt_parts {an bn ap bp : Int} {ao bo : Bool} (h : ¬ (⟨an, ao, ap⟩ : Pt) = ⟨bn, bo, bp⟩) : (an == bn) = false ∨ (an = bn ∧ (ao == bo) = false) ∨ (an = bn ∧ ao = bo ∧ (ap == bp) = false) := by
  by_cases h1 : an = bn
  · by_cases h2 : ao = bo
    · exact .inr (.inr ⟨h1, h2, by simpa using fun h3 => h (by rw [h1, h2, h3])⟩)
    · exact .inr (.inl ⟨h1, by simpa using h2⟩)
  · exact .inl (by simpa using h1)
theorem take_filter {α β : Type} (z : α) (f : α → β) (p : α → Bool) {L : List α} {k : Nat} (hk : k < L.length) : ((L.take (k + 1)).filter p).map f = ((L.take k).filter p).map f ++ (if p (L.getD k z) = true then [f (L.getD k z)] else []) := by
  rw [List.take_succ_eq_append_getElem hk, List.filter_append, List.map_append, List.getD_eq_getElem?_getD, List.getElem?_eq_getElem hk, Option.getD_some]
  cases h : p L[k] <;> simp [h]
theorem nodesS_inner : ∀ (ns : List Nm) (k : Nat) (x : Nm), x ∈ ns → x.inner.length ≤ (nodesS k ns).length
  | [], _, x, h => nomatch h
  | n :: ns, k, x, h => by
    rw [nodesS, List.length_append, List.length_map]
    rcases List.mem_cons.1 h with rfl | h
    · omega
    · have := nodesS_inner ns (k + 1) x h
      omega
theorem ToBy.lower {g : Gr} {at_ : Pt} {w2 w wo wq : World} {n c1 c2 : Nat} {A1 A2 : Option Addr} {L : List (Pt × Pm)} (h : ToBy g at_ w2 wo wq n A1 c1 A2 c2 L) (e : Ext w wo) : ToBy g at_ w2 w wq n A1 c1 A2 c2 L :=
  ⟨h.ln, h.tt.mono e.size, h.via.mono e.size, h.st, e.trans h.ex⟩
set_option maxRecDepth 100000 in
set_option maxHeartbeats 8000000 in
theorem rsteps_any (NA : Option Addr) (Nc : Nat) (nodes : List Nm) (EA : Option Addr) (Ec : Nat) (edges : List (Pt × Pt)) (nl el : Nat) (qn : Int) (qo : Bool) (qp : Int) (wz w : World) (hz : Hid (GmR wz ⟨NA, Nc, nodes, EA, Ec, edges⟩)) (hk : Hid (GrOk w NA Nc nodes EA Ec edges nl el)) (hG : Hid (GOK (Gm.v ⟨NA, Nc, nodes, EA, Ec, edges⟩))) (hd : Hid (((Gm.v ⟨NA, Nc, nodes, EA, Ec, edges⟩).dep ⟨qn, qo, qp⟩).isSome)) :
    Calls Try.prog 63 #[.agg #[.slice NA nl Nc, .slice EA el Ec], .agg #[.int .i64 qn, .bool qo, .int .i64 qp]] w (RStepsOut wz ⟨NA, Nc, nodes, EA, Ec, edges⟩ ⟨qn, qo, qp⟩ w) := by
  obtain ⟨q, hq, hqn, hqd⟩ := node_of hd.out
  simp only at hq hqn
  subst hq
  have HQD := Lib.hid hqd
  clear hqd
  obtain ⟨g, hg⟩ : ∃ g : Gm, g = ⟨NA, Nc, nodes, EA, Ec, edges⟩ := ⟨_, rfl⟩
  have HGV := Lib.hid hg
  obtain ⟨w0, hw0⟩ : ∃ w0, w0 = (w.alloc (.cells #[.slice NA nl Nc, .slice EA el Ec] 25)).alloc (.cells #[.int .i64 q, .bool qo, .int .i64 qp] 27) := ⟨_, rfl⟩
  obtain ⟨b, hb⟩ : ∃ b, b = w.heap.size := ⟨_, rfl⟩
  have X0 : Hid (Ext w w0) := Lib.hid (by rw [hw0]; exact ((Ext.refl w).alloc _).alloc _)
  have BG : Hid (Bk w0 b 25 #[.slice NA nl Nc, .slice EA el Ec]) := Lib.hid (by rw [hw0, hb]; exact (Bk.new _ _ _).alloc _)
  have BQ : Hid (Bk w0 (b + 1) 27 #[.int .i64 q, .bool qo, .int .i64 qp]) := Lib.hid (by rw [hw0, hb]; exact Bk.at (by simp))
  have hel9 := hk.out.e9
  have g0 := BG.out.cell 0
  have g1 := BG.out.cell 1
  have q0 := BQ.out.cell 0
  have q1 := BQ.out.cell 1
  have TB0 : Hid (ToBy g.v ⟨q, qo, qp⟩ wz w0 w0 0 none 0 none 0 []) := Lib.hid ToBy.nil
  have HWB := Lib.hid (show b = w.heap.size ∧ w0.heap.size = b + 2 by subst hb; subst hw0; simp)
  clear hg
  cases qo with
  | true =>
    go_enter Try.func63, Try.ntmps63
    go_upto_region 4 with fail
    rw [← hw0, ← hb]
    clear hw0 hb
    go_wp2
    go_loopg [6, 7, 8] el (fun z v14 v15 v16 wr => ∃ (k n c1 c2 : Nat) (A1 A2 : Option Addr) (L : List (Pt × Pm)), v14 = .slice A1 n c1 ∧ v15 = .slice A2 n c2 ∧ v16 = .int .i64 k ∧ n ≤ k ∧ k ≤ el ∧ z = el - k ∧ Hid (ToBy g.v ⟨q, true, qp⟩ wz w0 wr n A1 c1 A2 c2 L ∧ L.map stV = ((edges.take k).filter (fun e => decide (e.1 = (⟨q, true, qp⟩ : Pt)))).map (fun e => (e.2, idW))))
    case atStart => exact ⟨0, 0, 0, 0, none, none, [], rfl, rfl, rfl, Nat.le_refl _, Nat.zero_le _, rfl, Lib.hid ⟨TB0.out, rfl⟩⟩
    case round =>
      clear TB0 g0 g1 q0 q1
      obtain ⟨k, m, c1, c2, A1, A2, L, rfl, rfl, rfl, hmk, hk9, rfl, HT2⟩ := hrel
      have XR := Lib.hid HT2.out.1.ex
      have k1 := (BG.out.ext XR.out).cell 1
      by_cases hkl : k < el
      · have hkz : (k : Int) < (el : Int) := by omega
        have hkL : k < edges.length := by rw [← hk.out.e]; exact hkl
        obtain ⟨ad, hEA, e0, e1, e2, e3, e4, e5⟩ := (hk.out.ext (X0.out.trans XR.out)).g.eat hkL
        simp only at hEA
        subst hEA
        have hmem := getD_mem' edZ hkL
        have htf := take_filter edZ (fun e : Pt × Pt => (e.2, idW)) (fun e => decide (e.1 = (⟨q, true, qp⟩ : Pt))) hkL
        obtain ⟨⟨⟨en, eo, ep⟩, ⟨dn, d_, dp⟩⟩, hee⟩ : ∃ e, edges.getD k edZ = e := ⟨_, rfl⟩
        simp only at e0 e1 e2 e3 e4 e5
        rw [hee] at e0 e1 e2 e3 e4 e5 hmem htf
        simp only at e0 e1 e2 e3 e4 e5
        have hmg : ((⟨en, eo, ep⟩, ⟨dn, d_, dp⟩) : Pt × Pt) ∈ g.v.edges := by rw [HGV.out]; exact hmem
        have HMG := Lib.hid hmg
        have HTF := Lib.hid htf
        have hm9 : m ≤ 1000 := by omega
        have a0 := (BQ.out.ext XR.out).cell 0
        have a1 := (BQ.out.ext XR.out).cell 1
        have a2 := (BQ.out.ext XR.out).cell 2
        clear hee hmem hmg hkL htf
        by_cases hea : (⟨en, eo, ep⟩ : Pt) = ⟨q, true, qp⟩
        · injection hea with h1 h2 h3
          have h1 := h1.symm
          have h3 := h3.symm
          subst h1 h2 h3
          go_upto_region 7 with fail
          go_quiet (fail)
          obtain ⟨wD, hwD⟩ : ∃ x, x = wr.drewN nq := ⟨_, rfl⟩
          rw [← hwD]
          have xD : Ext wr wD := by rw [hwD]; exact (Ext.refl _).drewN _
          have k1 := (BG.out.ext (XR.out.trans xD)).cell 1
          have e3 := xD.cell e3
          have e4 := xD.cell e4
          have e5 := xD.cell e5
          have T1 := Lib.hid (HT2.out.1.ext (xD.alloc (.cells #[.int .i64 dn, .bool d_, .int .i64 dp] 27)))
          have S1 := Lib.hid (Sl.one wD #[.int .i64 dn, .bool d_, .int .i64 dp] 27 3 rfl)
          have hb1 := T1.out.ex.size
          clear hwD xD
          go_upto_region 9 with (at_builtin; go_loud (refine wpList_append_two _ elem_pt w0.heap.size _ _ rfl rfl A1 m c1 ((L.map Prod.fst).flatMap ptC) rfl T1.out.tt (some ⟨wD.heap.size, 0, none⟩) 1 1 [.int .i64 dn, .bool d_, .int .i64 dp] rfl S1.out (by intro u hu; simp only [List.mem_cons, List.not_mem_nil, or_false] at hu; rcases hu with rfl | rfl | rfl <;> rfl) (by omega) (by decide) hb1 ?_); intro A3 c3 w4 o4 g4 x4; have O4 := Lib.hid o4; have G4 := Lib.hid g4; have X4 := Lib.hid x4; clear o4 g4 x4)
          clear e0 e1 e2 e3 e4 e5 k1 a0 a1 a2 hb1
          have x4 := T1.out.ex.grown G4.out (fun k hk => (T1.out.tt.lt k hk).1)
          have V4 := Lib.hid ((own_other T1.out.via T1.out.tt (by decide) G4.out).alloc (.cells #[.int .i64 0, .int .u32 0, .slice none 0 0] 47))
          have S2 := Lib.hid (Sl.one w4 #[.int .i64 0, .int .u32 0, .slice none 0 0] 47 3 rfl)
          have hb2 := (x4.alloc (.cells #[.int .i64 0, .int .u32 0, .slice none 0 0] 47)).size
          clear x4
          go_wp2_with (at_builtin; go_loud (refine wpList_append_two _ elem_pm w0.heap.size _ _ rfl rfl A2 m c2 ((L.map Prod.snd).flatMap pmC) rfl V4.out (some ⟨w4.heap.size, 0, none⟩) 1 1 [.int .i64 0, .int .u32 0, .slice none 0 0] rfl S2.out (by intro u hu; simp only [List.mem_cons, List.not_mem_nil, or_false] at hu; rcases hu with rfl | rfl | rfl <;> rfl) (by omega) (by decide) hb2 ?_); intro A6 c6 w6_ o6 g6 x6; have O6 := Lib.hid o6; have G6 := Lib.hid g6; clear o6 g6 x6)
          go_roundg (el - (k + 1))
          case measure => omega
          case rel =>
            refine ⟨k + 1, m + 1, c3, c6, A3, A6, L ++ [(⟨dn, d_, dp⟩, Pm.zero)], rfl, rfl, by go_num, by omega, by omega, rfl, Lib.hid ⟨T1.out.push (t := ⟨dn, d_, dp⟩) (b := Pm.zero) G4.out O4.out ((Ext.refl _).alloc _) G6.out O6.out ⟨.inl ⟨rfl, HMG.out, rfl⟩, Sl.nil _ _, ⟨Int.le_refl _, by decide⟩, by decide⟩, ?_⟩⟩
            rw [HTF.out, if_pos (by simp), List.map_append, HT2.out.2]
            rfl
        · have hpp := pt_parts hea
          have hdf : decide ((⟨en, eo, ep⟩ : Pt) = ⟨q, true, qp⟩) = false := decide_eq_false hea
          have HDF := Lib.hid hdf
          clear hea hdf
          have step : ∀ wx, Ext wr wx → Hid (ToBy g.v ⟨q, true, qp⟩ wz w0 wx m A1 c1 A2 c2 L ∧ L.map stV = ((edges.take (k + 1)).filter (fun e => decide (e.1 = (⟨q, true, qp⟩ : Pt)))).map (fun e => (e.2, idW))) := fun wx x => Lib.hid ⟨HT2.out.1.ext x, by
            rw [HTF.out, if_neg (by show ¬ decide _ = true; rw [HDF.out]; decide), List.append_nil]; exact HT2.out.2⟩
          have STP := Lib.hid step
          clear step
          rcases hpp with h1 | ⟨h1, h2⟩ | ⟨h1, h2, h3⟩
          all_goals
            go_upto_region 7 with fail
            go_quiet (fail)
            go_wp2
            go_roundg (el - (k + 1))
            case measure => omega
            case rel => exact ⟨k + 1, m, c1, c2, A1, A2, L, rfl, rfl, by go_num, by omega, by omega, rfl, STP.out _ ((Ext.refl _).drewN _)⟩
      · obtain rfl : el = k := by omega
        have hkz : ¬ (el : Int) < (el : Int) := by omega
        go_wp2
        go_returns
        refine ⟨m, c1, c2, A1, A2, L, rfl, by rw [← HGV.out]; exact HT2.out.1.lower X0.out, ?_, by omega⟩
        rw [mvs_out rfl, HT2.out.2]
        show _ = (edges.filter _).map _
        rw [hk.out.e, List.take_length]
  | false =>
    obtain ⟨nd, hnd⟩ : ∃ nd, nd = nodes.getD q Nm.zero := ⟨_, rfl⟩
    obtain ⟨ad, hNA, n0, n1, n2, n3⟩ := (hk.out.ext X0.out).g.nat hqn
    simp only at hNA n0 n1 n2 n3
    subst hNA
    have hmemN := getD_mem' Nm.zero hqn
    have hNR := (hk.out.ext X0.out).g.nd _ hmemN
    have HNS := Lib.hid (hz.out.nd _ hmemN)
    have HN6 := Lib.hid (hk.out.h6.nd _ hmemN)
    rw [← hnd] at n0 n1 n2 n3 hNR HNS HN6
    obtain ⟨nin, nou, nde, iA, ic, inner⟩ := nd
    simp only at n0 n1 n2 n3
    obtain ⟨ni, hni⟩ : ∃ n, n = inner.length := ⟨_, rfl⟩
    rw [← hni] at n3
    have hni60 : ni ≤ 1000 := by
      have h1 := nodesS_inner nodes 0 _ hmemN
      have h2 := hk.out.b
      unfold allS at h2
      rw [List.length_append] at h2
      rw [← hnd] at h1
      simp only at h1 h2
      omega
    have hqz : (q : Int) < (nl : Int) := by have := hk.out.l; omega
    obtain ⟨w1, hw1⟩ : ∃ x, x = w0.alloc (.cells #[.int .i64 nin, .int .i64 nou, .int .i64 nde, .slice iA ni ic] 50) := ⟨_, rfl⟩
    have X1 : Hid (Ext w0 w1) := Lib.hid (by rw [hw1]; exact (Ext.refl _).alloc _)
    have hb2 : w0.heap.size = b + 2 := HWB.out.2
    have BN : Hid (Bk w1 (b + 2) 50 #[.int .i64 nin, .int .i64 nou, .int .i64 nde, .slice iA ni ic]) := Lib.hid (by rw [hw1, ← hb2]; exact Bk.new _ _ _)
    have HNR := Lib.hid (hNR.ext X1.out)
    have HNI := Lib.hid hni
    have HNN := Lib.hid hnd
    have HW1 := Lib.hid hw1
    have HB2 := Lib.hid hb2
    have TB1 : Hid (ToBy g.v ⟨q, false, qp⟩ wz w1 w1 0 none 0 none 0 []) := Lib.hid ToBy.nil
    have HMV := Lib.hid (mvs_in hG.out (i := q) (p := qp) hqn)
    clear hmemN hNR hnd hni hw1 hb2 TB0
    go_enter Try.func63, Try.ntmps63
    go_upto_region 3 with fail
    rw [← hw0, ← hb]
    clear hw0 hb
    go_upto_region 12 with fail
    rw [← HW1.out, HB2.out]
    clear n0 n1 n2 n3 g0 g1 q0 q1
    go_wp2
    go_loopg [6, 7, 10] ni (fun z v14 v15 v16 wr => ∃ (k n c1 c2 : Nat) (A1 A2 : Option Addr) (L : List (Pt × Pm)), v14 = .slice A1 n c1 ∧ v15 = .slice A2 n c2 ∧ v16 = .int .i64 k ∧ n ≤ k ∧ k ≤ ni ∧ z = ni - k ∧ Hid (ToBy g.v ⟨q, false, qp⟩ wz w1 wr n A1 c1 A2 c2 L ∧ L.map stV = ((inner.take k).filter (fun x => decide (x.i = qp))).map (fun x => ((⟨q, true, x.o⟩ : Pt), x.p.w))))
    case atStart => exact ⟨0, 0, 0, 0, none, none, [], rfl, rfl, rfl, Nat.le_refl _, Nat.zero_le _, rfl, Lib.hid ⟨TB1.out, rfl⟩⟩
    case round =>
      clear TB1
      obtain ⟨k, m, c1, c2, A1, A2, L, rfl, rfl, rfl, hmk, hk9, rfl, HT2⟩ := hrel
      have XR := Lib.hid HT2.out.1.ex
      have n3 := (BN.out.ext XR.out).cell 3
      by_cases hkl : k < ni
      · have hnz : (k : Int) < (ni : Int) := by omega
        have hkL : k < inner.length := by rw [← HNI.out]; exact hkl
        obtain ⟨ai, hiA, i0, i1, i2, i3, i4⟩ := HNR.out.at hkL
        simp only at hiA i0 i1 i2 i3 i4
        subst hiA
        have hmemI := getD_mem' Im.zero hkL
        have htf := take_filter Im.zero (fun x : Im => ((⟨q, true, x.o⟩ : Pt), x.p.w)) (fun x => decide (x.i = qp)) hkL
        obtain ⟨⟨xi, xo, ⟨pA, pc, ⟨pl, pa, pe⟩⟩⟩, hx⟩ : ∃ e, inner.getD k Im.zero = e := ⟨_, rfl⟩
        rw [hx] at i0 i1 i2 i3 i4 hmemI htf
        simp only at i0 i1 i2 i3 i4
        obtain ⟨np, hnp⟩ : ∃ n, n = pe.length := ⟨_, rfl⟩
        rw [← hnp] at i4
        have I0 := Lib.hid i0
        have I1 := Lib.hid i1
        have I2 := Lib.hid i2
        have I3 := Lib.hid i3
        have I4 := Lib.hid i4
        have HMI := Lib.hid hmemI
        have HNP := Lib.hid hnp
        have HTF := Lib.hid htf
        have HPW : Hid (PmR wz (⟨pA, pc, ⟨pl, pa, pe⟩⟩ : Pm) ∧ (0 ≤ pa ∧ pa ≤ 4294967295) ∧ pe.length ≤ 1000000) := Lib.hid ⟨HNS.out.ls _ hmemI, (HN6.out.inn _ hmemI).2.2.2.1, (HN6.out.inn _ hmemI).2.2.2.2.2⟩
        have a0 := (BQ.out.ext (X1.out.trans XR.out)).cell 0
        have a2 := (BQ.out.ext (X1.out.trans XR.out)).cell 2
        clear hx hnp hmemI htf i0 i1 i2 i3 i4 hkL
        have i0 := XR.out.cell I0.out
        by_cases hin : xi = qp
        · subst hin
          go_upto_region 15 with fail
          go_quiet (fail)
          go_upto_region 16 with fail
          obtain ⟨wD, hwD⟩ : ∃ x, x = wr.drewN nq := ⟨_, rfl⟩
          rw [← hwD]
          have xD : Ext wr wD := by rw [hwD]; exact (Ext.refl _).drewN _
          have XRD := Lib.hid xD
          have HT4 := Lib.hid (HT2.out.1.ext xD)
          clear hwD xD n3 a0 a2 i0
          have xd : Ext wr wD.drew := XRD.out.trans (Ext.refl wD).drew
          have a0 : ∀ y : Xt wD.drew, y.W.cell? ⟨b + 1, 0, none⟩ = some (.int .i64 q) := fun y => (BQ.out.ext (X1.out.trans (XR.out.trans (xd.trans y.x)))).cell 0
          have n3 : ∀ y : Xt wD.drew, y.W.cell? ⟨b + 2, 3, none⟩ = some (.slice (some ai) ni ic) := fun y => (BN.out.ext (XR.out.trans (xd.trans y.x))).cell 3
          have i1 : ∀ y : Xt wD.drew, y.W.cell? ⟨(ai.add (k * 5)).block, (ai.add (k * 5)).off + 1, none⟩ = some (.int .i64 xo) := fun y => (XR.out.trans (xd.trans y.x)).cell I1.out
          refine wp_region_ord [0,0,2,0,8,0,56,120,248,510,1022,2047,4095] (.pur [0] (.flo [1,2,3,4,5,6,7,8,9] (.one 10 (.one 11 (.flo [12] (.fin)))))) (by kernel_rfl) (by kernel_rfl) (by intro _ _ d _ _ h; cases d <;> exact h) ?_
          (refine ord_pur (pick_cons rfl pick_nil) ?_; (repeat (go_big_quiet_step (fail))); refine wpQuiet_nil ?_; show ordWalk _ _ _ _ _ _ _)
          (refine ord_flo (pick_cons rfl (pick_cons rfl (pick_cons rfl (pick_cons rfl (pick_cons rfl (pick_cons rfl (pick_cons rfl (pick_cons rfl (pick_cons rfl pick_nil))))))))) ?_; (repeat (go_big_quiet_step (fail))); refine wpQuiet_nil ?_; show ordWalk _ _ _ _ _ _ _)
          refine ord_one (pick_cons rfl pick_nil) ?_; intro K_ hK_
          go_wp2
          clear a0 n3 i1 xd
          obtain ⟨wE, hwE⟩ : ∃ x, x = (wD.alloc (.cells #[.int .i64 q, .bool true, .int .i64 xo] 27)).drew := ⟨_, rfl⟩
          have xE : Ext wD wE := by rw [hwE]; exact ((Ext.refl _).alloc _).drew
          have T1 := Lib.hid (HT4.out.ext xE)
          have XWE := Lib.hid (XRD.out.trans xE)
          have S1 : Hid (Sl wE 3 (some ⟨wD.heap.size, 0, none⟩) 1 1 [.int .i64 q, .bool true, .int .i64 xo]) := Lib.hid (by rw [hwE]; exact (Sl.one wD #[.int .i64 q, .bool true, .int .i64 xo] 27 3 rfl).ext (Ext.refl _).drew)
          have hb1 := T1.out.ex.size
          rw [← hwE]
          clear hwE xE
          refine ord_one (pick_cons rfl pick_nil) ?_; intro K_ hK_
          go_wp2_with (at_builtin; go_loud (refine wpList_append_two _ elem_pt w1.heap.size _ _ rfl rfl A1 m c1 ((L.map Prod.fst).flatMap ptC) rfl T1.out.tt (some ⟨wD.heap.size, 0, none⟩) 1 1 [.int .i64 q, .bool true, .int .i64 xo] rfl S1.out (by intro u hu; simp only [List.mem_cons, List.not_mem_nil, or_false] at hu; rcases hu with rfl | rfl | rfl <;> rfl) (by omega) (by decide) hb1 ?_); intro A3 c3 w4 o4 g4 x4; have O4 := Lib.hid o4; have G4 := Lib.hid g4; clear o4 g4 x4)
          go_simp
          (refine ord_flo (pick_cons rfl pick_nil) ?_; (repeat (go_big_quiet_step (fail))); refine wpQuiet_nil ?_; show ordWalk _ _ _ _ _ _ _)
          refine ord_fin ?_
          go_upto_region 17 with fail
          have x4 := T1.out.ex.grown G4.out (fun k hk => (T1.out.tt.lt k hk).1)
          have n3 := (BN.out.ext x4).cell 3
          have i2 := x4.cell I2.out
          have i3 := x4.cell I3.out
          have i4 := x4.cell I4.out
          have V4 := Lib.hid ((own_other T1.out.via T1.out.tt (by decide) G4.out).alloc (.cells #[.int .i64 pl, .int .u32 pa, .slice pA np pc] 47))
          have S2 := Lib.hid (Sl.one w4 #[.int .i64 pl, .int .u32 pa, .slice pA np pc] 47 3 rfl)
          have hb2 := (x4.alloc (.cells #[.int .i64 pl, .int .u32 pa, .slice pA np pc] 47)).size
          clear x4
          go_wp2_with (at_builtin; go_loud (refine wpList_append_two _ elem_pm w1.heap.size _ _ rfl rfl A2 m c2 ((L.map Prod.snd).flatMap pmC) rfl V4.out (some ⟨w4.heap.size, 0, none⟩) 1 1 [.int .i64 pl, .int .u32 pa, .slice pA np pc] rfl S2.out (by intro u hu; simp only [List.mem_cons, List.not_mem_nil, or_false] at hu; rcases hu with rfl | rfl | rfl <;> rfl) (by omega) (by decide) hb2 ?_); intro A6 c6 w6_ o6 g6 x6; have O6 := Lib.hid o6; have G6 := Lib.hid g6; clear o6 g6 x6)
          have HST9 : Hid (Stp g.v ⟨q, false, xi⟩ ⟨q, true, xo⟩ ⟨pl, pa, pe⟩) := Lib.hid (.inr ⟨rfl, (nodes.getD q Nm.zero).v, (⟨xi, xo, ⟨pA, pc, ⟨pl, pa, pe⟩⟩⟩ : Im).v, by rw [HGV.out]; exact HQD.out, by
            show _ ∈ (nodes.getD q Nm.zero).inner.map Im.v
            rw [← HNN.out]
            exact List.mem_map.2 ⟨_, HMI.out, rfl⟩, rfl, rfl, rfl⟩)
          go_roundg (ni - (k + 1))
          case measure => omega
          case rel =>
            refine ⟨k + 1, m + 1, c3, c6, A3, A6, L ++ [(⟨q, true, xo⟩, ⟨pA, pc, ⟨pl, pa, pe⟩⟩)], rfl, rfl, by go_num, by omega, by omega, rfl, Lib.hid ⟨T1.out.push (t := ⟨q, true, xo⟩) (b := ⟨pA, pc, ⟨pl, pa, pe⟩⟩) G4.out O4.out ((Ext.refl _).alloc _) G6.out (by have q6 := O6.out; rw [HNP.out] at q6; exact q6) ⟨HST9.out, HPW.out⟩, ?_⟩⟩
            rw [HTF.out, if_pos (by simp), List.map_append, HT2.out.2]
            rfl
        · have hinb : (xi == qp) = false := by simpa using hin
          have hdf : decide (xi = qp) = false := decide_eq_false hin
          have HDF := Lib.hid hdf
          clear hin hdf
          go_upto_region 15 with fail
          go_quiet (fail)
          go_wp2
          go_roundg (ni - (k + 1))
          case measure => omega
          case rel =>
            refine ⟨k + 1, m, c1, c2, A1, A2, L, rfl, rfl, by go_num, by omega, by omega, rfl, Lib.hid ⟨HT2.out.1.ext ((Ext.refl _).drewN _), ?_⟩⟩
            rw [HTF.out, if_neg (by show ¬ decide _ = true; rw [HDF.out]; decide), List.append_nil]; exact HT2.out.2
      · obtain rfl : ni = k := by omega
        have hnz : ¬ (ni : Int) < (ni : Int) := by omega
        go_wp2
        go_returns
        refine ⟨m, c1, c2, A1, A2, L, rfl, by rw [← HGV.out]; exact HT2.out.1.lower (X0.out.trans X1.out), ?_, by omega⟩
        rw [HMV.out, HT2.out.2, HNI.out, List.take_length]
        show _ = ((nodes.getD q Nm.zero).inner.filter _).map _
        rw [← HNN.out]
end Go.Proofs.Yteklohamkmiphaa
namespace Go.Proofs.Yteklohamkmiphaa
open Go.RowKit

/-- what is told of a place -/
theorem rdep_tell {NA : Option Addr} {Nc : Nat} {nodes : List Nm} {EA : Option Addr} {Ec : Nat} {edges : List (Pt × Pt)} {nl el : Nat} (pn : Int) (po : Bool) (pp : Int) (w : World) (h : GrOk w NA Nc nodes EA Ec edges nl el) (hN : ∀ x ∈ nodes, nodeT x.v = true) :
    ∃ (b : Bool), b = ((Gm.v ⟨NA, Nc, nodes, EA, Ec, edges⟩).dep ⟨pn, po, pp⟩).isSome ∧ ∀ W, Ext w W → Calls Try.prog 9 #[.agg #[.slice NA nl Nc, .slice EA el Ec], .agg #[.int .i64 pn, .bool po, .int .i64 pp]] W fun e w' => ∃ d', e = .returned (.tuple #[.int .i64 d', .bool b]) ∧ Hid (b = true → d' = (Gm.v ⟨NA, Nc, nodes, EA, Ec, edges⟩).dp ⟨pn, po, pp⟩) ∧ Ext W w' := by
  refine ⟨_, rfl, fun W x => (rdepth_any NA Nc nodes EA Ec edges pn po pp nl el W (Lib.hid h.l) (Lib.hid (h.ext x).g) (Lib.hid hN)).mono ?_⟩
  rintro e w' ⟨d', rfl, h1, x⟩
  exact ⟨d', rfl, Lib.hid h1, x⟩
theorem edgeT_eq {g : Gr} {a b : Pt} {ba bb : Bool} (ha : ba = (g.dep a).isSome) (hb : bb = (g.dep b).isSome) : edgeT g (a, b) = (ba && bb && a.o && !b.o && decide (g.dp a = g.dp b)) := by
  unfold edgeT Gr.dp
  cases h1 : g.dep a <;> cases h2 : g.dep b <;> rw [h1] at ha <;> rw [h2] at hb <;> subst ha <;> subst hb <;> simp
set_option maxRecDepth 100000 in
set_option maxHeartbeats 2000000 in
theorem redge_any (NA : Option Addr) (Nc : Nat) (nodes : List Nm) (EA : Option Addr) (Ec : Nat) (edges : List (Pt × Pt)) (nl el : Nat) (fn : Int) (fo : Bool) (fp : Int) (tn : Int) (too : Bool) (tp : Int) (w : World) (hk : Hid (GrOk w NA Nc nodes EA Ec edges nl el)) (hN : Hid (∀ x ∈ nodes, nodeT x.v = true)) (ev : Bool) (hev : Hid (edgeT (Gm.v ⟨NA, Nc, nodes, EA, Ec, edges⟩) (⟨fn, fo, fp⟩, ⟨tn, too, tp⟩) = ev)) :
    Calls Try.prog 61 #[.agg #[.slice NA nl Nc, .slice EA el Ec], .agg #[.int .i64 fn, .bool fo, .int .i64 fp, .int .i64 tn, .bool too, .int .i64 tp]] w fun e w' => e = .returned (.bool ev) ∧ Ext w w' := by
  obtain ⟨w0, hw0⟩ : ∃ w0, w0 = (w.alloc (.cells #[.slice NA nl Nc, .slice EA el Ec] 25)).alloc (.cells #[.int .i64 fn, .bool fo, .int .i64 fp, .int .i64 tn, .bool too, .int .i64 tp] 44) := ⟨_, rfl⟩
  obtain ⟨b, hb⟩ : ∃ b, b = w.heap.size := ⟨_, rfl⟩
  have X0 : Hid (Ext w w0) := Lib.hid (by rw [hw0]; exact ((Ext.refl w).alloc _).alloc _)
  have BG : Hid (Bk w0 b 25 #[.slice NA nl Nc, .slice EA el Ec]) := Lib.hid (by rw [hw0, hb]; exact (Bk.new _ _ _).alloc _)
  have BE : Hid (Bk w0 (b + 1) 44 #[.int .i64 fn, .bool fo, .int .i64 fp, .int .i64 tn, .bool too, .int .i64 tp]) := Lib.hid (by rw [hw0, hb]; exact Bk.at (by simp))
  obtain ⟨b1, hb1, hc1⟩ := rdep_tell fn fo fp w0 (hk.out.ext X0.out) hN.out
  obtain ⟨b2, hb2, hc2⟩ := rdep_tell tn too tp w0 (hk.out.ext X0.out) hN.out
  have HET := Lib.hid (edgeT_eq hb1 hb2)
  rw [hev.out] at HET
  have HC1 := Lib.hid hc1
  have HC2 := Lib.hid hc2
  have g0 := BG.out.cell 0
  have g1 := BG.out.cell 1
  have e0 := BE.out.cell 0
  have e1 := BE.out.cell 1
  have e2 := BE.out.cell 2
  clear hb1 hb2 hc1 hc2
  go_enter Try.func61, Try.ntmps61
  go_upto_region 1 with fail
  rw [← hw0, ← hb]
  clear hw0 hb
  go_upto_region 2 with (go_at_call 9; go_loud (refine (HC1.out _ (Ext.refl _)).mono ?_); rintro r w1 ⟨d1, rfl, hd1, x1⟩; have X1 := Lib.hid x1; clear x1)
  clear g0 g1 e0 e1 e2
  have g0 := (BG.out.ext X1.out).cell 0
  have g1 := (BG.out.ext X1.out).cell 1
  have e3 := (BE.out.ext X1.out).cell 3
  have e4 := (BE.out.ext X1.out).cell 4
  have e5 := (BE.out.ext X1.out).cell 5
  go_upto_region 3 with (go_at_call 9; go_loud (refine (HC2.out _ X1.out).mono ?_); rintro r w2 ⟨d2, rfl, hd2, x2⟩; have X2 := Lib.hid (X1.out.trans x2); clear x2)
  clear g0 g1 e3 e4 e5
  have e1 := (BE.out.ext X2.out).cell 1
  have e4 := (BE.out.ext X2.out).cell 4
  have fin : ∀ bb : Bool, bb = (b1 && b2 && fo && !too && decide (d1 = d2)) → bb = ev := fun bb h => by
    rw [HET.out, h]
    cases b1 with
    | false => rfl
    | true =>
      cases b2 with
      | false => rfl
      | true => rw [hd1.out rfl, hd2.out rfl]
  have FIN := Lib.hid fin
  clear fin hd1 hd2 HET
  cases b1 with
  | false =>
    go_wp2
    go_ret
    exact ⟨by rw [← FIN.out false rfl]; rfl, X0.out.trans X2.out⟩
  | true =>
    cases b2 with
    | false =>
      go_wp2
      go_ret
      exact ⟨by rw [← FIN.out false rfl]; rfl, X0.out.trans X2.out⟩
    | true =>
      cases fo with
      | false =>
        go_wp2
        go_ret
        exact ⟨by rw [← FIN.out false rfl]; rfl, X0.out.trans X2.out⟩
      | true =>
        cases too with
        | true =>
          go_wp2
          go_ret
          exact ⟨by rw [← FIN.out false rfl]; rfl, X0.out.trans X2.out⟩
        | false =>
          by_cases hdd : d1 = d2
          · have FIN2 := Lib.hid (FIN.out true (by rw [hdd]; simp))
            have hbb : (d1 == d2) = true := by simp [hdd]
            clear hdd
            go_wp2
            go_ret
            exact ⟨by rw [← FIN2.out]; rfl, X0.out.trans X2.out⟩
          · have FIN2 := Lib.hid (FIN.out false (by simp [hdd]))
            have hbb : (d1 == d2) = false := by simp [hdd]
            clear hdd
            go_wp2
            go_ret
            exact ⟨by rw [← FIN2.out]; rfl, X0.out.trans X2.out⟩
end Go.Proofs.Yteklohamkmiphaa
