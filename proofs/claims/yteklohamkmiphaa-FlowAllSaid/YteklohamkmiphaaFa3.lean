/- stamp.PathLeq: the loop. Ways as what they do to counters: never behind, one behind the other. Graphs, and a search in them: what is found, and that it is a run. Graphs, and a search in them: that it is a run. Graphs, and a search in them: how much waits at most, and that there is an end. A search goes on: its steps, what waits, its end. What a search comes to: the least ways, whoever searched. cmp.Compare, cmp.Or, slices.Compare at counters, stamp.Cmp: what they answer. The plain law of StampOrder: times of one depth are ordered in part, with least and greatest bounds. Conditions: each theorem states its own. -/
import Derived.Test.YteklohamkmiphaaFa2
namespace Go.Proofs.Yteklohamkmiphaa
open Go.RowKit

set_option maxRecDepth 100000 in
set_option maxHeartbeats 1000000 in
theorem pleq_main (La aa Lb ab d : Int) (A1 A2 : Option Addr) (n1 n2 c1 c2 : Nat) (l1 l2 : List Int) (w : World) (h1 : Sl w 1 A1 n1 c1 (wds l1)) (h2 : Sl w 1 A2 n2 c2 (wds l2)) (u1 : U32 l1) (u2 : U32 l2) (hn1 : n1 ≤ 1000000) (hn2 : n2 ≤ 1000000)
    (k1 : 0 ≤ d) (k2 : d ≤ 3) (k3 : 0 ≤ La) (k4 : La ≤ d) (k5 : 0 ≤ Lb) (k6 : Lb ≤ d) (k7 : d - La + n1 ≤ 3) (k8 : d - La + n1 = d - Lb + n2) :
    Calls Try.prog 27 #[.agg #[.int .i64 La, .int .u32 aa, .slice A1 n1 c1], .agg #[.int .i64 Lb, .int .u32 ab, .slice A2 n2 c2], .int .i64 d] w
      (fun e w' => e = .returned (.bool (decide (∀ k : Nat, k < (d - La + n1).toNat + 1 → Never (placeT La aa l1 d k) (placeT Lb ab l2 d k)))) ∧ Ext w w') := by
  have q6 : (!decide (Lb ≤ d)) = false := by simp; omega
  have i1 : IntKind.i64.wrap (d - La) = d - La := IntWalk.i64_in _ (by omega)
  have i2 : IntKind.i64.wrap (d - La + n1) = d - La + n1 := IntWalk.i64_in _ (by omega)
  have i3 : IntKind.i64.wrap (d - Lb) = d - Lb := IntWalk.i64_in _ (by omega)
  have i4 : IntKind.i64.wrap (d - Lb + n2) = d - Lb + n2 := IntWalk.i64_in _ (by omega)
  have i5 : IntKind.i64.wrap (d - La + n1 + 1) = d - La + n1 + 1 := IntWalk.i64_in _ (by omega)
  have q8 : (d - La + n1 != d - Lb + n2) = false := by simp; omega
  obtain ⟨T, hT⟩ : ∃ T, T = (d - La + n1).toNat := ⟨_, rfl⟩
  rw [← hT]
  have K8 := Lib.hid k8
  clear k8
  go_enter Try.func27, Try.ntmps27
  go_wp2
  obtain ⟨w0, hw0⟩ : ∃ w0, w0 = (((((w.alloc (Obj.cells #[Value.int IntKind.i64 La, Value.int IntKind.u32 aa, Value.slice A1 n1 c1] 47)).alloc
                  (Obj.cells #[Value.int IntKind.i64 Lb, Value.int IntKind.u32 ab, Value.slice A2 n2 c2] 47)).alloc
              (Obj.cells #[Value.int IntKind.i64 d] 3)).alloc
          (Obj.cells #[Value.int IntKind.i64 La, Value.int IntKind.u32 aa, Value.slice A1 n1 c1] 47)).alloc
      (Obj.cells #[Value.int IntKind.i64 Lb, Value.int IntKind.u32 ab, Value.slice A2 n2 c2] 47)) := ⟨_, rfl⟩
  have e0 : Ext w w0 := hw0 ▸ (((((Ext.refl w).alloc _).alloc _).alloc _).alloc _).alloc _
  have a0 : Bk w0 w.heap.size 47 #[Value.int IntKind.i64 La, Value.int IntKind.u32 aa, Value.slice A1 n1 c1] := by subst hw0; exact ((((Bk.new _ _ _).alloc _).alloc _).alloc _).alloc _
  have b0 : Bk w0 (w.heap.size + 1) 47 #[Value.int IntKind.i64 Lb, Value.int IntKind.u32 ab, Value.slice A2 n2 c2] := by subst hw0; exact (((Bk.at (by simp)).alloc _).alloc _).alloc _
  have d0 : Bk w0 (w.heap.size + 1 + 1) 3 #[Value.int IntKind.i64 d] := by subst hw0; exact ((Bk.at (by simp)).alloc _).alloc _
  rw [← hw0]
  clear hw0
  go_loopw [59] (fun v wr => ∃ k : Nat, k ≤ T + 1 ∧ v = .int .i64 k ∧ (∀ j : Nat, j < k → Never (placeT La aa l1 d j) (placeT Lb ab l2 d j)) ∧ Ext w0 wr) (fun v _ => T + 1 - (intOf v).toNat)
  case atStart => exact ⟨0, Nat.zero_le _, rfl, fun j hj => absurd hj (by omega), Ext.refl _⟩
  case round =>
    obtain ⟨k, hk, rfl, hall, er⟩ := hrel
    have H := Lib.hid hall
    clear hall
    have f1 : wr.cell? ⟨w.heap.size, 0, none⟩ = some (.int .i64 La) := er.cell (a0.cell 0)
    have f2 : wr.cell? ⟨w.heap.size, 1, none⟩ = some (.int .u32 aa) := er.cell (a0.cell 1)
    have f3 : wr.cell? ⟨w.heap.size, 2, none⟩ = some (.slice A1 n1 c1) := er.cell (a0.cell 2)
    have f4 : wr.cell? ⟨w.heap.size + 1, 0, none⟩ = some (.int .i64 Lb) := er.cell (b0.cell 0)
    have f5 : wr.cell? ⟨w.heap.size + 1, 1, none⟩ = some (.int .u32 ab) := er.cell (b0.cell 1)
    have f6 : wr.cell? ⟨w.heap.size + 1, 2, none⟩ = some (.slice A2 n2 c2) := er.cell (b0.cell 2)
    have f7 : wr.cell? ⟨w.heap.size + 1 + 1, 0, none⟩ = some (.int .i64 d) := er.cell (d0.cell 0)
    have f8 := (d0.ext er).lt
    by_cases hlt : k < T + 1
    · obtain ⟨⟨ka, na⟩, ha⟩ : ∃ r, placeT La aa l1 d k = r := ⟨_, rfl⟩
      obtain ⟨⟨kb, nb⟩, hb⟩ : ∃ r, placeT Lb ab l2 d k = r := ⟨_, rfl⟩
      have PA := place_w La aa d k A1 n1 c1 (w.heap.size + 1 + 1) l1 wr ((h1.ext e0).ext er) f7 f8 (by omega) k3 k4 (by omega) (by omega) hn1 (by omega) u1
      have PB : ∀ w1, Ext wr w1 → _ := fun w1 (x1 : Ext wr w1) => place_w Lb ab d k A2 n2 c2 (w.heap.size + 1 + 1) l2 w1 (((h2.ext e0).ext er).ext x1) (x1.cell f7) (by have := x1.size; omega) (by omega) k5 k6 (by omega) (by have := K8.out; omega) hn2 (by omega) u2
      rw [ha] at PA
      rw [hb] at PB
      have hlt3 : (k : Int) < d - La + n1 + 1 := by omega
      have HT := Lib.hid hT
      clear hT
      go_wp2_with (first | (have mk2 := mk1; go_at_call 50; refine (PB _ x1).mono ?_; clear PB; rintro r w2 ⟨rfl, x2⟩; have e2 := x1.trans x2) | (go_at_call 50; refine PA.mono ?_; clear PA; rintro r w1 ⟨rfl, x1⟩; have g4 := x1.cell f4; have g5 := x1.cell f5; have g6 := x1.cell f6; have mk1 := trivial))
      all_goals first
        | (refine ⟨⟨k + 1, by omega, by simp, fun j hj => ?_, er.trans e2⟩, ?_⟩
           · by_cases hjk : j < k
             · exact H.out j hjk
             · have hjk2 : j = k := by omega
               rw [hjk2, ha, hb]
               unfold Never
               exact ⟨by assumption, by simp_all⟩
           · simp [intOf]; omega)
        | (refine bodyPost_ret (v := .bool false) (by simp only [results, Try.results27]; go_simp) rfl ?_
           refine ⟨ret_bool (Eq.symm (decide_eq_false fun hh => ?_)), (e0.trans er).trans e2⟩
           have hk2 := hh k hlt
           rw [ha, hb] at hk2
           obtain ⟨t1, t2⟩ := hk2
           dsimp only at t1 t2
           first | omega | (clear K8 q8; simp_all; done) | (clear K8 q8; simp_all; omega))
    · have hk1 : k = T + 1 := by omega
      have hlt3 : ¬ ((k : Int) < d - La + n1 + 1) := by omega
      subst hk1
      have HT := Lib.hid hT
      clear hT
      go_wp2
      refine bodyPost_ret (v := .bool true) (by simp only [results, Try.results27]; go_simp) rfl ?_
      exact ⟨ret_bool (Eq.symm (decide_eq_true fun j hj => H.out j hj)), e0.trans er⟩

theorem pleq_any (La aa Lb ab d : Int) (A1 A2 : Option Addr) (n1 n2 c1 c2 : Nat) (l1 l2 : List Int) (w : World) (h1 : Sl w 1 A1 n1 c1 (wds l1)) (h2 : Sl w 1 A2 n2 c2 (wds l2)) (u1 : U32 l1) (u2 : U32 l2) (hn1 : n1 ≤ 1000000) (hn2 : n2 ≤ 1000000) :
    Calls Try.prog 27 #[.agg #[.int .i64 La, .int .u32 aa, .slice A1 n1 c1], .agg #[.int .i64 Lb, .int .u32 ab, .slice A2 n2 c2], .int .i64 d] w
      (fun e w' => e = .returned (.bool (pathLeqT La aa l1 Lb ab l2 d)) ∧ Ext w w') := by
  have hl1 := h1.wlen
  have hl2 := h2.wlen
  by_cases h : (0 ≤ d ∧ d ≤ 3 ∧ 0 ≤ La ∧ La ≤ d ∧ 0 ≤ Lb ∧ Lb ≤ d ∧ d - La + n1 ≤ 3 ∧ d - La + n1 = d - Lb + n2)
  · obtain ⟨k1, k2, k3, k4, k5, k6, k7, k8⟩ := h
    refine (pleq_main La aa Lb ab d A1 A2 n1 n2 c1 c2 l1 l2 w h1 h2 u1 u2 hn1 hn2 k1 k2 k3 k4 k5 k6 k7 k8).mono fun e w' ⟨he, hx⟩ => ⟨he.trans (ret_bool ?_), hx⟩
    unfold pathLeqT
    rw [decide_eq_decide, hl1, hl2]
    exact ⟨fun h => ⟨k1, k2, k3, k4, k5, k6, k7, k8, h⟩, fun h => h.2.2.2.2.2.2.2.2⟩
  · have hf : pathLeqT La aa l1 Lb ab l2 d = false := by
      unfold pathLeqT
      rw [hl1, hl2]
      exact decide_eq_false fun hh => h ⟨hh.1, hh.2.1, hh.2.2.1, hh.2.2.2.1, hh.2.2.2.2.1, hh.2.2.2.2.2.1, hh.2.2.2.2.2.2.1, hh.2.2.2.2.2.2.2.1⟩
    rw [hf]
    exact pleq_off La aa Lb ab d A1 A2 n1 n2 c1 c2 w hn1 hn2 h
end Go.Proofs.Yteklohamkmiphaa
namespace Go.Proofs.Yteklohamkmiphaa
open Go.RowKit

def wayLab (d : Int) (w : Way) : Lab := ⟨(d - w.leave).toNat, fun j => (placeT w.leave w.add w.enter d j).2.toNat⟩
/-- a way from times in d loops to times in p loops -/
structure GoodW (d p : Int) (w : Way) : Prop where
  l0 : 0 ≤ w.leave
  l1 : w.leave ≤ d
  d3 : d ≤ 3
  a0 : 0 ≤ w.add
  a1 : w.add ≤ 4294967295
  u : U32 w.enter
  pe : d - w.leave + w.enter.length = p
  p3 : p ≤ 3

theorem placeT_lt {L a : Int} {l : List Int} {d i : Int} (h : i < d - L) : placeT L a l d i = (true, 0) := by unfold placeT; rw [if_pos h]
theorem placeT_eq {L a : Int} {l : List Int} {d i : Int} (h : i = d - L) : placeT L a l d i = (true, a) := by unfold placeT; rw [if_neg (by omega), if_pos h]
theorem placeT_gt {L a : Int} {l : List Int} {d i : Int} (h : d - L < i) : placeT L a l d i = (false, l.getD (i - (d - L) - 1).toNat 0) := by unfold placeT; rw [if_neg (by omega), if_neg (by omega)]

theorem GoodW.at (d : Int) {p : Int} {w : Way} (h : GoodW d p w) (j : Nat) : 0 ≤ (placeT w.leave w.add w.enter d j).2 ∧ (placeT w.leave w.add w.enter d j).2 ≤ 4294967295 ∧ ((placeT w.leave w.add w.enter d j).1 = true ↔ j ≤ (wayLab d w).k) := by
  have h0 := h.l0; have h1 := h.l1; have a0 := h.a0; have a1 := h.a1
  simp only [wayLab]
  rcases Int.lt_trichotomy (j : Int) (d - w.leave) with c | c | c
  · rw [placeT_lt c]; simp; omega
  · rw [placeT_eq c]; simp; omega
  · rw [placeT_gt c]
    have := h.u.getD ((j : Int) - (d - w.leave) - 1).toNat
    exact ⟨this.1, this.2, fun h => absurd h (by simp), fun h => by omega⟩

theorem leq_lab {d p : Int} {v w : Way} (hv : GoodW d p v) (hw : GoodW d p w) : pathLeqT v.leave v.add v.enter w.leave w.add w.enter d = true ↔ Lab.le p.toNat (wayLab d v) (wayLab d w) := by
  have v0 := hv.l0; have v1 := hv.l1; have w0 := hw.l0; have w1 := hw.l1; have d3 := hv.d3
  have vp := hv.pe; have wp := hw.pe; have p3 := hv.p3
  unfold pathLeqT
  rw [decide_eq_true_iff]
  constructor
  · rintro ⟨_, _, _, _, _, _, _, _, h⟩ j hj
    have hh := h j (by omega)
    have av := hv.at d j
    have aw := hw.at d j
    refine ⟨?_, fun x => ?_⟩
    · simp only [wayLab]; have := hh.1; omega
    · exact aw.2.2.1 (hh.2 (av.2.2.2 x))
  · intro h
    refine ⟨by omega, d3, v0, v1, w0, w1, by omega, by omega, fun k hk => ?_⟩
    have av := hv.at d k
    have aw := hw.at d k
    have hh := h k (by omega)
    simp only [wayLab] at hh
    refine ⟨by have := hh.1; omega, fun x => aw.2.2.2 (hh.2 (av.2.2.1 x))⟩

theorem wrap64_small {a : Int} (h : -100 ≤ a) (g : a ≤ 100) : wrap64 a = a := by unfold wrap64; omega

/-- whether one way goes behind another one -/
theorem then_ok {d p : Int} {v : Way} (hv : GoodW d p v) {b : Way} (b0 : 0 ≤ b.leave) (_b1 : b.leave ≤ p) (c1 : b.add ≤ 4294967295) :
    (thenT v.leave v.add v.enter b.leave b.add b.enter).2 = 0 ↔ (placeT v.leave v.add v.enter d (p - b.leave)).2 + b.add ≤ 4294967295 := by
  have v0 := hv.l0; have v1 := hv.l1; have vp := hv.pe
  unfold thenT
  rw [if_neg (by omega)]
  rcases Int.lt_trichotomy b.leave v.enter.length with h | h | h
  · rw [if_pos h, placeT_gt (by omega)]
    rw [show (p - b.leave - (d - v.leave) - 1).toNat = v.enter.length - b.leave.toNat - 1 by omega]
    generalize v.enter.getD _ 0 = x
    split <;> simp <;> omega
  · rw [if_neg (by omega), if_pos h, placeT_eq (by omega)]
    split <;> simp <;> omega
  · rw [if_neg (by omega), if_neg (by omega), placeT_lt (by omega)]
    simp; omega

/-- what a way behind another one does -/
theorem then_at {d p : Int} {v : Way} (hv : GoodW d p v) {b : Way} (b0 : 0 ≤ b.leave) (b1 : b.leave ≤ p) (c0 : 0 ≤ b.add) (c1 : b.add ≤ 4294967295) (ub : U32 b.enter) (q3 : p - b.leave + b.enter.length ≤ 3)
    {r : Way} (h : thenT v.leave v.add v.enter b.leave b.add b.enter = (r, 0)) :
    GoodW d (p - b.leave + b.enter.length) r ∧ (d - r.leave = if p - b.leave < d - v.leave then p - b.leave else d - v.leave) ∧
    ∀ j : Nat, (j : Int) ≤ p - b.leave + b.enter.length → (placeT r.leave r.add r.enter d j).2 = if (j : Int) < p - b.leave then (placeT v.leave v.add v.enter d j).2 else if (j : Int) = p - b.leave then (placeT v.leave v.add v.enter d j).2 + b.add else b.enter.getD ((j : Int) - (p - b.leave) - 1).toNat 0 := by
  have v0 := hv.l0; have v1 := hv.l1; have vp := hv.pe; have d3 := hv.d3; have va0 := hv.a0; have va1 := hv.a1
  have hp3 := hv.p3
  have hU := hv.u
  unfold thenT at h
  rw [if_neg (by omega)] at h
  rcases Int.lt_trichotomy b.leave v.enter.length with k | k | k
  · rw [if_pos k] at h
    have e0 : (p - b.leave - (d - v.leave) - 1).toNat = v.enter.length - b.leave.toNat - 1 := by omega
    have gd := hU.getD (v.enter.length - b.leave.toNat - 1)
    split at h
    · simp at h
    · rename_i ho
      simp only [Prod.mk.injEq, and_true] at h
      subst h
      have ht : (v.enter.take (v.enter.length - b.leave.toNat - 1)).length = v.enter.length - b.leave.toNat - 1 := by simp; omega
      refine ⟨⟨v0, v1, d3, va0, va1, ?_, ?_, q3⟩, ?_, ?_⟩
      · intro x hx
        simp only [List.mem_append, List.mem_singleton] at hx
        rcases hx with (hx | rfl) | hx
        · exact hU x (List.mem_of_mem_take hx)
        · omega
        · exact ub x hx
      · simp only [List.length_append, ht, List.length_singleton]; omega
      · rw [if_neg (by omega)]
      · intro j hj
        dsimp only
        rcases Int.lt_trichotomy (j : Int) (d - v.leave) with c | c | c
        · rw [placeT_lt c, placeT_lt c, if_pos (by omega)]
        · rw [placeT_eq c, placeT_eq c, if_pos (by omega)]
        · rw [placeT_gt c, placeT_gt c]
          dsimp only
          obtain ⟨i, hi⟩ : ∃ i, i = ((j : Int) - (d - v.leave) - 1).toNat := ⟨_, rfl⟩
          rw [← hi]
          by_cases c1 : (j : Int) < p - b.leave
          · rw [if_pos c1]
            simp only [List.getD_eq_getElem?_getD]
            rw [List.append_assoc, List.getElem?_append_left (by omega), List.getElem?_take, if_pos (by omega)]
          · rw [if_neg c1]
            by_cases c2 : (j : Int) = p - b.leave
            · rw [if_pos c2]
              simp only [List.getD_eq_getElem?_getD]
              rw [List.append_assoc, List.getElem?_append_right (by omega), ht]
              have : i - (v.enter.length - b.leave.toNat - 1) = 0 := by omega
              have e3 : i = v.enter.length - b.leave.toNat - 1 := by omega
              rw [this, e3]; simp
            · rw [if_neg c2]
              simp only [List.getD_eq_getElem?_getD]
              rw [List.getElem?_append_right (by simp; omega)]
              simp only [List.length_append, ht, List.length_singleton]
              congr 2; omega
  · rw [if_neg (by omega), if_pos k] at h
    split at h
    · simp at h
    · rename_i ho
      simp only [Prod.mk.injEq, and_true] at h
      subst h
      refine ⟨⟨v0, v1, d3, by dsimp only; omega, by dsimp only; omega, ub, by dsimp only; omega, q3⟩, by rw [if_neg (by omega)], ?_⟩
      intro j hj
      dsimp only
      have e : p - b.leave = d - v.leave := by omega
      rw [e]
      rcases Int.lt_trichotomy (j : Int) (d - v.leave) with c | c | c
      · rw [placeT_lt c, placeT_lt c, if_pos c]
      · rw [placeT_eq c, placeT_eq c, if_neg (by omega), if_pos c]
      · rw [placeT_gt c, if_neg (by omega), if_neg (by omega)]
  · rw [if_neg (by omega), if_neg (by omega)] at h
    simp only [Prod.mk.injEq, and_true] at h
    have w1 := wrap64_small (a := v.leave + b.leave) (by omega) (by omega)
    have w2 := wrap64_small (a := v.leave + b.leave - v.enter.length) (by omega) (by omega)
    rw [w1, w2] at h
    subst h
    refine ⟨⟨by dsimp only; omega, by dsimp only; omega, d3, c0, c1, ub, by dsimp only; omega, q3⟩, by rw [if_pos (by omega)]; dsimp only; omega, ?_⟩
    intro j hj
    dsimp only
    have e : d - (v.leave + b.leave - ↑v.enter.length) = p - b.leave := by omega
    rcases Int.lt_trichotomy (j : Int) (p - b.leave) with c | c | c
    · rw [placeT_lt (by omega), if_pos c, placeT_lt (by omega)]
    · rw [placeT_eq (by omega), if_neg (by omega), if_pos c, placeT_lt (by omega)]; simp
    · rw [placeT_gt (by omega), if_neg (by omega), if_neg (by omega), e]

/-- a way, and what is known of its counters -/
def IsLab (d p : Int) (w : Way) (a : Lab) : Prop := GoodW d p w ∧ ∀ j : Nat, (j : Int) ≤ p → a.v j = (wayLab d w).v j ∧ (j ≤ a.k ↔ j ≤ (wayLab d w).k)

theorem IsLab.le {d p : Int} {v w : Way} {a b : Lab} (hv : IsLab d p v a) (hw : IsLab d p w b) {c : Nat} (hc : (c : Int) ≤ p) : Lab.le c a b ↔ Lab.le c (wayLab d v) (wayLab d w) := by
  constructor
  · intro h j hj
    have h1 := hv.2 j (by omega); have h2 := hw.2 j (by omega); have h3 := h j hj
    exact ⟨by rw [← h1.1, ← h2.1]; exact h3.1, fun x => h2.2.1 (h3.2 (h1.2.2 x))⟩
  · intro h j hj
    have h1 := hv.2 j (by omega); have h2 := hw.2 j (by omega); have h3 := h j hj
    exact ⟨by rw [h1.1, h2.1]; exact h3.1, fun x => h2.2.2 (h3.2 (h1.2.1 x))⟩

theorem IsLab.leq {d p : Int} {v w : Way} {a b : Lab} (hv : IsLab d p v a) (hw : IsLab d p w b) : pathLeqT v.leave v.add v.enter w.leave w.add w.enter d = true ↔ Lab.le p.toNat a b := by
  have := hv.1.pe; have := hv.1.l1
  rw [leq_lab hv.1 hw.1, hv.le hw (by omega)]

/-- a step: it keeps so far, adds, sets -/
theorem IsLab.step {d p : Int} {v b r : Way} {a : Lab} (hv : IsLab d p v a) (b0 : 0 ≤ b.leave) (b1 : b.leave ≤ p) (c0 : 0 ≤ b.add) (c1 : b.add ≤ 4294967295) (ub : U32 b.enter) (q3 : p - b.leave + b.enter.length ≤ 3)
    (h : thenT v.leave v.add v.enter b.leave b.add b.enter = (r, 0)) {c : Nat} (hc : (c : Int) = p - b.leave) :
    IsLab d (p - b.leave + b.enter.length) r ⟨min a.k c, fun j => if j < c then a.v j else if j = c then a.v j + b.add.toNat else (b.enter.getD (j - c - 1) 0).toNat⟩ := by
  obtain ⟨h1, h2, h3⟩ := then_at hv.1 b0 b1 c0 c1 ub q3 h
  refine ⟨h1, fun j hj => ⟨?_, ?_⟩⟩
  · simp only [wayLab]
    rw [h3 j hj]
    by_cases k1 : j < c
    · rw [if_pos k1, if_pos (show (j : Int) < p - b.leave by omega), (hv.2 j (by omega)).1]; rfl
    · rw [if_neg k1, if_neg (show ¬ (j : Int) < p - b.leave by omega)]
      by_cases k2 : j = c
      · rw [if_pos k2, if_pos (show (j : Int) = p - b.leave by omega), (hv.2 j (by omega)).1]
        have := (hv.1.at d j).1
        simp only [wayLab]; omega
      · rw [if_neg k2, if_neg (show ¬ (j : Int) = p - b.leave by omega)]
        congr 2; omega
  · have h4 := hv.1.l1
    have h5 := hv.1.pe
    have h6 : d - r.leave ≤ c := by rw [h2]; split <;> omega
    have h7 : ((d - v.leave).toNat : Int) = d - v.leave := by omega
    by_cases k1 : (j : Int) ≤ p
    · have := (hv.2 j k1).2
      simp only [wayLab] at this ⊢
      have h8 : (j : Int) ≤ d - r.leave ↔ (j : Int) ≤ c ∧ (j : Int) ≤ d - v.leave := by rw [h2]; split <;> omega
      omega
    · simp only [wayLab]
      omega
end Go.Proofs.Yteklohamkmiphaa
namespace Go.Proofs.Yteklohamkmiphaa
open Go.RowKit

structure Pt where
  n : Int
  o : Bool
  p : Int
deriving DecidableEq
structure Inn where
  i : Int
  o : Int
  w : Way
structure Nd where
  ins : Int
  outs : Int
  depth : Int
  inner : List Inn
structure Gr where
  nodes : List Nd
  edges : List (Pt × Pt)

def madeT (d : Int) (w : Way) : Int := d - w.leave + w.enter.length
def Nd.turns (n : Nd) : Bool := decide (n.ins = 1 ∧ n.outs = 1 ∧ n.inner.length = 1)
def Nd.outDep (n : Nd) : Int := if n.turns then madeT n.depth (n.inner.headD ⟨0, 0, ⟨0, 0, []⟩⟩).w else n.depth
def Gr.nd (g : Gr) (n : Int) : Option Nd := if 0 ≤ n then g.nodes[n.toNat]? else none
/-- the depth of times at a place, if there is such a place -/
def Gr.dep (g : Gr) (p : Pt) : Option Int :=
  match g.nd p.n with
  | none => none
  | some nd => if p.p < 0 then none else if p.o then (if p.p < nd.outs then some nd.outDep else none) else (if p.p < nd.ins then some nd.depth else none)
def Gr.dp (g : Gr) (p : Pt) : Int := (g.dep p).getD 0

/-- a graph of a form that may be -/
structure GOK (g : Gr) : Prop where
  nd : ∀ n, n ∈ g.nodes → 0 ≤ n.depth ∧ n.depth ≤ 3 ∧ n.ins ≤ 8
  inn : ∀ n, n ∈ g.nodes → ∀ x, x ∈ n.inner → 0 ≤ x.i ∧ x.i < n.ins ∧ 0 ≤ x.o ∧ x.o < n.outs ∧ 0 ≤ x.w.leave ∧ x.w.leave ≤ n.depth ∧ (x.w.leave = n.depth → x.w.add = 0) ∧ madeT n.depth x.w ≤ 3 ∧ (n.turns = true ∨ madeT n.depth x.w = n.depth) ∧ 0 ≤ x.w.add ∧ x.w.add ≤ 4294967295 ∧ U32 x.w.enter
  ed : ∀ e, e ∈ g.edges → e.1.o = true ∧ e.2.o = false ∧ ∃ d, g.dep e.1 = some d ∧ g.dep e.2 = some d

abbrev Wid := Nat × Nat
def Gr.inn (g : Gr) (u : Wid) : Inn := ((g.nodes[u.1]?).bind (fun n => n.inner[u.2]?)).getD ⟨0, 0, ⟨0, 0, []⟩⟩
def Gr.nodeDep (g : Gr) (n : Nat) : Int := ((g.nodes[n]?).map (fun n => n.depth)).getD 0
/-- where one may go from a place -/
def Gr.mvs (g : Gr) (p : Pt) : List (Mv Pt Wid) :=
  if p.o then (g.edges.filter (fun e => decide (e.1 = p))).map (fun e => .e p e.2)
  else match g.nd p.n with
    | none => []
    | some nd => (nd.inner.zipIdx.filter (fun x => decide (x.1.i = p.p))).map (fun x => .w (p.n.toNat, x.2))
def Gr.tgt (g : Gr) : Mv Pt Wid → Pt
  | .e _ q => q
  | .w u => ⟨u.1, true, (g.inn u).o⟩
def idW : Way := ⟨0, 0, []⟩
def Gr.mw (g : Gr) : Mv Pt Wid → Way
  | .e _ _ => idW
  | .w u => (g.inn u).w
def thn (v b : Way) : Way × Int := thenT v.leave v.add v.enter b.leave b.add b.enter
def pl (v b : Way) (d : Int) : Bool := pathLeqT v.leave v.add v.enter b.leave b.add b.enter d

def Gr.net (g : Gr) (fr : Pt) : Net Pt Wid where
  start := fr
  d0 := (g.dp fr).toNat
  dep := fun p => (g.dp p).toNat
  win := fun u => ⟨u.1, false, (g.inn u).i⟩
  wout := fun u => ⟨u.1, true, (g.inn u).o⟩
  kp := fun u => (g.nodeDep u.1 - (g.inn u).w.leave).toNat
  add := fun u => (g.inn u).w.add.toNat
  ent := fun u j => ((g.inn u).w.enter.getD (j - (g.nodeDep u.1 - (g.inn u).w.leave).toNat - 1) 0).toNat

theorem then_id {d p : Int} {v : Way} (h : GoodW d p v) : thn v idW = (v, 0) := by
  obtain ⟨L, a, l⟩ := v
  have a1 := h.a1
  have u := h.u
  show thenT L a l 0 0 [] = _
  unfold thenT
  rw [if_neg (by omega)]
  by_cases hl : (0 : Int) < l.length
  · rw [if_pos hl]
    have e : l.length - (0 : Int).toNat - 1 = l.length - 1 := by omega
    rw [e]
    have g : l.getD (l.length - 1) 0 ≤ 4294967295 := (U32.getD u (l.length - 1)).2
    rw [if_neg (by omega)]
    have : l.take (l.length - 1) ++ [l.getD (l.length - 1) 0 + 0] ++ [] = l := by
      rw [List.append_nil, Int.add_zero]
      have hne : l ≠ [] := fun e => by subst e; simp at hl
      rw [List.getD_eq_getElem?_getD, List.getElem?_eq_getElem (by omega), Option.getD_some, ← List.getLast_eq_getElem hne, ← List.dropLast_eq_take, List.dropLast_concat_getLast]
    rw [this]
  · rw [if_neg hl, if_pos (by omega)]
    dsimp only at a1
    rw [if_neg (by omega)]
    have : l = [] := List.length_eq_zero_iff.1 (by omega)
    subst this
    simp

theorem Gr.nd_mem {g : Gr} {n : Int} {x : Nd} (h : g.nd n = some x) : x ∈ g.nodes ∧ 0 ≤ n ∧ g.nodes[n.toNat]? = some x := by
  unfold Gr.nd at h
  split at h
  · rename_i k; exact ⟨List.mem_of_getElem? h, k, h⟩
  · simp at h

theorem GOK.out3 {g : Gr} (G : GOK g) {n : Nd} (h : n ∈ g.nodes) : 0 ≤ n.outDep ∧ n.outDep ≤ 3 := by
  have a := G.nd n h
  unfold Nd.outDep
  by_cases t : n.turns = true
  · rw [if_pos t]
    unfold Nd.turns at t
    have t := of_decide_eq_true t
    cases hi : n.inner with
    | nil => rw [hi] at t; simp at t
    | cons x l =>
      have b := G.inn n h x (by rw [hi]; simp)
      simp only [List.headD_cons]
      unfold madeT at b ⊢
      omega
  · rw [if_neg t]; omega

theorem GOK.dep3 {g : Gr} (G : GOK g) {p : Pt} {d : Int} (h : g.dep p = some d) : 0 ≤ d ∧ d ≤ 3 := by
  unfold Gr.dep at h
  split at h
  · simp at h
  · rename_i nd hn
    have m := (Gr.nd_mem hn).1
    have a := G.nd nd m
    have b := G.out3 m
    repeat' split at h
    all_goals first | (simp at h; done) | (injection h with h; subst h; omega)

theorem GOK.dp3 {g : Gr} (G : GOK g) (p : Pt) : 0 ≤ g.dp p ∧ g.dp p ≤ 3 := by
  unfold Gr.dp
  cases h : g.dep p with
  | none => simp
  | some d => exact G.dep3 h

/-- what a move is to its place -/
theorem GOK.move {g : Gr} (G : GOK g) (fr : Pt) {p : Pt} {m : Mv Pt Wid} (h : m ∈ g.mvs p) (hp : (g.dep p).isSome) :
    (g.net fr).src m = p ∧ (g.dep (g.tgt m)).isSome ∧ ((g.tgt m).o = ! p.o) ∧
    ((∃ q, m = .e p q ∧ (p, q) ∈ g.edges ∧ g.dp q = g.dp p ∧ p.o = true) ∨
     (∃ u, m = .w u ∧ p.o = false ∧ (g.net fr).win u = p ∧ g.dp p = g.nodeDep u.1 ∧ u.1 < g.nodes.length ∧ (∃ n, g.nodes[u.1]? = some n ∧ u.2 < n.inner.length) ∧ 0 ≤ (g.inn u).w.leave ∧ (g.inn u).w.leave ≤ g.dp p ∧ ((g.inn u).w.leave = g.dp p → (g.inn u).w.add = 0) ∧
       g.dp (g.tgt m) = g.dp p - (g.inn u).w.leave + (g.inn u).w.enter.length ∧ 0 ≤ (g.inn u).w.add ∧ (g.inn u).w.add ≤ 4294967295 ∧ U32 (g.inn u).w.enter)) := by
  unfold Gr.mvs at h
  by_cases ho : p.o = true
  · rw [if_pos ho] at h
    obtain ⟨e, he, rfl⟩ := List.mem_map.1 h
    have he := List.mem_filter.1 he
    have ep := of_decide_eq_true he.2
    obtain ⟨g1, g2, d, g3, g4⟩ := G.ed e he.1
    rw [ep] at g3
    refine ⟨rfl, by simp only [Gr.tgt]; rw [g4]; rfl, by simp only [Gr.tgt]; rw [g2, ho]; rfl, .inl ⟨e.2, rfl, by rw [← ep]; exact he.1, ?_, ho⟩⟩
    unfold Gr.dp; rw [g3, g4]
  · have ho : p.o = false := by simpa using ho
    rw [if_neg (by simp [ho])] at h
    cases hn : g.nd p.n with
    | none => rw [hn] at h; simp at h
    | some nd =>
      rw [hn] at h
      simp only at h
      obtain ⟨x, hx, rfl⟩ := List.mem_map.1 h
      have hx := List.mem_filter.1 hx
      have xi := of_decide_eq_true hx.2
      obtain ⟨nm, n0, ng⟩ := Gr.nd_mem hn
      have hz := List.mem_zipIdx_iff_getElem?.1 hx.1
      have hxm : x.1 ∈ nd.inner := List.mem_of_getElem? hz
      have ei : g.inn (p.n.toNat, x.2) = x.1 := by
        unfold Gr.inn; simp only [ng, Option.bind_some, hz, Option.getD_some]
      have en : g.nodeDep p.n.toNat = nd.depth := by unfold Gr.nodeDep; rw [ng]; rfl
      obtain ⟨i1, i2, i3, i4, i5, i6, i7, i8, i9, i10, i11, i12⟩ := G.inn nd nm x.1 hxm
      have dpp : g.dp p = nd.depth := by
        unfold Gr.dp
        cases hd : g.dep p with
        | none => rw [hd] at hp; simp at hp
        | some d =>
          unfold Gr.dep at hd
          rw [hn] at hd
          simp only [ho] at hd
          repeat' split at hd
          all_goals first | (simp at hd; done) | (exact absurd ‹false = true› (by simp)) | (injection hd with hd; rw [← hd]; rfl)
      have dt : g.dep ⟨(p.n.toNat : Nat), true, x.1.o⟩ = some nd.outDep := by
        unfold Gr.dep
        have : g.nd ((p.n.toNat : Nat) : Int) = some nd := by rw [show ((p.n.toNat : Nat) : Int) = p.n by omega]; exact hn
        simp only [this]
        rw [if_neg (by omega), if_pos trivial, if_pos i4]
      have od : nd.outDep = nd.depth - x.1.w.leave + x.1.w.enter.length := by
        unfold Nd.outDep
        by_cases t : nd.turns = true
        · rw [if_pos t]
          unfold Nd.turns at t
          have t := (of_decide_eq_true t).2.2
          have : nd.inner.headD ⟨0, 0, ⟨0, 0, []⟩⟩ = x.1 := by
            cases hl : nd.inner with
            | nil => rw [hl] at t; simp at t
            | cons y l =>
              rw [hl] at t hxm
              have : l = [] := List.length_eq_zero_iff.1 (by simpa using t)
              subst this
              simp at hxm
              simp [hxm]
          rw [this]; rfl
        · rw [if_neg t]
          have := i9.resolve_left t
          unfold madeT at this; omega
      refine ⟨?_, by simp only [Gr.tgt, ei]; rw [dt]; rfl, by simp only [Gr.tgt, ho]; rfl, .inr ⟨(p.n.toNat, x.2), rfl, ho, ?_, by rw [en, dpp], ?_, ⟨nd, ng, ?_⟩, ?_⟩⟩
      · show (⟨(p.n.toNat : Nat), false, (g.inn (p.n.toNat, x.2)).i⟩ : Pt) = p
        rw [ei, xi, show ((p.n.toNat : Nat) : Int) = p.n by omega, ← ho]
      · show (⟨(p.n.toNat : Nat), false, (g.inn (p.n.toNat, x.2)).i⟩ : Pt) = p
        rw [ei, xi, show ((p.n.toNat : Nat) : Int) = p.n by omega, ← ho]
      · have := (List.getElem?_eq_some_iff.1 ng).1; exact this
      · exact (List.getElem?_eq_some_iff.1 hz).1
      · rw [ei, dpp]
        refine ⟨i5, i6, i7, ?_, i10, i11, i12⟩
        simp only [Gr.tgt, ei]
        unfold Gr.dp
        rw [dt, Option.getD_some, od]

def lex (p s i j : Nat) : Prop := p < i ∨ p = i ∧ s < j

structure Ent where
  mv : List (Mv Pt Wid)
  at' : Pt
  w : Way
  p : Nat
  s : Nat

/-- a search under way: what was found, in order, each with where from and by which step; i of them done, and j steps of the next one -/
structure BInv (g : Gr) (fr : Pt) (st : Prop) (Q : List Ent) (i j : Nat) : Prop where
  root : Q[0]? = some ⟨[], fr, idW, 0, 0⟩
  or : ∀ k e, Q[k + 1]? = some e → ∃ f m, Q[e.p]? = some f ∧ e.p ≤ k ∧ (g.mvs f.at')[e.s]? = some m ∧ e.mv = m :: f.mv ∧ e.at' = g.tgt m ∧ thn f.w (g.mw m) = (e.w, 0) ∧ lex e.p e.s i j
  inc : ∀ a b e f, Q[a + 1]? = some e → Q[b + 1]? = some f → a < b → lex e.p e.s f.p f.s
  un : ∀ a b e f, Q[a]? = some e → Q[b]? = some f → a < b → e.at' = f.at' → (st ∨ a ≠ 0) → pl e.w f.w (g.dp fr) = false
  dn : ∀ p s f m v, Q[p]? = some f → (g.mvs f.at')[s]? = some m → lex p s i j → thn f.w (g.mw m) = (v, 0) → ∃ a e, Q[a]? = some e ∧ (st ∨ a ≠ 0) ∧ e.at' = g.tgt m ∧ pl e.w v (g.dp fr) = true ∧ (a = 0 ∨ ¬ lex p s e.p e.s)

theorem BInv.start (g : Gr) (fr : Pt) (st : Prop) : BInv g fr st [⟨[], fr, idW, 0, 0⟩] 0 0 := by
  refine ⟨rfl, fun k e h => by simp at h, fun a b e f h => by simp at h, fun a b e f h1 h2 h3 => ?_, fun p s f m v _ _ h => ?_⟩
  · have := (List.getElem?_eq_some_iff.1 h1).1
    have := (List.getElem?_eq_some_iff.1 h2).1
    simp at *; omega
  · unfold lex at h; omega

/-- each is come to as its moves say -/
theorem BInv.form {g : Gr} {fr : Pt} {st : Prop} {Q : List Ent} {i j : Nat} (B : BInv g fr st Q i j) (G : GOK g) (hf : (g.dep fr).isSome) : ∀ (k : Nat) (e : Ent), Q[k]? = some e →
    (g.dep e.at').isSome ∧ (g.net fr).endp e.mv = e.at' ∧ IsLab (g.dp fr) (g.dp e.at') e.w ((g.net fr).lab e.mv) ∧ (e.at'.o = if e.mv.length % 2 = 0 then fr.o else ! fr.o)
  | 0, e, h => by
    rw [B.root] at h
    injection h with h; subst h
    have d := G.dp3 fr
    refine ⟨hf, rfl, ⟨⟨Int.le_refl 0, d.1, d.2, Int.le_refl 0, (by decide : (0 : Int) ≤ 4294967295), fun x hx => by simp [idW] at hx, by simp [idW], d.2⟩, fun j hj => ?_⟩, rfl⟩
    have hj : (j : Int) ≤ g.dp fr := hj
    have c : (placeT 0 0 [] (g.dp fr) j).2 = 0 := by
      rcases Classical.em ((j : Int) < g.dp fr - 0) with k | k
      · rw [placeT_lt k]
      · rw [placeT_eq (by omega)]
    refine ⟨?_, ?_⟩
    · simp only [Net.lab, wayLab, idW]; rw [c]; rfl
    · simp only [Net.lab, wayLab, idW, Gr.net]; omega
  | k + 1, e, h => by
    obtain ⟨f, m, h1, h2, h3, h4, h5, h6, _⟩ := B.or k e h
    obtain ⟨f1, f2, f3, f4⟩ := BInv.form B G hf e.p f h1
    obtain ⟨m1, m2, m3, m4⟩ := G.move fr (List.mem_of_getElem? h3) f1
    have par : e.at'.o = if e.mv.length % 2 = 0 then fr.o else ! fr.o := by
      rw [h5, m3, f4, h4, List.length_cons]
      by_cases c : f.mv.length % 2 = 0
      · rw [if_pos c, if_neg (by omega)]
      · rw [if_neg c, if_pos (by omega), Bool.not_not]
    refine ⟨by rw [h5]; exact m2, ?_, ?_, par⟩
    · rw [h4, h5]
      cases m with
      | e o q => rfl
      | w u => rfl
    · rcases m4 with ⟨q, rfl, q1, q2, q3⟩ | ⟨u, rfl, u1, u2, u3, u4, u5, u6, u7, u8, u9, u10, u11, u12⟩
      · rw [h4, h5]
        simp only [Gr.mw] at h6
        rw [then_id f3.1] at h6
        simp only [Prod.mk.injEq, and_true] at h6
        simp only [Net.lab, Gr.tgt]
        rw [q2, ← h6]
        exact f3
      · have d := G.dp3 (g.tgt (.w u))
        have b := f3.step (b := (g.inn u).w) (r := e.w) u6 u7 u10 u11 u12 (by rw [← u9]; exact d.2) h6 (c := (g.dp f.at' - (g.inn u).w.leave).toNat) (by omega)
        rw [← u9] at b
        rw [h4, h5]
        have : (g.net fr).lab (.w u :: f.mv) = ⟨min ((g.net fr).lab f.mv).k (g.dp f.at' - (g.inn u).w.leave).toNat, fun j => if j < (g.dp f.at' - (g.inn u).w.leave).toNat then ((g.net fr).lab f.mv).v j else if j = (g.dp f.at' - (g.inn u).w.leave).toNat then ((g.net fr).lab f.mv).v j + (g.inn u).w.add.toNat else ((g.inn u).w.enter.getD (j - (g.dp f.at' - (g.inn u).w.leave).toNat - 1) 0).toNat⟩ := by
          rw [u3]; rfl
        rw [this]
        exact b
end Go.Proofs.Yteklohamkmiphaa
namespace Go.Proofs.Yteklohamkmiphaa
open Go.RowKit
section
variable {g : Gr} {fr : Pt} {st : Prop} {Q : List Ent} {i j : Nat}

theorem lex_trans {a b c d e f : Nat} (h : lex a b c d) (k : lex c d e f) : lex a b e f := by unfold lex at *; omega
theorem lex_irrefl {a b : Nat} (h : lex a b a b) : False := by unfold lex at h; omega

theorem BInv.mv_ne (B : BInv g fr st Q i j) (G : GOK g) (hf : (g.dep fr).isSome) {a b : Nat} {e f : Ent} (he : Q[a]? = some e) (hg : Q[b]? = some f) (h : a < b) (hm : e.mv = f.mv) : False := by
  obtain ⟨_, e2, e3, _⟩ := B.form G hf a e he
  obtain ⟨_, f2, f3, _⟩ := B.form G hf b f hg
  have ha : e.at' = f.at' := by rw [← e2, ← f2, hm]
  have a0 : a ≠ 0 := by
    intro a0
    subst a0
    rw [B.root] at he
    injection he with he; subst he
    obtain ⟨c, rfl⟩ : ∃ c, b = c + 1 := ⟨b - 1, by omega⟩
    obtain ⟨_, m, _, _, _, h4, _⟩ := B.or c f hg
    rw [h4] at hm; simp at hm
  have u := B.un a b e f he hg h ha (.inr a0)
  rw [← ha, ← hm] at f3
  have := (e3.leq f3).2 (Lab.le_refl _ _)
  unfold pl at u
  rw [this] at u; simp at u
theorem BInv.mv_inj (B : BInv g fr st Q i j) (G : GOK g) (hf : (g.dep fr).isSome) {a b : Nat} {e f : Ent} (he : Q[a]? = some e) (hg : Q[b]? = some f) (hm : e.mv = f.mv) : a = b ∧ e = f := by
  have : a = b := by
    rcases Nat.lt_trichotomy a b with h | h | h
    · exact (B.mv_ne G hf he hg h hm).elim
    · exact h
    · exact (B.mv_ne G hf hg he h hm.symm).elim
  subst this
  rw [he] at hg
  exact ⟨rfl, Option.some.inj hg⟩

def EOf (Q : List Ent) (l : List (Mv Pt Wid)) : Prop := ∃ (k : Nat) (e : Ent), Q[k]? = some e ∧ e.mv = l
def tmOf (Q : List Ent) (l : List (Mv Pt Wid)) : Nat := Q.findIdx (fun e => decide (e.mv = l))
theorem BInv.tm_at (B : BInv g fr st Q i j) (G : GOK g) (hf : (g.dep fr).isSome) {k : Nat} {e : Ent} (h : Q[k]? = some e) : tmOf Q e.mv = k := by
  obtain ⟨hk, he⟩ := List.getElem?_eq_some_iff.1 h
  unfold tmOf
  rw [List.findIdx_eq hk]
  refine ⟨by rw [he]; simp, fun m hm => ?_⟩
  have hq : Q[m]? = some Q[m] := List.getElem?_eq_getElem (by omega)
  refine decide_eq_false fun c => B.mv_ne G hf hq h hm c

theorem BInv.nonroot (B : BInv g fr st Q i j) {k : Nat} {e : Ent} {m : Mv Pt Wid} {t : List (Mv Pt Wid)} (h : Q[k]? = some e) (hm : e.mv = m :: t) : ∃ c, k = c + 1 := by
  cases k with
  | zero => rw [B.root] at h; injection h with h; subst h; simp at hm
  | succ c => exact ⟨c, rfl⟩
theorem BInv.root_mv (B : BInv g fr st Q i j) {k : Nat} {e : Ent} (h : Q[k]? = some e) (hk : k ≠ 0) : e.mv ≠ [] := by
  obtain ⟨c, rfl⟩ : ∃ c, k = c + 1 := ⟨k - 1, by omega⟩
  obtain ⟨_, m, _, _, _, h4, _⟩ := B.or c e h
  rw [h4]; simp

theorem Net.app_mono {P W : Type} (N : Net P W) (u : W) {a b : Lab} (h : Lab.le (N.kp u) a b) (d : Nat) : Lab.le d (N.app u a) (N.app u b) := by
  intro j _
  simp only [Net.app]
  refine ⟨?_, fun x => ?_⟩
  · by_cases h1 : j < N.kp u
    · rw [if_pos h1, if_pos h1]; exact (h j (by omega)).1
    · rw [if_neg h1, if_neg h1]
      by_cases h2 : j = N.kp u
      · rw [if_pos h2, if_pos h2]; have := (h j (by omega)).1; omega
      · rw [if_neg h2, if_neg h2]; exact Nat.le_refl _
  · have := (h j (by omega)).2 (by omega); omega

/-- what was found by a later one was found by an elder one before -/
theorem BInv.elder (B : BInv g fr st Q i j) (G : GOK g) (hf : (g.dep fr).isSome) {a b c : Nat} {e f h : Ent} {m : Mv Pt Wid} (he : Q[a]? = some e) (hg : Q[b]? = some f) (hab : a < b) (hat : e.at' = f.at') (hc : Q[c]? = some h) (hm : h.mv = m :: f.mv)
    {v : Way} (hv : thn e.w (g.mw m) = (v, 0)) : ∃ a' e', Q[a']? = some e' ∧ (st ∨ a' ≠ 0) ∧ e'.at' = g.tgt m ∧ pl e'.w v (g.dp fr) = true ∧ a' < c := by
  obtain ⟨c', rfl⟩ := B.nonroot hc hm
  obtain ⟨f', m', h1, h2, h3, h4, h5, h6, h7⟩ := B.or c' h hc
  rw [hm] at h4
  injection h4 with h4 h4'
  subst h4
  obtain ⟨hb, hff⟩ := B.mv_inj G hf h1 hg h4'.symm
  subst hff
  rw [← hat] at h3
  have la : lex a h.s i j := by unfold lex at h7 ⊢; omega
  obtain ⟨a', e', k1, k2, k3, k4, k5⟩ := B.dn a h.s e m v he h3 la hv
  refine ⟨a', e', k1, k2, k3, k4, ?_⟩
  rcases k5 with k5 | k5
  · omega
  · refine Classical.byContradiction fun k => k5 ?_
    have l1 : lex a h.s h.p h.s := by unfold lex; omega
    obtain ⟨a2, rfl⟩ : ∃ a2, a' = a2 + 1 := ⟨a' - 1, by omega⟩
    by_cases ea : a2 = c'
    · subst ea
      rw [hc] at k1
      injection k1 with k1; subst k1
      exact l1
    · exact lex_trans l1 (B.inc c' a2 h e' hc k1 (by omega))

def BInv.run (B : BInv g fr st Q i j) (G : GOK g) (hf : (g.dep fr).isSome) : Run (g.net fr) where
  E := EOf Q
  tm := tmOf Q
  st := st
  tl := by
    rintro m t ⟨k, e, h, hm⟩
    obtain ⟨c, rfl⟩ := B.nonroot h hm
    obtain ⟨f, m', h1, h2, h3, h4, h5, h6, h7⟩ := B.or c e h
    rw [hm] at h4
    injection h4 with h4 h4'
    subst h4; subst h4'
    have f0 := B.form G hf _ f h1
    refine ⟨⟨_, f, h1, rfl⟩, ?_, ?_⟩
    · rw [← hm, B.tm_at G hf h, B.tm_at G hf h1]; omega
    · rw [(G.move fr (List.mem_of_getElem? h3) f0.1).1, f0.2.1]
  inj := by
    rintro l m ⟨k, e, h, rfl⟩ ⟨k', e', h', rfl⟩ ht
    rw [B.tm_at G hf h, B.tm_at G hf h'] at ht
    subst ht
    rw [h] at h'; injection h' with h'; rw [h']
  un := by
    rintro l m ⟨k, e, h, rfl⟩ ⟨k', e', h', rfl⟩ hs he ht hl
    rw [B.tm_at G hf h, B.tm_at G hf h'] at ht
    obtain ⟨_, e2, e3, _⟩ := B.form G hf k e h
    obtain ⟨_, f2, f3, _⟩ := B.form G hf k' e' h'
    rw [e2, f2] at he
    have u := B.un k k' e e' h h' ht he (hs.imp id fun hn hk => hn (by subst hk; rw [B.root] at h; injection h with h; subst h; rfl))
    rw [← he] at f3
    rw [e2] at hl
    have := (e3.leq f3).2 hl
    unfold pl at u
    rw [this] at u; simp at u
  aw := by
    rintro x y u ⟨a, e, h, rfl⟩ ⟨b, f, h', rfl⟩ he ht ⟨c, k, hc, hm⟩ hl
    rw [B.tm_at G hf h, B.tm_at G hf h'] at ht
    obtain ⟨e1, e2, e3, _⟩ := B.form G hf a e h
    obtain ⟨f1, f2, f3, _⟩ := B.form G hf b f h'
    rw [e2, f2] at he
    obtain ⟨c', hc'⟩ := B.nonroot hc hm
    subst hc'
    obtain ⟨f', m', h1, h2, h3, h4, h5, h6, h7⟩ := B.or c' k hc
    rw [hm] at h4
    injection h4 with h4 h4'
    subst h4
    obtain ⟨hb, hff⟩ := B.mv_inj G hf h1 h' h4'.symm
    subst hff
    have mv := G.move fr (List.mem_of_getElem? h3) f1
    rcases mv.2.2.2 with ⟨q, q1, _⟩ | ⟨u', u0, u1, u2, u3, u4, u5, u6, u7, u8, u9, u10, u11, u12⟩
    · simp at q1
    injection u0 with u0
    subst u0
    simp only [Gr.mw] at h6
    have kpu : (((g.net fr).kp u : Nat) : Int) = g.dp f'.at' - (g.inn u).w.leave := by
      show (((g.nodeDep u.1 - (g.inn u).w.leave).toNat : Nat) : Int) = _
      rw [← u3]; omega
    have d3 := G.dp3 (g.tgt (.w u))
    -- the elder one's step does not overflow
    have ok1 := (then_ok f3.1 u6 u7 u11).1 (by unfold thn at h6; rw [h6])
    have lw := (e3.le (he ▸ f3) (c := (g.net fr).kp u) (by rw [he]; omega)).1 hl
    have at1 := (lw _ (Nat.le_refl _)).1
    simp only [wayLab] at at1
    rw [kpu] at at1
    have p1 := (e3.1.at _ ((g.net fr).kp u)).1
    have p2 := (f3.1.at _ ((g.net fr).kp u)).1
    rw [kpu] at p1 p2
    have ok2 := (then_ok e3.1 u6 (by rw [he]; exact u7) u11).2 (by rw [he]; omega)
    obtain ⟨v, hv⟩ : ∃ v, thn e.w (g.inn u).w = (v, 0) := ⟨(thn e.w (g.inn u).w).1, by rw [← ok2]; rfl⟩
    have ev := e3.step u6 (by rw [he]; exact u7) u10 u11 u12 (by rw [he, ← u9]; exact d3.2) hv (c := (g.net fr).kp u) (by rw [he]; exact kpu)
    have fv := f3.step u6 u7 u10 u11 u12 (by rw [← u9]; exact d3.2) h6 (c := (g.net fr).kp u) kpu
    rw [he, ← u9] at ev
    rw [← u9] at fv
    obtain ⟨a', e', k1, k2, k3, k4, k5⟩ := B.elder G hf h h' ht he hc hm (m := .w u) (v := v) hv
    obtain ⟨_, x2, x3, _⟩ := B.form G hf a' e' k1
    rw [k3] at x3
    have l1 := (x3.leq ev).1 k4
    have l2 := (g.net fr).app_mono u hl (g.dp (g.tgt (.w u))).toNat
    have l3 := (x3.leq fv).2 (Lab.le_trans l1 l2)
    have un := B.un a' (c' + 1) e' k k1 hc k5 (by rw [k3, h5]) k2
    unfold pl at un
    rw [l3] at un; simp at un
  ed := by
    rintro x y o q ⟨a, e, h, rfl⟩ ⟨b, f, h', rfl⟩ he ht ⟨c, k, hc, hm⟩
    rw [B.tm_at G hf h, B.tm_at G hf h'] at ht
    obtain ⟨e1, e2, e3, _⟩ := B.form G hf a e h
    obtain ⟨f1, f2, f3, _⟩ := B.form G hf b f h'
    rw [e2, f2] at he
    obtain ⟨a', e', k1, k2, k3, k4, k5⟩ := B.elder G hf h h' ht he hc hm (m := .e o q) (v := e.w) (then_id e3.1)
    obtain ⟨_, x2, x3, _⟩ := B.form G hf a' e' k1
    obtain ⟨c', hc'⟩ := B.nonroot hc hm
    subst hc'
    obtain ⟨f', m', h1, h2, h3, h4, h5, h6, h7⟩ := B.or c' k hc
    rw [hm] at h4
    injection h4 with h4 h4'
    subst h4
    obtain ⟨hb, hff⟩ := B.mv_inj G hf h1 h' h4'.symm
    subst hff
    have mv := G.move fr (List.mem_of_getElem? h3) f1
    rcases mv.2.2.2 with ⟨q', q1, q2, q3, _⟩ | ⟨u', u0, _⟩
    · injection q1 with q0 q1
      subst q1
      refine ⟨e'.mv, ⟨a', e', k1, rfl⟩, k2.imp id (fun z => B.root_mv k1 z), ?_, by rw [x2, k3]; rfl, ?_⟩
      · rw [← hm, B.tm_at G hf k1, B.tm_at G hf hc]; exact k5
      · simp only [Gr.tgt] at k3
        rw [k3, q3, ← he] at x3
        have := (x3.leq e3).1 k4
        rw [he, ← q3] at this
        exact this
    · simp at u0
  kw := by
    rintro u y ⟨c, k, hc, hm⟩
    obtain ⟨c', hc'⟩ := B.nonroot hc hm
    subst hc'
    obtain ⟨f', m', h1, h2, h3, h4, h5, h6, h7⟩ := B.or c' k hc
    rw [hm] at h4
    injection h4 with h4 h4'
    subst h4
    obtain ⟨f1, f2, f3, _⟩ := B.form G hf _ f' h1
    have mv := G.move fr (List.mem_of_getElem? h3) f1
    have d3 := G.dp3 f'.at'
    rcases mv.2.2.2 with ⟨q, q1, _⟩ | ⟨u', u0, u1, u2, u3, u4, u5, u6, u7, _⟩
    · simp at q1
    · injection u0 with u0
      subst u0
      show (g.nodeDep u.1 - (g.inn u).w.leave).toNat ≤ (g.dp ((g.net fr).win u)).toNat ∧ (g.nodeDep u.1 - (g.inn u).w.leave).toNat ≤ 3
      rw [u2, ← u3]; omega
  zero := by
    rintro u y ⟨c, k, hc, hm⟩ hz
    obtain ⟨c', hc'⟩ := B.nonroot hc hm
    subst hc'
    obtain ⟨f', m', h1, h2, h3, h4, h5, h6, h7⟩ := B.or c' k hc
    rw [hm] at h4
    injection h4 with h4 h4'
    subst h4
    obtain ⟨f1, f2, f3, _⟩ := B.form G hf _ f' h1
    have mv := G.move fr (List.mem_of_getElem? h3) f1
    rcases mv.2.2.2 with ⟨q, q1, _⟩ | ⟨u', u0, u1, u2, u3, u4, u5, u6, u7, u8, _⟩
    · simp at q1
    · injection u0 with u0
      subst u0
      change (g.nodeDep u.1 - (g.inn u).w.leave).toNat = 0 at hz
      show (g.inn u).w.add.toNat = 0
      rw [u8 (by omega)]; rfl
  d3 := by
    intro p
    have := G.dp3 p
    show (g.dp p).toNat ≤ 3
    omega
end
end Go.Proofs.Yteklohamkmiphaa
namespace Go.Proofs.Yteklohamkmiphaa
open Go.RowKit

theorem dedup_ex {α : Type} [DecidableEq α] : ∀ l : List α, ∃ U : List α, U.Nodup ∧ ∀ x, x ∈ U ↔ x ∈ l
  | [] => ⟨[], List.nodup_nil, fun _ => Iff.rfl⟩
  | a :: T => by
    obtain ⟨U, u1, u2⟩ := dedup_ex T
    by_cases ha : a ∈ U
    · exact ⟨U, u1, fun x => by rw [u2 x, List.mem_cons]; constructor; exact .inr; rintro (rfl | h); exact (u2 _).1 ha; exact h⟩
    · exact ⟨a :: U, List.nodup_cons.2 ⟨ha, u1⟩, fun x => by rw [List.mem_cons, List.mem_cons, u2 x]⟩

/-- at most 60 nodes, edges and ways -/
def GFew (g : Gr) : Prop := ∃ E : List (Pt × Pt), (∀ e, e ∈ g.edges → e ∈ E) ∧ g.nodes.length + E.length + sumOn (fun n => n.inner.length) g.nodes ≤ 60

def Gr.ids (g : Gr) : List Wid := g.nodes.zipIdx.flatMap (fun x => (List.range x.1.inner.length).map (fun k => (x.2, k)))
theorem ids_len (l : List Nd) (a : Nat) : ((l.zipIdx a).flatMap (fun x => (List.range x.1.inner.length).map (fun k => (x.2, k)))).length = sumOn (fun n => n.inner.length) l := by
  induction l generalizing a with
  | nil => rfl
  | cons n l ih => rw [List.zipIdx_cons, List.flatMap_cons, List.length_append, ih, sumOn_cons, List.length_map, List.length_range]
theorem Gr.mem_ids {g : Gr} {u : Wid} {n : Nd} (h : g.nodes[u.1]? = some n) (h2 : u.2 < n.inner.length) : u ∈ g.ids := by
  unfold Gr.ids
  refine List.mem_flatMap.2 ⟨(n, u.1), List.mem_zipIdx_iff_getElem?.2 h, List.mem_map.2 ⟨u.2, List.mem_range.2 h2, rfl⟩⟩

def Gr.ports (g : Gr) : List Pt := (List.range g.nodes.length).flatMap (fun (n : Nat) => (List.range 8).map (fun (p : Nat) => ⟨n, false, p⟩))
theorem ports_len (k : Nat) : ((List.range k).flatMap (fun (n : Nat) => (List.range 8).map (fun (p : Nat) => (⟨n, false, p⟩ : Pt)))).length = 8 * k := by
  induction k with
  | zero => rfl
  | succ k ih => rw [List.range_succ (n := k), List.flatMap_append, List.length_append, ih]; simp; omega
theorem GOK.mem_ports {g : Gr} (G : GOK g) {q : Pt} (h : (g.dep q).isSome) (ho : q.o = false) : q ∈ g.ports := by
  unfold Gr.dep at h
  cases hn : g.nd q.n with
  | none => rw [hn] at h; simp at h
  | some nd =>
    rw [hn] at h
    obtain ⟨nm, n0, ng⟩ := Gr.nd_mem hn
    have n8 := (G.nd nd nm).2.2
    simp only [ho] at h
    have hp : 0 ≤ q.p ∧ q.p < nd.ins := by
      split at h
      · simp at h
      · split at h
        · exact absurd ‹false = true› (by simp)
        · split at h
          · omega
          · simp at h
    have nl := (List.getElem?_eq_some_iff.1 ng).1
    unfold Gr.ports
    refine List.mem_flatMap.2 ⟨q.n.toNat, List.mem_range.2 nl, List.mem_map.2 ⟨q.p.toNat, List.mem_range.2 (by omega), ?_⟩⟩
    obtain ⟨a, b, c⟩ := q
    simp only at ho n0 hp ⊢
    rw [ho, show ((a.toNat : Nat) : Int) = a by omega, show ((c.toNat : Nat) : Int) = c by omega]

section
variable {g : Gr} {fr : Pt} {st : Prop} {Q : List Ent} {i j : Nat}

/-- how many edges lead to an input -/
def inDeg (E : List (Pt × Pt)) (q : Pt) : Nat := (E.filter (fun e => decide (e.2 = q))).length
def feedOf (E : List (Pt × Pt)) (fr q : Pt) : Option Pt := if q ≠ fr ∧ inDeg E q = 1 then (E.find? (fun e => decide (e.2 = q))).map (fun e => e.1) else none

theorem feed_some {E : List (Pt × Pt)} {q o : Pt} (h : feedOf E fr q = some o) : q ≠ fr ∧ (o, q) ∈ E ∧ ∀ o', (o', q) ∈ E → o' = o := by
  unfold feedOf at h
  split at h
  · rename_i hc
    cases hf : E.find? (fun e => decide (e.2 = q)) with
    | none => rw [hf] at h; simp at h
    | some e =>
      rw [hf] at h
      simp only [Option.map_some, Option.some.injEq] at h
      have e1 := List.mem_of_find?_eq_some hf
      have e2 : e.2 = q := by have := List.find?_some hf; exact of_decide_eq_true this
      have ee : e = (o, q) := by rw [← h, ← e2]
      rw [ee] at e1
      refine ⟨hc.1, e1, fun o' ho' => ?_⟩
      have l1 := hc.2
      unfold inDeg at l1
      obtain ⟨a, ha⟩ := List.length_eq_one_iff.1 l1
      have m1 : (o, q) ∈ E.filter (fun e => decide (e.2 = q)) := List.mem_filter.2 ⟨e1, by simp⟩
      have m2 : (o', q) ∈ E.filter (fun e => decide (e.2 = q)) := List.mem_filter.2 ⟨ho', by simp⟩
      rw [ha] at m1 m2
      simp at m1 m2
      rw [← m1] at m2
      exact (Prod.mk.inj m2).1
  · simp at h
theorem feed_none {E : List (Pt × Pt)} {q : Pt} (h : feedOf E fr q = none) : q = fr ∨ inDeg E q ≠ 1 := by
  unfold feedOf at h
  by_cases hc : q ≠ fr ∧ inDeg E q = 1
  · rw [if_pos hc] at h
    have l1 := hc.2
    unfold inDeg at l1
    obtain ⟨a, ha⟩ := List.length_eq_one_iff.1 l1
    have m : a ∈ E.filter (fun e => decide (e.2 = q)) := by rw [ha]; simp
    have m := List.mem_filter.1 m
    have := List.find?_eq_none.1 (Option.map_eq_none_iff.1 h) a m.1
    exact absurd m.2 this
  · by_cases h1 : q = fr
    · exact .inl h1
    · exact .inr fun h2 => hc ⟨h1, h2⟩
theorem deg_pos {E : List (Pt × Pt)} {o q : Pt} (h : (o, q) ∈ E) : 1 ≤ inDeg E q := by
  unfold inDeg
  exact List.length_pos_iff.2 (List.ne_nil_of_mem (List.mem_filter.2 ⟨h, by simp⟩))

/-- of each entry's move: an edge, or a way -/
theorem BInv.ent_move (B : BInv g fr st Q i j) (G : GOK g) (hf : (g.dep fr).isSome) {m : Mv Pt Wid} {t : List (Mv Pt Wid)} (h : EOf Q (m :: t)) : ∃ f : Ent, EOf Q t ∧ f.mv = t ∧ m ∈ g.mvs f.at' ∧ (g.dep f.at').isSome ∧ (g.net fr).endp t = f.at' := by
  obtain ⟨k, e, h, hm⟩ := h
  obtain ⟨c, rfl⟩ := B.nonroot h hm
  obtain ⟨f, m', h1, h2, h3, h4, h5, h6, h7⟩ := B.or c e h
  rw [hm] at h4
  injection h4 with h4 h4'
  subst h4
  obtain ⟨f1, f2, _⟩ := B.form G hf _ f h1
  exact ⟨f, ⟨_, f, h1, h4'.symm⟩, h4'.symm, List.mem_of_getElem? h3, f1, by rw [h4']; exact f2⟩

theorem nodup_map {α β : Type} {f : α → β} {l : List α} (h : l.Nodup) (inj : ∀ x ∈ l, ∀ y ∈ l, f x = f y → x = y) : (l.map f).Nodup := by
  refine List.nodup_iff_pairwise_ne.2 (List.pairwise_map.2 ?_)
  refine (List.nodup_iff_pairwise_ne.1 h).imp_of_mem ?_
  intro a b ha hb hab e
  exact hab (inj a ha b hb e)

theorem GOK.lists (G : GOK g) (hf : (g.dep fr).isSome) (F : GFew g) : ∃ ws eds outs qs, ∀ (st : Prop) (Q : List Ent) (i j : Nat) (B : BInv g fr st Q i j), (B.run G hf).Lists ws eds outs qs (feedOf eds fr) (fun p => ! p.o) g.nodes.length := by
  obtain ⟨E, hE, hc⟩ := F
  obtain ⟨U, u1, u2⟩ := dedup_ex g.edges
  obtain ⟨outs, o1, o2⟩ := dedup_ex (U.map (fun e => e.1))
  obtain ⟨qs, q1, q2⟩ := dedup_ex ((fr :: U.map (fun e => e.2)).filter (fun q => ! q.o && decide (q = fr ∨ 2 ≤ inDeg U q)))
  obtain ⟨ws, hws⟩ : ∃ ws, ws = g.ids.filter (fun u => decide ((g.net fr).win u = fr) || decide (1 ≤ inDeg U ((g.net fr).win u))) := ⟨_, rfl⟩
  have uo : ∀ e, e ∈ U → e.1.o = true ∧ e.2.o = false ∧ (g.dep e.2).isSome := fun e he => by
    obtain ⟨a, b, d, c1, c2⟩ := G.ed e ((u2 e).1 he)
    exact ⟨a, b, by rw [c2]; rfl⟩
  have uoo : ∀ o q, (o, q) ∈ U → o.o = true := fun o q h => (uo _ h).1
  -- an input that edges lead to, and that is not single
  have toq : ∀ q, q.o = false → feedOf U fr q = none → (q = fr ∨ 1 ≤ inDeg U q) → q ∈ qs := by
    intro q qo qn hq
    refine (q2 q).2 (List.mem_filter.2 ⟨?_, ?_⟩)
    · rcases hq with hq | hq
      · rw [hq]; exact List.mem_cons_self
      · refine List.mem_cons_of_mem _ ?_
        unfold inDeg at hq
        obtain ⟨a, ha⟩ := List.exists_mem_of_length_pos hq
        have ha := List.mem_filter.1 ha
        exact List.mem_map.2 ⟨a, ha.1, of_decide_eq_true ha.2⟩
    · rw [qo]
      simp only [Bool.not_false, Bool.true_and, decide_eq_true_eq]
      rcases hq with hq | hq
      · exact .inl hq
      · rcases feed_none qn with h | h
        · exact .inl h
        · exact .inr (by omega)
  have ofq : ∀ q, q ∈ qs → q.o = false ∧ (q = fr ∨ 2 ≤ inDeg U q) ∧ (g.dep q).isSome := by
    intro q hq
    have h := List.mem_filter.1 ((q2 q).1 hq)
    have h2 := h.2
    simp only [Bool.and_eq_true, Bool.not_eq_true', decide_eq_true_eq] at h2
    refine ⟨h2.1, h2.2, ?_⟩
    rcases List.mem_cons.1 h.1 with h | h
    · rw [h]; exact hf
    · obtain ⟨e, he, rfl⟩ := List.mem_map.1 h
      exact (uo e he).2.2
  have wsi : ∀ u, u ∈ ws → (g.net fr).win u = fr ∨ 1 ≤ inDeg U ((g.net fr).win u) := by
    intro u hu
    rw [hws] at hu
    have := (List.mem_filter.1 hu).2
    simp only [Bool.or_eq_true, decide_eq_true_eq] at this
    exact this
  have C : Cost (g.net fr) ws U outs qs (feedOf U fr) (fun p => ! p.o) g.nodes.length := by
    refine ⟨o1, q1, fun o ho => ?_, fun q hq => ?_, fun e he => ?_, fun e he hn => ?_, fun q o h => ?_, fun q hq => ?_, fun x hx => ?_, ?_, ?_⟩
    · obtain ⟨e, he, rfl⟩ := List.mem_map.1 ((o2 o).1 ho)
      simp [(uo e he).1]
    · simp [(ofq q hq).1]
    · exact (o2 _).2 (List.mem_map.2 ⟨e, he, rfl⟩)
    · exact toq e.2 (uo e he).2.1 hn (.inr (deg_pos (o := e.1) he))
    · have := (feed_some h).2.1
      exact ⟨this, by simp [uoo _ _ this]⟩
    · have h := ofq q hq
      refine ⟨?_, h.2.1⟩
      cases hn : feedOf U fr q with
      | none => rfl
      | some o =>
        obtain ⟨a, b, c⟩ := feed_some hn
        unfold feedOf at hn
        split at hn
        · rename_i k; rcases h.2.1 with e | e
          · exact absurd e a
          · omega
        · simp at hn
    · exact ⟨rfl, fun hn => toq _ rfl hn (wsi x hx)⟩
    · have h1 : U.length ≤ E.length := nodup_le u1 fun e he => hE e ((u2 e).1 he)
      have h2 : ws.length ≤ g.ids.length := by rw [hws]; exact List.length_filter_le _ _
      have h3 : g.ids.length = sumOn (fun n => n.inner.length) g.nodes := ids_len g.nodes 0
      omega
    · have h1 : ((U.filter (fun e => ! decide (feedOf U fr e.2 = none))).map (fun e => e.2) ++ qs).Nodup := by
        rw [List.nodup_append]
        refine ⟨nodup_map (u1.filter _) ?_, q1, ?_⟩
        · intro x hx y hy e
          have hx := List.mem_filter.1 hx
          have hy := List.mem_filter.1 hy
          cases hn : feedOf U fr x.2 with
          | none => have h2 := hx.2; rw [hn] at h2; simp at h2
          | some o =>
            obtain ⟨_, _, c⟩ := feed_some hn
            have c1 := c x.1 hx.1
            have c2 := c y.1 (by rw [e]; exact hy.1)
            exact Prod.ext (by rw [c1, c2]) e
        · intro a ha b hb e
          obtain ⟨x, hx, rfl⟩ := List.mem_map.1 ha
          have hx := List.mem_filter.1 hx
          subst e
          have h := (ofq _ hb).2.1
          cases hn : feedOf U fr x.2 with
          | none => have h2 := hx.2; rw [hn] at h2; simp at h2
          | some o =>
            obtain ⟨a, _, _⟩ := feed_some hn
            unfold feedOf at hn
            split at hn
            · rcases h with e | e
              · exact absurd e a
              · omega
            · simp at hn
      have h2 := nodup_le h1 (O := g.ports) fun q hq => by
        rcases List.mem_append.1 hq with hq | hq
        · obtain ⟨x, hx, rfl⟩ := List.mem_map.1 hq
          have hx := (List.mem_filter.1 hx).1
          exact G.mem_ports (uo x hx).2.2 (uo x hx).2.1
        · exact G.mem_ports (ofq q hq).2.2 (ofq q hq).1
      rw [List.length_append, List.length_map] at h2
      have h3 : g.ports.length = 8 * g.nodes.length := ports_len _
      omega
  refine ⟨ws, U, outs, qs, fun st Q i j B => ?_⟩
  -- ways that are gone
  have wm : ∀ x t, (B.run G hf).E (.w x :: t) → x ∈ ws := by
    intro x t h
    obtain ⟨f, f0, f1, f2, f3, f4⟩ := B.ent_move G hf h
    have mv := G.move fr f2 f3
    rcases mv.2.2.2 with ⟨q, q1, _⟩ | ⟨u', h0, hfo, h2, _, _, ⟨n, n1, n2⟩, _⟩
    · simp at q1
    injection h0 with h0
    subst h0
    rw [hws]
    refine List.mem_filter.2 ⟨Gr.mem_ids n1 n2, ?_⟩
    simp only [Bool.or_eq_true, decide_eq_true_eq]
    rw [h2, ← f4]
    cases t with
    | nil => exact .inl rfl
    | cons m t =>
      right
      obtain ⟨f', _, _, g2, g3, g4⟩ := B.ent_move G hf f0
      have mv' := G.move fr g2 g3
      rcases mv'.2.2.2 with ⟨q, p1, p2, _⟩ | ⟨u', h0', h1', _⟩
      · subst p1
        exact deg_pos ((u2 _).2 p2)
      · -- two ways one behind the other: no
        subst h0'
        have e1 : f.at'.o = true := by rw [← f4]; rfl
        rw [e1] at hfo; simp at hfo
  have em : ∀ o q t, (B.run G hf).E (.e o q :: t) → (o, q) ∈ U := by
    intro o q t h
    obtain ⟨f, f0, f1, f2, f3, f4⟩ := B.ent_move G hf h
    have mv := G.move fr f2 f3
    rcases mv.2.2.2 with ⟨q', p1, p2, _⟩ | ⟨u', h0, _⟩
    · injection p1 with p0 p1
      subst p0; subst p1
      exact (u2 _).2 p2
    · simp at h0
  have sg : ∀ o q, feedOf U fr q = some o → (B.run G hf).Single o q := by
    intro o q h
    obtain ⟨a, b, c⟩ := feed_some h
    refine ⟨a, fun m t hm he => ?_⟩
    cases m with
    | e o' q' =>
      simp only [Net.endp] at he
      subst he
      rw [c o' (em _ _ _ hm)]
    | w x =>
      simp only [Net.endp] at he
      have := (uo _ b).2.1
      rw [← he] at this
      change true = false at this
      simp at this
  refine ⟨⟨wm, fun x hx => ?_, fun x y h => ?_⟩, ⟨wm, em, fun o q h => ⟨(o2 _).2 (List.mem_map.2 ⟨_, h, rfl⟩), by simp [uoo _ _ h]⟩, C.wi, sg⟩, C, fun e he => by simp [(uo e he).2.1], fun x _ => rfl⟩
  · unfold keyOf
    cases hn : feedOf U fr ((g.net fr).win x) with
    | none => exact List.mem_append_right _ ((C.wi x hx).2 hn)
    | some o => exact List.mem_append_left _ ((o2 _).2 (List.mem_map.2 ⟨_, (feed_some hn).2.1, rfl⟩))
  · unfold keyOf at h
    cases hx : feedOf U fr ((g.net fr).win x) with
    | none =>
      cases hy : feedOf U fr ((g.net fr).win y) with
      | none => rw [hx, hy] at h; exact .inl h
      | some o =>
        exfalso
        rw [hx, hy] at h
        simp only [Option.getD_none, Option.getD_some] at h
        have := (uo _ (feed_some hy).2.1).1
        rw [← h] at this
        change false = true at this
        simp at this
    | some o =>
      cases hy : feedOf U fr ((g.net fr).win y) with
      | none =>
        exfalso
        rw [hx, hy] at h
        simp only [Option.getD_none, Option.getD_some] at h
        have := (uo _ (feed_some hx).2.1).1
        rw [h] at this
        change false = true at this
        simp at this
      | some o' =>
        rw [hx, hy] at h
        simp only [Option.getD_some] at h
        subst h
        exact .inr ⟨_, sg _ _ hx, sg _ _ hy⟩
end
end Go.Proofs.Yteklohamkmiphaa
namespace Go.Proofs.Yteklohamkmiphaa
open Go.RowKit
section
variable {g : Gr} {fr : Pt} {st : Prop} {Q : List Ent} {i j : Nat}

theorem lex_step {p s i j : Nat} : lex p s i (j + 1) ↔ lex p s i j ∨ (p = i ∧ s = j) := by unfold lex; omega

theorem BInv.pass (B : BInv g fr st Q i j) (h : ∀ f m v, Q[i]? = some f → (g.mvs f.at')[j]? = some m → thn f.w (g.mw m) = (v, 0) → ∃ a e, Q[a]? = some e ∧ (st ∨ a ≠ 0) ∧ e.at' = g.tgt m ∧ pl e.w v (g.dp fr) = true ∧ (a = 0 ∨ ¬ lex i j e.p e.s)) : BInv g fr st Q i (j + 1) := by
  refine ⟨B.root, fun k e he => ?_, B.inc, B.un, fun p s f m v h1 h2 h3 h4 => ?_⟩
  · obtain ⟨f, m, a1, a2, a3, a4, a5, a6, a7⟩ := B.or k e he
    exact ⟨f, m, a1, a2, a3, a4, a5, a6, lex_step.2 (.inl a7)⟩
  · rcases lex_step.1 h3 with h3 | ⟨rfl, rfl⟩
    · exact B.dn p s f m v h1 h2 h3 h4
    · exact h f m v h1 h2 h4

/-- a step that cannot be gone -/
theorem BInv.off (B : BInv g fr st Q i j) {f : Ent} {m : Mv Pt Wid} (hf : Q[i]? = some f) (hm : (g.mvs f.at')[j]? = some m) (h : (thn f.w (g.mw m)).2 ≠ 0) : BInv g fr st Q i (j + 1) :=
  B.pass fun f' m' v h1 h2 h3 => by
    rw [hf] at h1; injection h1 with h1; subst h1
    rw [hm] at h2; injection h2 with h2; subst h2
    rw [h3] at h; exact absurd rfl h

theorem BInv.now (B : BInv g fr st Q i j) {a : Nat} {e : Ent} (h : Q[a]? = some e) : a = 0 ∨ lex e.p e.s i j := by
  cases a with
  | zero => exact .inl rfl
  | succ a => obtain ⟨f, m, _, _, _, _, _, _, a7⟩ := B.or a e h; exact .inr a7

/-- a step to where something at least as early stands -/
theorem BInv.skip (B : BInv g fr st Q i j) {f : Ent} {m : Mv Pt Wid} {v : Way} (hf : Q[i]? = some f) (hm : (g.mvs f.at')[j]? = some m) (hv : thn f.w (g.mw m) = (v, 0))
    {a : Nat} {e : Ent} (h1 : Q[a]? = some e) (h2 : st ∨ a ≠ 0) (h3 : e.at' = g.tgt m) (h4 : pl e.w v (g.dp fr) = true) : BInv g fr st Q i (j + 1) :=
  B.pass fun f' m' v' k1 k2 k3 => by
    rw [hf] at k1; injection k1 with k1; subst k1
    rw [hm] at k2; injection k2 with k2; subst k2
    rw [hv] at k3; injection k3 with k3 _; subst k3
    refine ⟨a, e, h1, h2, h3, h4, ?_⟩
    rcases B.now h1 with h | h
    · exact .inl h
    · exact .inr fun c => lex_irrefl (lex_trans h c)

/-- a step to something new -/
theorem BInv.push (B : BInv g fr st Q i j) (G : GOK g) (hd : (g.dep fr).isSome) {f : Ent} {m : Mv Pt Wid} {v : Way} (hf : Q[i]? = some f) (hm : (g.mvs f.at')[j]? = some m) (hv : thn f.w (g.mw m) = (v, 0))
    (h : ∀ a e, Q[a]? = some e → (st ∨ a ≠ 0) → e.at' = g.tgt m → pl e.w v (g.dp fr) = false) : BInv g fr st (Q ++ [⟨m :: f.mv, g.tgt m, v, i, j⟩]) i (j + 1) := by
  have hi : i < Q.length := (List.getElem?_eq_some_iff.1 hf).1
  have old : ∀ {k : Nat} {e : Ent}, Q[k]? = some e → (Q ++ [⟨m :: f.mv, g.tgt m, v, i, j⟩])[k]? = some e := fun {k e} hk => by
    rw [List.getElem?_append_left (List.getElem?_eq_some_iff.1 hk).1]; exact hk
  have new : (Q ++ [⟨m :: f.mv, g.tgt m, v, i, j⟩])[Q.length]? = some ⟨m :: f.mv, g.tgt m, v, i, j⟩ := by simp
  have of : ∀ {k : Nat} {e : Ent}, (Q ++ [⟨m :: f.mv, g.tgt m, v, i, j⟩])[k]? = some e → Q[k]? = some e ∨ k = Q.length ∧ e = ⟨m :: f.mv, g.tgt m, v, i, j⟩ := fun {k e} hk => by
    by_cases c : k < Q.length
    · rw [List.getElem?_append_left c] at hk; exact .inl hk
    · have hl := (List.getElem?_eq_some_iff.1 hk).1
      simp at hl
      have : k = Q.length := by omega
      subst this
      rw [new] at hk; injection hk with hk; exact .inr ⟨rfl, hk.symm⟩
  -- from where, then: no other one
  obtain ⟨hf0, hf2, hf3, _⟩ := B.form G hd i f hf
  refine ⟨old B.root, fun k e he => ?_, fun a b e e' h1 h2 h3 => ?_, fun a b e e' h1 h2 h3 h4 h5 => ?_, fun p s f' m' v' h1 h2 h3 h4 => ?_⟩
  · rcases of he with he | ⟨hk, rfl⟩
    · obtain ⟨f', m', a1, a2, a3, a4, a5, a6, a7⟩ := B.or k e he
      exact ⟨f', m', old a1, a2, a3, a4, a5, a6, lex_step.2 (.inl a7)⟩
    · exact ⟨f, m, old hf, by simp only; omega, hm, rfl, rfl, hv, lex_step.2 (.inr ⟨rfl, rfl⟩)⟩
  · rcases of h1 with h1 | ⟨k1, rfl⟩
    · rcases of h2 with h2 | ⟨k2, rfl⟩
      · exact B.inc a b e e' h1 h2 h3
      · rcases B.now h1 with h | h
        · omega
        · exact h
    · rcases of h2 with h2 | ⟨k2, rfl⟩
      · have := (List.getElem?_eq_some_iff.1 h2).1; omega
      · omega
  · rcases of h1 with h1 | ⟨k1, rfl⟩
    · rcases of h2 with h2 | ⟨k2, rfl⟩
      · exact B.un a b e e' h1 h2 h3 h4 h5
      · exact h a e h1 h5 h4
    · rcases of h2 with h2 | ⟨k2, rfl⟩
      · have := (List.getElem?_eq_some_iff.1 h2).1; omega
      · omega
  · have hp : Q[p]? = some f' := by
      rcases of h1 with h1 | ⟨k1, rfl⟩
      · exact h1
      · rcases lex_step.1 h3 with c | c
        · unfold lex at c; omega
        · omega
    rcases lex_step.1 h3 with h3 | ⟨rfl, rfl⟩
    · obtain ⟨a, e, b1, b2, b3, b4, b5⟩ := B.dn p s f' m' v' hp h2 h3 h4
      exact ⟨a, e, old b1, b2, b3, b4, b5⟩
    · rw [hf] at hp; injection hp with hp; subst hp
      rw [hm] at h2; injection h2 with h2; subst h2
      rw [hv] at h4; injection h4 with h4 _; subst h4
      refine ⟨Q.length, _, new, .inr (by omega), rfl, ?_, .inr fun c => lex_irrefl c⟩
      have mv := G.move fr (List.mem_of_getElem? hm) hf0
      have gw : ∃ p, GoodW (g.dp fr) p v := by
        rcases mv.2.2.2 with ⟨q, rfl, _⟩ | ⟨u, rfl, _, _, _, _, _, u6, u7, u8, u9, u10, u11, u12⟩
        · simp only [Gr.mw] at hv
          rw [then_id hf3.1] at hv
          injection hv with hv _
          exact ⟨_, hv ▸ hf3.1⟩
        · have d := G.dp3 (g.tgt (.w u))
          exact ⟨_, (then_at hf3.1 u6 u7 u10 u11 u12 (by rw [← u9]; exact d.2) hv).1⟩
      obtain ⟨p, gw⟩ := gw
      exact (leq_lab gw gw).2 (Lab.le_refl _ _)

/-- all steps of one place are done -/
theorem BInv.next (B : BInv g fr st Q i j) {f : Ent} (hf : Q[i]? = some f) (hj : (g.mvs f.at').length ≤ j) : BInv g fr st Q (i + 1) 0 := by
  refine ⟨B.root, fun k e he => ?_, B.inc, B.un, fun p s f' m v h1 h2 h3 h4 => ?_⟩
  · obtain ⟨f, m, a1, a2, a3, a4, a5, a6, a7⟩ := B.or k e he
    exact ⟨f, m, a1, a2, a3, a4, a5, a6, by unfold lex at a7 ⊢; omega⟩
  · refine B.dn p s f' m v h1 h2 ?_ h4
    unfold lex at h3 ⊢
    by_cases c : p = i
    · subst c
      rw [hf] at h1; injection h1 with h1; subst h1
      have := (List.getElem?_eq_some_iff.1 h2).1
      omega
    · omega

theorem BInv.mono (B : BInv g fr st Q i j) : ∀ (a b : Nat) (e f : Ent), a ≤ b → Q[a]? = some e → Q[b]? = some f → e.mv.length ≤ f.mv.length
  | 0, b, e, f, _, h1, _ => by rw [B.root] at h1; injection h1 with h1; subst h1; simp
  | a + 1, 0, e, f, h, _, _ => by omega
  | a + 1, b + 1, e, f, h, h1, h2 => by
    by_cases c : a = b
    · subst c; rw [h1] at h2; injection h2 with h2; rw [h2]; exact Nat.le_refl _
    · have l := B.inc a b e f h1 h2 (by omega)
      obtain ⟨e', m, a1, a2, a3, a4, _⟩ := B.or a e h1
      obtain ⟨f', m', b1, b2, b3, b4, _⟩ := B.or b f h2
      have := BInv.mono B e.p f.p e' f' (by unfold lex at l; omega) a1 b1
      rw [a4, b4]; simp; exact this
termination_by a => a
decreasing_by omega

/-- what waits -/
theorem BInv.waits (B : BInv g fr st Q i j) (G : GOK g) (hd : (g.dep fr).isSome) (F : GFew g) (hi : i < Q.length) : Q.length - (i + 1) ≤ 3462030453680 := by
  obtain ⟨ws, eds, outs, qs, A⟩ := G.lists hd F
  have A := A st Q i j B
  obtain ⟨f, hf⟩ : ∃ f, Q[i]? = some f := ⟨Q[i], List.getElem?_eq_getElem hi⟩
  -- the lengths of what waits
  have len : ∀ k e, i < k → Q[k]? = some e → e.mv.length = f.mv.length ∨ e.mv.length = f.mv.length + 1 := by
    intro k e hk he
    have h1 := B.mono i k f e (by omega) hf he
    obtain ⟨k', rfl⟩ : ∃ k', k = k' + 1 := ⟨k - 1, by omega⟩
    obtain ⟨f', m, a1, a2, a3, a4, _, _, a7⟩ := B.or k' e he
    have h2 := B.mono e.p i f' f (by unfold lex at a7; omega) a1 hf
    rw [a4] at h1 ⊢
    simp at h1 ⊢
    omega
  have pend : ∀ e, e ∈ Q.drop (i + 1) → ∃ k, i < k ∧ Q[k]? = some e := by
    intro e he
    obtain ⟨k, hk⟩ := List.getElem?_of_mem he
    rw [List.getElem?_drop] at hk
    exact ⟨i + 1 + k, by omega, hk⟩
  have nd : ((Q.drop (i + 1)).map (fun e => e.mv)).Nodup := by
    have hQ : (Q.map (fun e => e.mv)).Nodup := by
      refine List.nodup_iff_pairwise_ne.2 ?_
      rw [List.pairwise_iff_getElem]
      intro a b ha hb hab e
      simp at ha hb e
      exact B.mv_ne G hd (List.getElem?_eq_getElem ha) (List.getElem?_eq_getElem hb) hab e
    rw [List.map_drop]
    exact hQ.sublist (List.drop_sublist _ _)
  have key : ∀ l, l ∈ (Q.drop (i + 1)).map (fun e => e.mv) → EOf Q l ∧ (l.length = f.mv.length ∨ l.length = f.mv.length + 1) ∧ (((g.net fr).endp l).o = if l.length % 2 = 0 then fr.o else ! fr.o) := by
    intro l hl
    obtain ⟨e, he, rfl⟩ := List.mem_map.1 hl
    obtain ⟨k, hk, hq⟩ := pend e he
    obtain ⟨_, e2, _, e4⟩ := B.form G hd k e hq
    exact ⟨⟨k, e, hq, rfl⟩, len k e hk hq, by rw [e2]; exact e4⟩
  have sp := List.length_eq_countP_add_countP (l := (Q.drop (i + 1)).map (fun e => e.mv)) (fun l => ! ((g.net fr).endp l).o)
  rw [List.countP_eq_length_filter, List.countP_eq_length_filter, List.length_map, List.length_drop] at sp
  have w := A.waits (L := ((Q.drop (i + 1)).map (fun e => e.mv)).filter (fun l => ! ((g.net fr).endp l).o)) (M := ((Q.drop (i + 1)).map (fun e => e.mv)).filter (fun a => decide (¬ (! ((g.net fr).endp a).o) = true)))
    (n := if (if f.mv.length % 2 = 0 then fr.o else ! fr.o) = false then f.mv.length else f.mv.length + 1) (m := if (if f.mv.length % 2 = 0 then fr.o else ! fr.o) = false then f.mv.length + 1 else f.mv.length) (nd.filter _) (fun l hl => ?_) (nd.filter _) (fun l hl => ?_)
  · omega
  · have hl := List.mem_filter.1 hl
    obtain ⟨k1, k2, k3⟩ := key l hl.1
    refine ⟨k1, ?_, hl.2⟩
    have h2 : ((g.net fr).endp l).o = false := by simpa using hl.2
    rw [h2] at k3
    cases ho : fr.o <;> rw [ho] at k3 <;> rcases k2 with k2 | k2 <;> (by_cases c : f.mv.length % 2 = 0) <;> rw [k2] at k3 <;> simp [c] at k3 ⊢ <;> omega
  · have hl := List.mem_filter.1 hl
    obtain ⟨k1, k2, k3⟩ := key l hl.1
    have h2 : ((g.net fr).endp l).o = true := by simpa using hl.2
    refine ⟨k1, ?_, by simp [h2]⟩
    rw [h2] at k3
    cases ho : fr.o <;> rw [ho] at k3 <;> rcases k2 with k2 | k2 <;> (by_cases c : f.mv.length % 2 = 0) <;> rw [k2] at k3 <;> simp [c] at k3 ⊢ <;> omega

/-- there is an end -/
theorem GOK.ends (G : GOK g) (hd : (g.dep fr).isSome) (F : GFew g) : ∃ B, ∀ (st : Prop) (Q : List Ent) (i j : Nat), BInv g fr st Q i j → Q.length ≤ B := by
  obtain ⟨ws, eds, outs, qs, A⟩ := G.lists hd F
  refine ⟨endX (g.net fr) ws outs qs (feedOf eds fr) + (1 + endX (g.net fr) ws outs qs (feedOf eds fr) * eds.length), fun st Q i j B => ?_⟩
  have A := A st Q i j B
  have nd : (Q.map (fun e => e.mv)).Nodup := by
    refine List.nodup_iff_pairwise_ne.2 ?_
    rw [List.pairwise_iff_getElem]
    intro a b ha hb hab e
    simp at ha hb e
    exact B.mv_ne G hd (List.getElem?_eq_getElem ha) (List.getElem?_eq_getElem hb) hab e
  have := A.finite (Q.map (fun e => e.mv)) nd fun l hl => by
    obtain ⟨e, he, rfl⟩ := List.mem_map.1 hl
    obtain ⟨k, hk⟩ := List.getElem?_of_mem he
    exact ⟨k, e, hk, rfl⟩
  rw [List.length_map] at this
  exact this
end
end Go.Proofs.Yteklohamkmiphaa
namespace Go.Proofs.Yteklohamkmiphaa
open Go.RowKit

theorem wayLab_is {d p : Int} {w : Way} (h : GoodW d p w) : IsLab d p w (wayLab d w) := ⟨h, fun _ _ => ⟨rfl, Iff.rfl⟩⟩
theorem pl_refl {d p : Int} {w : Way} (h : GoodW d p w) : pl w w d = true := (leq_lab h h).2 (Lab.le_refl _ _)
theorem pl_trans {d p : Int} {u v w : Way} (hu : GoodW d p u) (hv : GoodW d p v) (hw : GoodW d p w) (a : pl u v d = true) (b : pl v w d = true) : pl u w d = true :=
  (leq_lab hu hw).2 (Lab.le_trans ((leq_lab hu hv).1 a) ((leq_lab hv hw).1 b))
theorem pl_anti {d p : Int} {v w : Way} (hv : GoodW d p v) (hw : GoodW d p w) (a : pl v w d = true) (b : pl w v d = true) : v = w := by
  have h1 := (leq_lab hv hw).1 a
  have h2 := (leq_lab hw hv).1 b
  have v0 := hv.l0; have v1 := hv.l1; have w0 := hw.l0; have w1 := hw.l1; have vp := hv.pe; have wp := hw.pe
  have eq : ∀ j : Nat, (j : Int) ≤ p → (placeT v.leave v.add v.enter d j).2 = (placeT w.leave w.add w.enter d j).2 := by
    intro j hj
    have c1 := (h1 j (by omega)).1
    have c2 := (h2 j (by omega)).1
    have d1 := hv.at d j
    have d2 := hw.at d j
    simp only [wayLab] at c1 c2
    omega
  have ek : v.leave = w.leave := by
    have c1 := (h1 (d - v.leave).toNat (by omega)).2
    have c2 := (h2 (d - w.leave).toNat (by omega)).2
    simp only [wayLab] at c1 c2
    omega
  have ea : v.add = w.add := by
    have := eq (d - v.leave).toNat (by omega)
    rw [placeT_eq (by omega), placeT_eq (by omega)] at this
    exact this
  have ee : v.enter = w.enter := by
    have hl : v.enter.length = w.enter.length := by omega
    refine List.ext_getElem hl fun k k1 k2 => ?_
    have := eq ((d - v.leave).toNat + 1 + k) (by omega)
    rw [placeT_gt (by omega), placeT_gt (by omega)] at this
    simp only at this
    rw [show ((((d - v.leave).toNat + 1 + k : Nat) : Int) - (d - v.leave) - 1).toNat = k by omega, show ((((d - v.leave).toNat + 1 + k : Nat) : Int) - (d - w.leave) - 1).toNat = k by omega] at this
    rw [List.getD_eq_getElem?_getD, List.getD_eq_getElem?_getD, List.getElem?_eq_getElem k1, List.getElem?_eq_getElem k2] at this
    exact this
  cases v; cases w; simp only at ek ea ee; rw [ek, ea, ee]

/-- what a move asks of a way: it is one, and leads to times of that depth -/
structure GoodB (p q : Int) (b : Way) : Prop where
  b0 : 0 ≤ b.leave
  b1 : b.leave ≤ p
  c0 : 0 ≤ b.add
  c1 : b.add ≤ 4294967295
  u : U32 b.enter
  q3 : q ≤ 3
  qe : q = p - b.leave + b.enter.length

theorem GoodB.goes {d p q : Int} {v b r : Way} (B : GoodB p q b) (hv : GoodW d p v) (h : thn v b = (r, 0)) : GoodW d q r := by
  have := then_at hv B.b0 B.b1 B.c0 B.c1 B.u (by rw [← B.qe]; exact B.q3) h
  rw [B.qe]; exact this.1
theorem GoodB.mono {d p q : Int} {v w b r : Way} (B : GoodB p q b) (hv : GoodW d p v) (hw : GoodW d p w) (l : pl v w d = true) (h : thn w b = (r, 0)) : ∃ s, thn v b = (s, 0) ∧ GoodW d q s ∧ pl s r d = true := by
  have b0 := B.b0; have b1 := B.b1; have qe := B.qe; have q3 := B.q3
  have ll := (leq_lab hv hw).1 l
  have ok1 := (then_ok hw B.b0 B.b1 B.c1).1 (by unfold thn at h; rw [h])
  obtain ⟨c, hc⟩ : ∃ c : Nat, (c : Int) = p - b.leave := ⟨(p - b.leave).toNat, by omega⟩
  have l1 := (ll c (by omega)).1
  have p1 := (hv.at _ c).1
  have p2 := (hw.at _ c).1
  simp only [wayLab] at l1
  rw [hc] at l1 p1 p2
  have ok2 := (then_ok hv B.b0 B.b1 B.c1).2 (by omega)
  have hs : thn v b = ((thn v b).1, 0) := by
    have : (thn v b).2 = 0 := ok2
    rw [← this]
  have s1 := (wayLab_is hv).step B.b0 B.b1 B.c0 B.c1 B.u (by omega) hs hc
  have s2 := (wayLab_is hw).step B.b0 B.b1 B.c0 B.c1 B.u (by omega) h hc
  rw [← qe] at s1 s2
  refine ⟨_, hs, s1.1, (s1.leq s2).2 ?_⟩
  intro j hj
  dsimp only
  refine ⟨?_, fun x => ?_⟩
  · by_cases c1 : j < c
    · rw [if_pos c1, if_pos c1]; exact (ll j (by omega)).1
    · rw [if_neg c1, if_neg c1]
      by_cases c2 : j = c
      · rw [if_pos c2, if_pos c2]; have := (ll j (by omega)).1; omega
      · rw [if_neg c2, if_neg c2]; exact Nat.le_refl _
  · have := (ll j (by omega)).2 (by omega)
    omega

theorem GOK.goodB {g : Gr} (G : GOK g) {p : Pt} {m : Mv Pt Wid} (h : m ∈ g.mvs p) (hp : (g.dep p).isSome) : GoodB (g.dp p) (g.dp (g.tgt m)) (g.mw m) ∧ (g.dep (g.tgt m)).isSome := by
  have mv := G.move p h hp
  refine ⟨?_, mv.2.1⟩
  have d := G.dp3 p
  have t := G.dp3 (g.tgt m)
  rcases mv.2.2.2 with ⟨q, rfl, q1, q2, q3⟩ | ⟨u, rfl, u1, u2, u3, u4, u5, u6, u7, u8, u9, u10, u11, u12⟩
  · exact ⟨Int.le_refl 0, d.1, Int.le_refl 0, (by decide : (0 : Int) ≤ 4294967295), fun x hx => by simp [Gr.mw, idW] at hx, t.2, by simp only [Gr.tgt, Gr.mw, idW]; rw [q2]; simp⟩
  · exact ⟨u6, u7, u10, u11, u12, t.2, u9⟩

/-- what a route comes to -/
inductive Route (g : Gr) (fr : Pt) : Pt → Way → Prop
  | nil : Route g fr fr idW
  | step {p : Pt} {w v : Way} {m : Mv Pt Wid} : Route g fr p w → m ∈ g.mvs p → thn w (g.mw m) = (v, 0) → Route g fr (g.tgt m) v
/-- of routes that are asked: with, or without, the one that does not move -/
def Found (g : Gr) (fr : Pt) (st : Prop) (q : Pt) (v : Way) : Prop := (st ∧ q = fr ∧ v = idW) ∨ ∃ p w m, Route g fr p w ∧ m ∈ g.mvs p ∧ thn w (g.mw m) = (v, 0) ∧ q = g.tgt m

theorem GOK.route {g : Gr} (G : GOK g) {fr : Pt} (hf : (g.dep fr).isSome) {q : Pt} {w : Way} (h : Route g fr q w) : (g.dep q).isSome ∧ GoodW (g.dp fr) (g.dp q) w := by
  induction h with
  | nil =>
    have d := G.dp3 fr
    exact ⟨hf, ⟨Int.le_refl 0, d.1, d.2, Int.le_refl 0, (by decide : (0 : Int) ≤ 4294967295), fun x hx => by simp [idW] at hx, by simp [idW], d.2⟩⟩
  | step r hm hv ih =>
    obtain ⟨b, t⟩ := G.goodB hm ih.1
    exact ⟨t, b.goes ih.2 hv⟩
theorem Found.route {g : Gr} {fr : Pt} {st : Prop} {q : Pt} {v : Way} (h : Found g fr st q v) : Route g fr q v := by
  rcases h with ⟨_, rfl, rfl⟩ | ⟨p, w, m, h1, h2, h3, rfl⟩
  · exact .nil
  · exact .step h1 h2 h3

/-- the least of all that is found, nothing else, of each place -/
structure Tab (g : Gr) (fr : Pt) (st : Prop) (K : Pt → List Way) : Prop where
  rt : ∀ q w, w ∈ K q → Found g fr st q w
  cl : ∀ q w, Found g fr st q w → ∃ x, x ∈ K q ∧ pl x w (g.dp fr) = true
  an : ∀ q, (K q).Pairwise (fun v w => pl v w (g.dp fr) = false ∧ pl w v (g.dp fr) = false)

theorem Tab.mem_iff {g : Gr} (G : GOK g) {fr : Pt} (hf : (g.dep fr).isSome) {st : Prop} {K L : Pt → List Way} (h1 : Tab g fr st K) (h2 : Tab g fr st L) (q : Pt) (w : Way) : w ∈ K q → w ∈ L q := by
  intro hw
  obtain ⟨x, x1, x2⟩ := h2.cl q w (h1.rt q w hw)
  obtain ⟨y, y1, y2⟩ := h1.cl q x (h2.rt q x x1)
  have gw := (G.route hf (h1.rt q w hw).route).2
  have gx := (G.route hf (h2.rt q x x1).route).2
  have gy := (G.route hf (h1.rt q y y1).route).2
  have yw := pl_trans gy gx gw y2 x2
  have eq : y = w := by
    refine Classical.byContradiction fun ne => ?_
    obtain ⟨a, ha⟩ := List.getElem?_of_mem y1
    obtain ⟨b, hb⟩ := List.getElem?_of_mem hw
    obtain ⟨a1, a2⟩ := List.getElem?_eq_some_iff.1 ha
    obtain ⟨b1, b2⟩ := List.getElem?_eq_some_iff.1 hb
    have pp := List.pairwise_iff_getElem.1 (h1.an q)
    rcases Nat.lt_trichotomy a b with c | c | c
    · have := (pp a b a1 b1 c).1; rw [a2, b2, yw] at this; simp at this
    · subst c; exact ne (by rw [← a2, ← b2])
    · have := (pp b a b1 a1 c).2; rw [a2, b2, yw] at this; simp at this
  have e2 : x = w := pl_anti gx gw x2 (eq ▸ y2)
  rw [← e2]; exact x1

/-- one table is as the other one, where both are put in the same strict order -/
theorem Tab.same {g : Gr} (G : GOK g) {fr : Pt} (hf : (g.dep fr).isSome) {st : Prop} {K L : Pt → List Way} (h1 : Tab g fr st K) (h2 : Tab g fr st L) (lt : Way → Way → Prop) (ir : ∀ a, ¬ lt a a) (tr : ∀ a b c, lt a b → lt b c → lt a c) {q : Pt} (s1 : (K q).Pairwise lt) (s2 : (L q).Pairwise lt) : K q = L q := by
  have mem : ∀ w, w ∈ K q ↔ w ∈ L q := fun w => ⟨h1.mem_iff G hf h2 q w, h2.mem_iff G hf h1 q w⟩
  have sorted : ∀ (a b : List Way), a.Pairwise lt → b.Pairwise lt → (∀ w, w ∈ a ↔ w ∈ b) → a = b := by
    intro a
    induction a with
    | nil => intro b _ _ h; exact (List.eq_nil_iff_forall_not_mem.2 fun x hx => by have := (h x).2 hx; simp at this).symm
    | cons x a ih =>
      intro b p1 p2 h
      cases b with
      | nil => have := (h x).1 (by simp); simp at this
      | cons y b =>
        have p1 := List.pairwise_cons.1 p1
        have p2 := List.pairwise_cons.1 p2
        have xy : x = y := by
          rcases List.mem_cons.1 ((h x).1 (by simp)) with e | e
          · exact e
          · rcases List.mem_cons.1 ((h y).2 (by simp)) with f | f
            · exact f.symm
            · exact absurd (tr _ _ _ (p1.1 y f) (p2.1 x e)) (ir _)
        subst xy
        congr 1
        refine ih b p1.2 p2.2 fun w => ⟨fun hw => ?_, fun hw => ?_⟩
        · rcases List.mem_cons.1 ((h w).1 (List.mem_cons_of_mem _ hw)) with e | e
          · subst e; exact absurd (p1.1 _ hw) (ir _)
          · exact e
        · rcases List.mem_cons.1 ((h w).2 (List.mem_cons_of_mem _ hw)) with e | e
          · subst e; exact absurd (p2.1 _ hw) (ir _)
          · exact e
  exact sorted _ _ s1 s2 mem

/-- what a search keeps: of each place the least of what came -/
structure Kn (g : Gr) (fr : Pt) (st : Prop) (Q : List Ent) (K : Pt → List Way) : Prop where
  of : ∀ q w, w ∈ K q → ∃ (a : Nat) (e : Ent), Q[a]? = some e ∧ (st ∨ a ≠ 0) ∧ e.at' = q ∧ e.w = w
  cl : ∀ (a : Nat) (e : Ent), Q[a]? = some e → (st ∨ a ≠ 0) → ∃ x, x ∈ K e.at' ∧ pl x e.w (g.dp fr) = true
  an : ∀ q, (K q).Pairwise (fun v w => pl v w (g.dp fr) = false ∧ pl w v (g.dp fr) = false)

section
variable {g : Gr} {fr : Pt} {st : Prop} {Q : List Ent} {i j : Nat} {K : Pt → List Way}

theorem BInv.good (B : BInv g fr st Q i j) (G : GOK g) (hf : (g.dep fr).isSome) {k : Nat} {e : Ent} (h : Q[k]? = some e) : (g.dep e.at').isSome ∧ GoodW (g.dp fr) (g.dp e.at') e.w := by
  obtain ⟨a, _, b, _⟩ := B.form G hf k e h
  exact ⟨a, b.1⟩

theorem BInv.route (B : BInv g fr st Q i j) : ∀ (k : Nat) (e : Ent), Q[k]? = some e → Route g fr e.at' e.w
  | 0, e, h => by rw [B.root] at h; injection h with h; subst h; exact .nil
  | k + 1, e, h => by
    obtain ⟨f, m, h1, h2, h3, h4, h5, h6, _⟩ := B.or k e h
    rw [h5]
    exact .step (BInv.route B e.p f h1) (List.mem_of_getElem? h3) h6
termination_by k => k
decreasing_by omega

/-- done: the table -/
theorem BInv.tab (B : BInv g fr st Q Q.length 0) (G : GOK g) (hf : (g.dep fr).isSome) (T : Kn g fr st Q K) : Tab g fr st K := by
  refine ⟨fun q w hw => ?_, fun q w hw => ?_, T.an⟩
  · obtain ⟨a, e, h1, h2, rfl, rfl⟩ := T.of q w hw
    cases a with
    | zero =>
      rw [B.root] at h1; injection h1 with h1; subst h1
      exact .inl ⟨h2.resolve_right (by simp), rfl, rfl⟩
    | succ a =>
      obtain ⟨f, m, a1, a2, a3, a4, a5, a6, _⟩ := B.or a e h1
      exact .inr ⟨f.at', f.w, m, B.route _ f a1, List.mem_of_getElem? a3, a6, a5⟩
  · -- of each route something at least as early came
    have step : ∀ (k : Nat) (e : Ent) (p : Pt) (w v : Way) (m : Mv Pt Wid), Q[k]? = some e → e.at' = p → GoodW (g.dp fr) (g.dp p) w → pl e.w w (g.dp fr) = true → m ∈ g.mvs p → thn w (g.mw m) = (v, 0) →
        ∃ (a : Nat) (f : Ent), Q[a]? = some f ∧ (st ∨ a ≠ 0) ∧ f.at' = g.tgt m ∧ pl f.w v (g.dp fr) = true := by
      intro k e p w v m h1 h2 h3 h4 h5 h6
      subst h2
      obtain ⟨e1, e2⟩ := B.good G hf h1
      obtain ⟨gb, gt⟩ := G.goodB h5 e1
      obtain ⟨s, s1, s2, s3⟩ := gb.mono e2 h3 h4 h6
      obtain ⟨n, hn⟩ := List.getElem?_of_mem h5
      obtain ⟨a, f, b1, b2, b3, b4, _⟩ := B.dn k n e m s h1 hn (by unfold lex; have := (List.getElem?_eq_some_iff.1 h1).1; omega) s1
      have fg := (B.good G hf b1).2
      rw [b3] at fg
      exact ⟨a, f, b1, b2, b3, pl_trans fg s2 (gb.goes h3 h6) b4 s3⟩
    have all : ∀ q w, Route g fr q w → ∃ (k : Nat) (e : Ent), Q[k]? = some e ∧ e.at' = q ∧ pl e.w w (g.dp fr) = true := by
      intro q w h
      induction h with
      | nil => exact ⟨0, _, B.root, rfl, pl_refl (G.route hf .nil).2⟩
      | step r hm hv ih =>
        obtain ⟨k, e, k1, k2, k3⟩ := ih
        obtain ⟨a, f, b1, b2, b3, b4⟩ := step k e _ _ _ _ k1 k2 (G.route hf r).2 k3 hm hv
        exact ⟨a, f, b1, b3, b4⟩
    have fin : ∃ (a : Nat) (f : Ent), Q[a]? = some f ∧ (st ∨ a ≠ 0) ∧ f.at' = q ∧ pl f.w w (g.dp fr) = true := by
      rcases hw with ⟨hs, rfl, rfl⟩ | ⟨p, u, m, h1, h2, h3, rfl⟩
      · exact ⟨0, _, B.root, .inl hs, rfl, pl_refl (G.route hf .nil).2⟩
      · obtain ⟨k, e, k1, k2, k3⟩ := all p u h1
        exact step k e p u w m k1 k2 (G.route hf h1).2 k3 h2 h3
    obtain ⟨a, f, b1, b2, rfl, b4⟩ := fin
    obtain ⟨x, x1, x2⟩ := T.cl a f b1 b2
    refine ⟨x, x1, ?_⟩
    obtain ⟨c, h, c1, _, c3, c4⟩ := T.of _ x x1
    have gh := (B.good G hf c1).2
    rw [c3, c4] at gh
    exact pl_trans gh (B.good G hf b1).2 (G.route hf hw.route).2 x2 b4

theorem Kn.start (g : Gr) (fr : Pt) (st : Prop) {K : Pt → List Way} (h1 : ∀ q, q ≠ fr → K q = []) (h2 : st → K fr = [idW]) (h3 : ¬ st → K fr = []) (hg : pl idW idW (g.dp fr) = true) : Kn g fr st [⟨[], fr, idW, 0, 0⟩] K := by
  refine ⟨fun q w hw => ?_, fun a e he hs => ?_, fun q => ?_⟩
  · by_cases hq : q = fr
    · subst hq
      by_cases hs : st
      · rw [h2 hs] at hw
        simp at hw
        exact ⟨0, _, rfl, .inl hs, rfl, hw.symm⟩
      · rw [h3 hs] at hw; simp at hw
    · rw [h1 q hq] at hw; simp at hw
  · have hl := (List.getElem?_eq_some_iff.1 he).1
    simp at hl
    subst hl
    simp at he
    subst he
    have hs := hs.resolve_right (by simp)
    exact ⟨idW, by simp [h2 hs], hg⟩
  · by_cases hq : q = fr
    · subst hq
      by_cases hs : st
      · rw [h2 hs]; exact List.pairwise_singleton _ _
      · rw [h3 hs]; exact List.Pairwise.nil
    · rw [h1 q hq]; exact List.Pairwise.nil

/-- one more: what it is never behind goes; in whatever order the rest stands -/
theorem Kn.push (T : Kn g fr st Q K) (B : BInv g fr st Q i j) (G : GOK g) (hf : (g.dep fr).isSome) {e : Ent} (ge : GoodW (g.dp fr) (g.dp e.at') e.w) {K' : Pt → List Way}
    (h1 : ∀ q, q ≠ e.at' → K' q = K q) (h2 : (K' e.at').Perm ((K e.at').filter (fun x => ! pl e.w x (g.dp fr)) ++ [e.w])) (h3 : ∀ x, x ∈ K e.at' → pl x e.w (g.dp fr) = false) (hQ : Q ≠ []) : Kn g fr st (Q ++ [e]) K' := by
  have hm : ∀ x, x ∈ K' e.at' ↔ (x ∈ K e.at' ∧ pl e.w x (g.dp fr) = false) ∨ x = e.w := fun x => by
    rw [h2.mem_iff, List.mem_append, List.mem_filter, List.mem_singleton]
    simp
  have len : Q.length ≠ 0 := fun h => hQ (List.length_eq_zero_iff.1 h)
  have old : ∀ {k : Nat} {f : Ent}, Q[k]? = some f → (Q ++ [e])[k]? = some f := fun {k f} hk => by
    rw [List.getElem?_append_left (List.getElem?_eq_some_iff.1 hk).1]; exact hk
  have new : (Q ++ [e])[Q.length]? = some e := by simp
  refine ⟨fun q w hw => ?_, fun a f he hs => ?_, fun q => ?_⟩
  · by_cases hq : q = e.at'
    · subst hq
      rcases (hm w).1 hw with ⟨h, _⟩ | rfl
      · obtain ⟨a, f, b1, b2, b3, b4⟩ := T.of _ w h
        exact ⟨a, f, old b1, b2, b3, b4⟩
      · exact ⟨Q.length, e, new, .inr len, rfl, rfl⟩
    · rw [h1 q hq] at hw
      obtain ⟨a, f, b1, b2, b3, b4⟩ := T.of _ w hw
      exact ⟨a, f, old b1, b2, b3, b4⟩
  · by_cases c : a < Q.length
    · rw [List.getElem?_append_left c] at he
      obtain ⟨x, x1, x2⟩ := T.cl a f he hs
      by_cases hq : f.at' = e.at'
      · by_cases hx : pl e.w x (g.dp fr) = true
        · refine ⟨e.w, by rw [hq]; exact (hm _).2 (.inr rfl), ?_⟩
          obtain ⟨b, h, b1, _, b3, b4⟩ := T.of _ x x1
          have gh := (B.good G hf b1).2
          have gf := (B.good G hf he).2
          rw [b3, b4] at gh
          rw [hq] at gh gf
          exact pl_trans ge gh gf hx x2
        · refine ⟨x, by rw [hq]; exact (hm _).2 (.inl ⟨hq ▸ x1, by simpa using hx⟩), x2⟩
      · exact ⟨x, by rw [h1 _ hq]; exact x1, x2⟩
    · have hl := (List.getElem?_eq_some_iff.1 he).1
      simp at hl
      have : a = Q.length := by omega
      subst this
      rw [new] at he; injection he with he; subst he
      exact ⟨e.w, (hm _).2 (.inr rfl), pl_refl ge⟩
  · by_cases hq : q = e.at'
    · subst hq
      refine (h2.pairwise_iff (fun {a b} h => ⟨h.2, h.1⟩)).2 ?_
      rw [List.pairwise_append]
      refine ⟨(T.an _).filter _, List.pairwise_singleton _ _, fun a ha b hb => ?_⟩
      have ha := List.mem_filter.1 ha
      simp at hb ha
      subst hb
      exact ⟨h3 a ha.1, ha.2⟩
    · rw [h1 q hq]; exact T.an q

/-- what is to be left out: something kept is never behind -/
theorem Kn.covered (T : Kn g fr st Q K) {q : Pt} {v : Way} (h : ∃ x, x ∈ K q ∧ pl x v (g.dp fr) = true) : ∃ (a : Nat) (e : Ent), Q[a]? = some e ∧ (st ∨ a ≠ 0) ∧ e.at' = q ∧ pl e.w v (g.dp fr) = true := by
  obtain ⟨x, x1, x2⟩ := h
  obtain ⟨a, e, b1, b2, b3, b4⟩ := T.of q x x1
  exact ⟨a, e, b1, b2, b3, by rw [b4]; exact x2⟩
theorem Kn.uncovered (T : Kn g fr st Q K) (B : BInv g fr st Q i j) (G : GOK g) (hf : (g.dep fr).isSome) {q : Pt} {v : Way} (gv : GoodW (g.dp fr) (g.dp q) v) (h : ∀ x, x ∈ K q → pl x v (g.dp fr) = false) :
    ∀ (a : Nat) (e : Ent), Q[a]? = some e → (st ∨ a ≠ 0) → e.at' = q → pl e.w v (g.dp fr) = false := by
  intro a e h1 h2 h3
  refine Bool.eq_false_iff.2 fun hp => ?_
  obtain ⟨x, x1, x2⟩ := T.cl a e h1 h2
  obtain ⟨b, f, b1, b2, b3, b4⟩ := T.of _ x x1
  have gf := (B.good G hf b1).2
  have ge := (B.good G hf h1).2
  rw [b3, b4] at gf
  rw [h3] at x1 gf ge
  have := h x x1
  rw [pl_trans gf ge gv x2 hp] at this
  simp at this
end
end Go.Proofs.Yteklohamkmiphaa
namespace Go.Proofs.Yteklohamkmiphaa
open Go.RowKit

def cmpT (x y : Int) : Int := if x < y then -1 else if y < x then 1 else 0
theorem cmpT_lt {x y : Int} (h : x < y) : cmpT x y = -1 := by unfold cmpT; rw [if_pos h]
theorem cmpT_gt {x y : Int} (h : y < x) : cmpT x y = 1 := by unfold cmpT; rw [if_neg (by omega), if_pos h]
theorem cmpT_self (x : Int) : cmpT x x = 0 := by unfold cmpT; rw [if_neg (by omega), if_neg (by omega)]

set_option maxRecDepth 100000 in
set_option maxHeartbeats 400000 in
theorem nan_int (x : Int) (w : World) : Calls Try.prog 87 #[.int .i64 x] w fun e w' => e = .returned (.bool false) ∧ w = w' := by
  have h : (x != x) = false := by simp
  go_enter Try.func87, Try.ntmps87
  go_wp2
  go_ret
  exact ⟨rfl, rfl⟩
set_option maxRecDepth 100000 in
set_option maxHeartbeats 400000 in
theorem nan_u64 (x : Int) (w : World) : Calls Try.prog 97 #[.int .u64 x] w fun e w' => e = .returned (.bool false) ∧ w = w' := by
  have h : (x != x) = false := by simp
  go_enter Try.func97, Try.ntmps97
  go_wp2
  go_ret
  exact ⟨rfl, rfl⟩
set_option maxRecDepth 100000 in
set_option maxHeartbeats 400000 in
theorem nan_u32 (x : Int) (w : World) : Calls Try.prog 88 #[.int .u32 x] w fun e w' => e = .returned (.bool false) ∧ w = w' := by
  have h : (x != x) = false := by simp
  go_enter Try.func88, Try.ntmps88
  go_wp2
  go_ret
  exact ⟨rfl, rfl⟩
set_option maxRecDepth 100000 in
set_option maxHeartbeats 400000 in
theorem compare_int (x y : Int) (w : World) : Calls Try.prog 71 #[.int .i64 x, .int .i64 y] w fun e w' => e = .returned (.int .i64 (cmpT x y)) ∧ w = w' := by
  rcases Int.lt_trichotomy x y with h | h | h
  · rw [cmpT_lt h]
    go_enter Try.func71, Try.ntmps71
    go_wp2_with (refine (nan_int _ _).mono ?_; rintro e w1 ⟨rfl, rfl⟩)
    go_ret
    exact ⟨rfl, rfl⟩
  · subst h
    rw [cmpT_self]
    go_enter Try.func71, Try.ntmps71
    go_wp2_with (refine (nan_int _ _).mono ?_; rintro e w1 ⟨rfl, rfl⟩)
    go_ret
    exact ⟨rfl, rfl⟩
  · rw [cmpT_gt h]
    go_enter Try.func71, Try.ntmps71
    go_wp2_with (refine (nan_int _ _).mono ?_; rintro e w1 ⟨rfl, rfl⟩)
    go_ret
    exact ⟨rfl, rfl⟩
set_option maxRecDepth 100000 in
set_option maxHeartbeats 400000 in
theorem compare_u64 (x y : Int) (w : World) : Calls Try.prog 89 #[.int .u64 x, .int .u64 y] w fun e w' => e = .returned (.int .i64 (cmpT x y)) ∧ w = w' := by
  rcases Int.lt_trichotomy x y with h | h | h
  · rw [cmpT_lt h]
    go_enter Try.func89, Try.ntmps89
    go_wp2_with (refine (nan_u64 _ _).mono ?_; rintro e w1 ⟨rfl, rfl⟩)
    go_ret
    exact ⟨rfl, rfl⟩
  · subst h
    rw [cmpT_self]
    go_enter Try.func89, Try.ntmps89
    go_wp2_with (refine (nan_u64 _ _).mono ?_; rintro e w1 ⟨rfl, rfl⟩)
    go_ret
    exact ⟨rfl, rfl⟩
  · rw [cmpT_gt h]
    go_enter Try.func89, Try.ntmps89
    go_wp2_with (refine (nan_u64 _ _).mono ?_; rintro e w1 ⟨rfl, rfl⟩)
    go_ret
    exact ⟨rfl, rfl⟩
set_option maxRecDepth 100000 in
set_option maxHeartbeats 400000 in
theorem compare_u32 (x y : Int) (w : World) : Calls Try.prog 72 #[.int .u32 x, .int .u32 y] w fun e w' => e = .returned (.int .i64 (cmpT x y)) ∧ w = w' := by
  rcases Int.lt_trichotomy x y with h | h | h
  · rw [cmpT_lt h]
    go_enter Try.func72, Try.ntmps72
    go_wp2_with (refine (nan_u32 _ _).mono ?_; rintro e w1 ⟨rfl, rfl⟩)
    go_ret
    exact ⟨rfl, rfl⟩
  · subst h
    rw [cmpT_self]
    go_enter Try.func72, Try.ntmps72
    go_wp2_with (refine (nan_u32 _ _).mono ?_; rintro e w1 ⟨rfl, rfl⟩)
    go_ret
    exact ⟨rfl, rfl⟩
  · rw [cmpT_gt h]
    go_enter Try.func72, Try.ntmps72
    go_wp2_with (refine (nan_u32 _ _).mono ?_; rintro e w1 ⟨rfl, rfl⟩)
    go_ret
    exact ⟨rfl, rfl⟩

/-- lists of counters, the first that differs tells -/
def lexT : List Int → List Int → Int
  | [], [] => 0
  | [], _ :: _ => -1
  | _ :: _, [] => 1
  | x :: l, y :: m => if cmpT x y = 0 then lexT l m else cmpT x y
theorem cmpT_zero {x y : Int} : cmpT x y = 0 ↔ x = y := by
  unfold cmpT
  by_cases h1 : x < y
  · rw [if_pos h1]; omega
  · rw [if_neg h1]
    by_cases h2 : y < x
    · rw [if_pos h2]; omega
    · rw [if_neg h2]; omega

theorem lexT_step : ∀ (k : Nat) (l m : List Int), k < l.length → k < m.length → lexT (l.drop k) (m.drop k) = if cmpT (l.getD k 0) (m.getD k 0) = 0 then lexT (l.drop (k + 1)) (m.drop (k + 1)) else cmpT (l.getD k 0) (m.getD k 0) := by
  intro k l m h1 h2
  rw [List.drop_eq_getElem_cons h1, List.drop_eq_getElem_cons h2]
  simp [lexT, List.getD_eq_getElem?_getD, List.getElem?_eq_getElem h1, List.getElem?_eq_getElem h2]

set_option maxRecDepth 100000 in
set_option maxHeartbeats 400000 in
theorem lex_any (A1 A2 : Option Addr) (n1 n2 c1 c2 : Nat) (l1 l2 : List Int) (w : World) (h1 : Sl w 1 A1 n1 c1 (wds l1)) (h2 : Sl w 1 A2 n2 c2 (wds l2)) :
    Calls Try.prog 90 #[.slice A1 n1 c1, .slice A2 n2 c2] w fun e w' => e = .returned (.int .i64 (lexT l1 l2)) ∧ w = w' := by
  have hm1 := h1.le
  have hm2 := h2.le
  have hl1 := Lib.hid h1.wlen
  have hl2 := Lib.hid h2.wlen
  obtain ⟨r, hr⟩ : ∃ r, r = lexT l1 l2 := ⟨_, rfl⟩
  rw [← hr]
  have HR := Lib.hid hr
  clear hr
  go_enter Try.func90, Try.ntmps90
  go_wp2
  go_loop [11] (fun v => ∃ k : Nat, k ≤ n1 ∧ k ≤ n2 ∧ v = .int .i64 k ∧ r = lexT (l1.drop k) (l2.drop k)) (fun v => n1 - (intOf v).toNat)
  case atStart => exact ⟨0, Nat.zero_le _, Nat.zero_le _, rfl, by simpa using HR.out⟩
  case round =>
    obtain ⟨k, hk1, hk2, rfl, hrk⟩ := hrel
    have RK := Lib.hid hrk
    clear hrk
    by_cases q1 : k < n1
    · obtain ⟨a1, rfl, hc1, _⟩ := h1.word q1
      by_cases q2 : k < n2
      · obtain ⟨a2, rfl, hc2, _⟩ := h2.word q2
        have T := lexT_step k l1 l2 (by rw [hl1.out]; exact q1) (by rw [hl2.out]; exact q2)
        by_cases q3 : cmpT (l1.getD k 0) (l2.getD k 0) = 0
        · rw [if_pos q3] at T
          have HT := Lib.hid T
          have q4 : (cmpT (l1[k]?.getD 0) (l2[k]?.getD 0) != 0) = false := by rw [← List.getD_eq_getElem?_getD, ← List.getD_eq_getElem?_getD, q3]; rfl
          clear T q3
          go_wp2_with (refine (compare_u32 _ _ _).mono ?_; rintro e w1 ⟨rfl, rfl⟩)
          go_round
          case rel => exact ⟨k + 1, by omega, by omega, by go_num, by rw [RK.out, HT.out]⟩
          case measure => simp [intOf]; omega
        · rw [if_neg q3] at T
          have HT := Lib.hid T
          have q4 : (cmpT (l1[k]?.getD 0) (l2[k]?.getD 0) != 0) = true := by simpa [List.getD_eq_getElem?_getD] using q3
          clear T q3
          go_wp2_with (refine (compare_u32 _ _ _).mono ?_; rintro e w1 ⟨rfl, rfl⟩)
          go_ret
          exact ⟨ret_int (by rw [RK.out, HT.out]; simp [List.getD_eq_getElem?_getD]), rfl⟩
      · have e2 : k = n2 := by omega
        have T : lexT (l1.drop k) (l2.drop k) = 1 := by
          rw [List.drop_eq_getElem_cons (show k < l1.length by rw [hl1.out]; exact q1), List.drop_eq_nil_of_le (show l2.length ≤ k by rw [hl2.out]; omega)]; rfl
        have HT := Lib.hid T
        have E2 := Lib.hid e2
        clear T e2
        go_wp2
        go_ret
        exact ⟨ret_int (by rw [RK.out, HT.out]), rfl⟩
    · have e1 : k = n1 := by omega
      have E1 := Lib.hid e1
      clear e1
      by_cases q2 : n1 < n2
      · have T : lexT (l1.drop k) (l2.drop k) = -1 := by
          rw [List.drop_eq_nil_of_le (show l1.length ≤ k by rw [hl1.out]; omega), List.drop_eq_getElem_cons (show k < l2.length by rw [hl2.out, E1.out]; exact q2)]; rfl
        have HT := Lib.hid T
        clear T
        go_wp2
        go_ret
        exact ⟨ret_int (by rw [RK.out, HT.out]), rfl⟩
      · have T : lexT (l1.drop k) (l2.drop k) = 0 := by
          rw [List.drop_eq_nil_of_le (show l1.length ≤ k by rw [hl1.out]; omega), List.drop_eq_nil_of_le (show l2.length ≤ k by rw [hl2.out]; omega)]; rfl
        have HT := Lib.hid T
        clear T
        go_wp2
        go_ret
        exact ⟨ret_int (by rw [RK.out, HT.out]), rfl⟩

/-- the first of three that is not 0 -/
def orT (x y z : Int) : Int := if x = 0 then (if y = 0 then z else y) else x
/-! ### stamp.Cmp -/
def cmpTT (e1 : Int) (l1 : List Int) (e2 : Int) (l2 : List Int) : Int := orT (cmpT l1.length l2.length) (cmpT e1 e2) (lexT l1 l2)
end Go.Proofs.Yteklohamkmiphaa
namespace Go.Proofs.Yteklohamkmiphaa

theorem leq_iff (e1 : Int) (l1 : List Int) (e2 : Int) (l2 : List Int) : leqT e1 l1 e2 l2 = true ↔ l1.length = l2.length ∧ e1 ≤ e2 ∧ ∀ k, k < l1.length → l1.getD k 0 ≤ l2.getD k 0 := by
  unfold leqT
  exact decide_eq_true_iff
theorem leq_refl (e : Int) (l : List Int) : leqT e l e l = true := (leq_iff _ _ _ _).2 ⟨rfl, Int.le_refl _, fun _ _ => Int.le_refl _⟩
theorem leq_trans {e1 e2 e3 : Int} {l1 l2 l3 : List Int} (h : leqT e1 l1 e2 l2 = true) (k : leqT e2 l2 e3 l3 = true) : leqT e1 l1 e3 l3 = true := by
  rw [leq_iff] at *
  obtain ⟨a1, a2, a3⟩ := h
  obtain ⟨b1, b2, b3⟩ := k
  exact ⟨by omega, by omega, fun i hi => Int.le_trans (a3 i hi) (b3 i (by omega))⟩
theorem lex_le : ∀ (l m : List Int), l.length = m.length → (∀ k, k < l.length → l.getD k 0 ≤ m.getD k 0) → lexT l m ≤ 0
  | [], [], _, _ => Int.le_refl _
  | [], _ :: _, h, _ => by simp at h
  | _ :: _, [], h, _ => by simp at h
  | x :: l, y :: m, h, hh => by
    have h0 : x ≤ y := by simpa using hh 0 (by simp)
    have hr := lex_le l m (by simpa using h) (fun k hk => by simpa using hh (k + 1) (by simpa using hk))
    unfold lexT
    split
    · exact hr
    · unfold cmpT
      split
      · omega
      · split <;> omega
theorem lex_zero : ∀ (l m : List Int), lexT l m = 0 → l = m
  | [], [], _ => rfl
  | [], _ :: _, h => by simp [lexT] at h
  | _ :: _, [], h => by simp [lexT] at h
  | x :: l, y :: m, h => by
    unfold lexT at h
    by_cases hc : cmpT x y = 0
    · rw [if_pos hc] at h
      rw [cmpT_zero.1 hc, lex_zero l m h]
    · rw [if_neg hc] at h
      exact absurd h hc
theorem lex_self : ∀ l : List Int, lexT l l = 0
  | [] => rfl
  | x :: l => by
    unfold lexT
    rw [if_pos (cmpT_self x)]
    exact lex_self l

theorem cmp_zero {e1 e2 : Int} {l1 l2 : List Int} : cmpTT e1 l1 e2 l2 = 0 ↔ e1 = e2 ∧ l1 = l2 := by
  constructor
  · intro h
    unfold cmpTT orT at h
    by_cases h1 : cmpT (l1.length : Int) l2.length = 0
    · rw [if_pos h1] at h
      by_cases h2 : cmpT e1 e2 = 0
      · rw [if_pos h2] at h
        exact ⟨cmpT_zero.1 h2, lex_zero _ _ h⟩
      · rw [if_neg h2] at h
        exact absurd h h2
    · rw [if_neg h1] at h
      exact absurd h h1
  · rintro ⟨rfl, rfl⟩
    simp [cmpTT, orT, cmpT_self, lex_self]
theorem cmp_le {e1 e2 : Int} {l1 l2 : List Int} (h : leqT e1 l1 e2 l2 = true) : cmpTT e1 l1 e2 l2 ≤ 0 := by
  obtain ⟨a1, a2, a3⟩ := (leq_iff _ _ _ _).1 h
  unfold cmpTT orT
  rw [a1, cmpT_self, if_pos rfl]
  split
  · exact lex_le _ _ a1 a3
  · unfold cmpT
    split
    · omega
    · split <;> omega
theorem getD_ext' {l1 l2 : List Int} (hl : l1.length = l2.length) (h : ∀ k, k < l1.length → l1.getD k 0 = l2.getD k 0) : l1 = l2 := (getD_ext hl).1 h
theorem cmp_both {e1 e2 : Int} {l1 l2 : List Int} : (leqT e1 l1 e2 l2 = true ∧ leqT e2 l2 e1 l1 = true) ↔ cmpTT e1 l1 e2 l2 = 0 := by
  rw [cmp_zero]
  constructor
  · rintro ⟨h, k⟩
    rw [leq_iff] at h k
    obtain ⟨a1, a2, a3⟩ := h
    obtain ⟨b1, b2, b3⟩ := k
    exact ⟨by omega, getD_ext' a1 fun i hi => Int.le_antisymm (a3 i hi) (b3 i (by omega))⟩
  · rintro ⟨rfl, rfl⟩
    exact ⟨leq_refl _ _, leq_refl _ _⟩

end Go.Proofs.Yteklohamkmiphaa
