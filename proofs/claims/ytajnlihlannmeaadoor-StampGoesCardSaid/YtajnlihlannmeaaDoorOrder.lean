/- StampOrder: the walk. -/
import Derived.Test.YtajnlihlannmeaaDoorKnownB
import Derived.Test.YtajnlihlannmeaaDoorOrderLaw
namespace Go.Proofs.YtajnlihlannmeaaDoor
open Go.RowKit

theorem much3 (g na nb nc : Nat) (b : Bool) (w : World) (e1 e2 e3 : Int) (A1 A2 A3 : Option Addr) (c1 c2 c3 : Nat)
    (hc : Bk w g 28 #[.int .u64 e1, .slice A1 na c1, .int .u64 e2, .slice A2 nb c2, .int .u64 e3, .slice A3 nc c3]) (hb : b = decide (40 < na ∨ 40 < nb ∨ 40 < nc)) :
    Calls Tryd.prog 11 #[.slice (some ⟨g, 0, none⟩) 3 3] w fun e w' => e = .returned (.bool b) ∧ Ext w w' := by
  have h := much_any g 3 3 (fun i => match i with | 0 => na | 1 => nb | _ => nc) w (by omega) (fun i hi => by
    match i with
    | 0 => exact ⟨_, _, hc.cell 1⟩
    | 1 => exact ⟨_, _, hc.cell 3⟩
    | 2 => exact ⟨_, _, hc.cell 5⟩
    | n + 3 => omega)
  refine h.mono fun e w' ⟨he, hx⟩ => ⟨he.trans (ret_bool ?_), hx⟩
  rw [hb, decide_eq_decide]
  constructor
  · rintro ⟨i, hi, h40⟩
    match i with
    | 0 => exact Or.inl h40
    | 1 => exact Or.inr (Or.inl h40)
    | 2 => exact Or.inr (Or.inr h40)
    | n + 3 => omega
  · rintro (h1 | h1 | h1)
    · exact ⟨0, by omega, h1⟩
    · exact ⟨1, by omega, h1⟩
    · exact ⟨2, by omega, h1⟩

theorem leq_at {b : Bool} (e1 e2 : Int) (A1 A2 : Option Addr) (n1 n2 c1 c2 : Nat) (l1 l2 : List Int) (w : World) (hb : Hid (leqT e1 l1 e2 l2 = b)) (h1 : Sl w 1 A1 n1 c1 (wds l1)) (h2 : Sl w 1 A2 n2 c2 (wds l2)) :
    Calls Tryd.prog 27 #[.agg #[.int .u64 e1, .slice A1 n1 c1], .agg #[.int .u64 e2, .slice A2 n2 c2]] w fun e w' => e = .returned (.bool b) ∧ Ext w w' := hb.out ▸ leq_any e1 e2 A1 A2 n1 n2 c1 c2 l1 l2 w h1 h2

section
variable (e1 e2 e3 : Int) (A1 A2 A3 : Option Addr) (n1 n2 n3 c1 c2 c3 : Nat) (l1 l2 l3 : List Int) (w : World)

set_option maxRecDepth 100000 in
set_option maxHeartbeats 600000 in
theorem order_much (hm : 40 < n1 ∨ 40 < n2 ∨ 40 < n3) :
    Calls Tryd.prog 6 #[.agg #[.int .u64 e1, .slice A1 n1 c1], .agg #[.int .u64 e2, .slice A2 n2 c2], .agg #[.int .u64 e3, .slice A3 n3 c3]] w fun e w' => e = .returned (.bool true) ∧ Ext w w' := by
  have hb : true = decide (40 < n1 ∨ 40 < n2 ∨ 40 < n3) := by simp [hm]
  have HB := Lib.hid hb
  clear hb hm
  go_enter Tryd.func6, Tryd.ntmps6
  go_wp2_with (first | (go_at_call 11; refine (much3 _ n1 n2 n3 true _ e1 e2 e3 A1 A2 A3 c1 c2 c3 (Bk.at (by simp)) HB.out).mono ?_; rintro r w1 ⟨rfl, x1⟩) | (go_at_call 21; refine (known_true _).mono ?_; rintro r w2 ⟨rfl, x2⟩))
  refine bodyPost_ret (v := .bool true) (by simp only [results, Tryd.results6]; go_simp) rfl ?_
  exact ⟨rfl, (((((Ext.refl w).alloc _).alloc _).alloc _).alloc _).trans (x1.trans x2)⟩

variable (s1 : Sl w 1 A1 n1 c1 (wds l1)) (s2 : Sl w 1 A2 n2 c2 (wds l2)) (s3 : Sl w 1 A3 n3 c3 (wds l3))

set_option maxRecDepth 100000 in
set_option maxHeartbeats 800000 in
theorem order_diff (s1 : Sl w 1 A1 n1 c1 (wds l1)) (s2 : Sl w 1 A2 n2 c2 (wds l2)) (s3 : Sl w 1 A3 n3 c3 (wds l3)) (hm : ¬ (40 < n1 ∨ 40 < n2 ∨ 40 < n3)) (hd : ¬ (n1 = n2 ∧ n2 = n3)) :
    Calls Tryd.prog 6 #[.agg #[.int .u64 e1, .slice A1 n1 c1], .agg #[.int .u64 e2, .slice A2 n2 c2], .agg #[.int .u64 e3, .slice A3 n3 c3]] w fun e w' => e = .returned (.bool true) ∧ Ext w w' := by
  have hb : false = decide (40 < n1 ∨ 40 < n2 ∨ 40 < n3) := by simp [hm]
  have HB := Lib.hid hb
  clear hb hm
  obtain ⟨b, hq⟩ : ∃ b, leqT e1 l1 e2 l2 = b := ⟨_, rfl⟩
  obtain ⟨b2, hq2⟩ : ∃ b, leqT e2 l2 e3 l3 = b := ⟨_, rfl⟩
  have hbb : b = false ∨ b = true ∧ b2 = false ∧ ((n1 : Int) != (n2 : Int)) = false ∧ ((n2 : Int) != (n3 : Int)) = true := by
    by_cases h12 : n1 = n2
    · cases b with
      | false => exact Or.inl rfl
      | true => refine Or.inr ⟨rfl, ?_, by simp; omega, by simp; omega⟩; rw [← hq2]; exact leq_len (by rw [s2.wlen, s3.wlen]; omega)
    · refine Or.inl ?_; rw [← hq]; exact leq_len (by rw [s1.wlen, s2.wlen]; omega)
  have HQ := Lib.hid hq
  have HQ2 := Lib.hid hq2
  have hor : ((n1 : Int) != (n2 : Int)) = true ∨ ((n1 : Int) != (n2 : Int)) = false ∧ ((n2 : Int) != (n3 : Int)) = true := by
    by_cases h12 : n1 = n2
    · exact Or.inr ⟨by simp; omega, by simp; omega⟩
    · exact Or.inl (by simp; omega)
  clear hq hq2 hd
  have m1 : True := trivial
  have m4 : True := trivial
  rcases hor with h12 | ⟨h12, h23⟩ <;> rcases hbb with rfl | ⟨rfl, rfl, h12', h23'⟩
  case inl.inr => rw [h12] at h12'; cases h12'
  all_goals
    go_enter Tryd.func6, Tryd.ntmps6
    go_wp2_with (first
      | (have z := m1; clear z m1; go_at_call 11; refine (much3 _ n1 n2 n3 false _ e1 e2 e3 A1 A2 A3 c1 c2 c3 (Bk.at (by simp)) HB.out).mono ?_; rintro r w1 ⟨rfl, x1⟩; have m2 : True := trivial)
      | (have z := m2; clear z m2; go_at_call 21; refine (known_true _).mono ?_; rintro r w2 ⟨rfl, x2⟩; have X2 := x1.trans x2; have Ba : Bk w2 (w.heap.size) 28 #[.int .u64 e1, .slice A1 n1 c1] := ((((Bk.new w _ _).alloc _).alloc _).alloc _).ext X2; have Bb : Bk w2 (w.heap.size + 1) 28 #[.int .u64 e2, .slice A2 n2 c2] := (((Bk.at (by simp)).alloc _).alloc _).ext X2; have Bc : Bk w2 (w.heap.size + 1 + 1) 28 #[.int .u64 e3, .slice A3 n3 c3] := ((Bk.at (by simp)).alloc _).ext X2; have E2 : Ext w w2 := (((((Ext.refl w).alloc _).alloc _).alloc _).alloc _).trans X2; clear x1 x2 X2; have Ba0 : w2.cell? ⟨w.heap.size, 0, none⟩ = some (.int .u64 (e1)) := Ba.cell 0; have Ba1 : w2.cell? ⟨w.heap.size, 1, none⟩ = some (.slice A1 n1 c1) := Ba.cell 1; have Bb0 : w2.cell? ⟨w.heap.size + 1, 0, none⟩ = some (.int .u64 (e2)) := Bb.cell 0; have Bb1 : w2.cell? ⟨w.heap.size + 1, 1, none⟩ = some (.slice A2 n2 c2) := Bb.cell 1; have Bc0 : w2.cell? ⟨w.heap.size + 1 + 1, 0, none⟩ = some (.int .u64 (e3)) := Bc.cell 0; have Bc1 : w2.cell? ⟨w.heap.size + 1 + 1, 1, none⟩ = some (.slice A3 n3 c3) := Bc.cell 1; have m3 : True := trivial)
      | (have z := m3; clear z m3; go_at_call 27; refine (leq_at e1 e2 A1 A2 n1 n2 c1 c2 l1 l2 _ HQ (s1.ext E2) (s2.ext E2)).mono ?_; rintro r w3 ⟨rfl, x3⟩; have Bb3 := Bb.ext x3; have Bc3 := Bc.ext x3; have E3 := E2.trans x3; clear x3; have Bb30 : w3.cell? ⟨w.heap.size + 1, 0, none⟩ = some (.int .u64 (e2)) := Bb3.cell 0; have Bb31 : w3.cell? ⟨w.heap.size + 1, 1, none⟩ = some (.slice A2 n2 c2) := Bb3.cell 1; have Bc30 : w3.cell? ⟨w.heap.size + 1 + 1, 0, none⟩ = some (.int .u64 (e3)) := Bc3.cell 0; have Bc31 : w3.cell? ⟨w.heap.size + 1 + 1, 1, none⟩ = some (.slice A3 n3 c3) := Bc3.cell 1; have m5 : True := trivial)
      | (have z := m5; clear z m5; go_at_call 27; refine (leq_at e2 e3 A2 A3 n2 n3 c2 c3 l2 l3 _ HQ2 (s2.ext E3) (s3.ext E3)).mono ?_; rintro r w4 ⟨rfl, x4⟩; have E3 := E3.trans x4))
    refine bodyPost_ret (v := .bool true) (by simp only [results, Tryd.results6]; go_simp) rfl ?_
    exact ⟨rfl, E3⟩
end
end Go.Proofs.YtajnlihlannmeaaDoor
