/- penstockref01.Neg, Add, Sub, Mul, Div, Mod: they answer what datum's answer; datum.Neg. Conditions: texts that lie in memory; the library's tables stand. -/
import Derived.Test.YtobgfegdfcpgfaaDoorRefNumB
import Derived.Test.YtobgfegdfcpgfaaDoorRefMul
namespace Go.Proofs.YtobgfegdfcpgfaaDoor
open Go.RowKit

theorem num_in {s c : Int} (h : In64 s) (hc : wrap64 s = c) : numR c 0 = outR s := by rw [wrap_in h] at hc; unfold numR outR; rw [if_pos rfl, if_pos h, hc]
theorem num_out {s c : Int} (h : ¬ In64 s) : numR c 10 = outR s := by unfold numR outR; rw [if_neg (by omega), if_neg h]
section
variable (ka na kb nb : Int) (ba bb : Bool) (sa sb : ByteArray) (w : World) (hs : sa.size ≤ 140737488355328) (hs2 : sb.size ≤ 140737488355328)
include hs hs2
theorem radd_any (hn : In64 na) (hm : In64 nb) : Calls Tryd.prog 33 #[.agg #[.int .u8 ka, .bool ba, .int .i64 na, .string sa], .agg #[.int .u8 kb, .bool bb, .int .i64 nb, .string sb]] w (RefOut w (addR ⟨ka, ba, na, sa⟩ ⟨kb, bb, nb, sb⟩)) := by
  unfold addR
  simp only
  rw [add_out hn hm]
  obtain ⟨c, hc⟩ : ∃ c, wrap64 (na + nb) = c := ⟨_, rfl⟩
  have hw := hc
  unfold wrap64 at hw
  have yes := fun h => num_in (s := na + nb) h hc
  have no := fun h => num_out (s := na + nb) (c := c) h
  unfold In64 at hn hm yes no
  by_cases p : 0 ≤ na
  · by_cases q : 0 ≤ nb
    · by_cases r : c < 0
      · rw [← no (by omega)]; exact radd_pp1 ka na kb nb ba bb sa sb c w hs hs2 hc p q r
      · rw [← yes (by omega)]; exact radd_pp0 ka na kb nb ba bb sa sb c w hs hs2 hc p q r (by omega)
    · rw [← yes (by omega)]; exact radd_pn ka na kb nb ba bb sa sb c w hs hs2 hc p q (by omega)
  · by_cases q : nb < 0
    · by_cases r : 0 ≤ c
      · rw [← no (by omega)]; exact radd_nn1 ka na kb nb ba bb sa sb c w hs hs2 hc p (by omega) q r
      · rw [← yes (by omega)]; exact radd_nn0 ka na kb nb ba bb sa sb c w hs hs2 hc p (by omega) q r
    · rw [← yes (by omega)]; exact radd_np ka na kb nb ba bb sa sb c w hs hs2 hc p (by omega) q
theorem rsub_any (hn : In64 na) (hm : In64 nb) : Calls Tryd.prog 34 #[.agg #[.int .u8 ka, .bool ba, .int .i64 na, .string sa], .agg #[.int .u8 kb, .bool bb, .int .i64 nb, .string sb]] w (RefOut w (subR ⟨ka, ba, na, sa⟩ ⟨kb, bb, nb, sb⟩)) := by
  unfold subR
  simp only
  rw [sub_out hn hm]
  obtain ⟨c, hc⟩ : ∃ c, wrap64 (na - nb) = c := ⟨_, rfl⟩
  have hw := hc
  unfold wrap64 at hw
  have yes := fun h => num_in (s := na - nb) h hc
  have no := fun h => num_out (s := na - nb) (c := c) h
  unfold In64 at hn hm yes no
  by_cases p : 0 ≤ na
  · by_cases q : nb < 0
    · by_cases r : c < 0
      · rw [← no (by omega)]; exact rsub_pn1 ka na kb nb ba bb sa sb c w hs hs2 hc p q r
      · rw [← yes (by omega)]; exact rsub_pn0 ka na kb nb ba bb sa sb c w hs hs2 hc p q r (by omega)
    · rw [← yes (by omega)]; exact rsub_pp ka na kb nb ba bb sa sb c w hs hs2 hc p q (by omega)
  · by_cases q : 0 < nb
    · by_cases r : 0 ≤ c
      · rw [← no (by omega)]; exact rsub_np1 ka na kb nb ba bb sa sb c w hs hs2 hc p (by omega) q r
      · rw [← yes (by omega)]; exact rsub_np0 ka na kb nb ba bb sa sb c w hs hs2 hc p (by omega) q r
    · rw [← yes (by omega)]; exact rsub_nn ka na kb nb ba bb sa sb c w hs hs2 hc p (by omega) q
omit hs hs2 in
theorem mul_wide' {x y q : Int} (hx : In64 x) (hy : In64 y) (x0 : x ≠ 0) (hq : wrap64 ((wrap64 (x * y)).tdiv x) = q) : ((q != y) || (y == -1 && x == -9223372036854775808) || (x == -1 && y == -9223372036854775808)) = !decide (In64 (x * y)) := by
  have h := wide_iff hy hx x0
  rw [Int.mul_comm y x] at h
  rw [← h]
  unfold wideT quoT
  rw [Int.mul_comm y x, hq]
theorem rmul_any (hn : In64 na) (hm : In64 nb) : Calls Tryd.prog 35 #[.agg #[.int .u8 ka, .bool ba, .int .i64 na, .string sa], .agg #[.int .u8 kb, .bool bb, .int .i64 nb, .string sb]] w (RefOut w (mulR ⟨ka, ba, na, sa⟩ ⟨kb, bb, nb, sb⟩)) := by
  unfold mulR
  simp only
  rw [mul_out hn hm]
  obtain ⟨c, hc⟩ : ∃ c, wrap64 (na * nb) = c := ⟨_, rfl⟩
  obtain ⟨q, hq⟩ : ∃ q, wrap64 (c.tdiv na) = q := ⟨_, rfl⟩
  have yes := fun h => num_in (s := na * nb) h hc
  have no := fun h => num_out (s := na * nb) (c := c) h
  have hwd : na ≠ 0 → ((q != nb) || (nb == -1 && na == -9223372036854775808) || (na == -1 && nb == -9223372036854775808)) = !decide (In64 (na * nb)) := fun h0 => mul_wide' hn hm h0 (by rw [hc]; exact hq)
  by_cases m1 : na = -1
  · by_cases nl : nb = -9223372036854775808
    · rw [← no (by rw [m1, nl]; unfold In64; omega)]; exact rmul_a1 ka na kb nb ba bb sa sb c w hs hs2 q hc hq (by simpa using m1) (by simpa using nl)
    · rw [← yes (by rw [m1]; unfold In64 at hm ⊢; omega)]
      by_cases n1 : nb = -1
      · exact rmul_a3 ka na kb nb ba bb sa sb c w hs hs2 q hc hq (by simpa using m1) (by simpa using nl) (by simpa using n1) (by rw [m1]; rfl) (by rw [m1]; rfl) (by rw [m1]; rfl)
      · exact rmul_a2 ka na kb nb ba bb sa sb c w hs hs2 q hc hq (by simpa using m1) (by simpa using nl) (by simpa using n1) (by rw [m1]; rfl) (by rw [m1]; rfl)
  · have f1 : (na == -1) = false := by simpa using m1
    by_cases n1 : nb = -1
    · have g1 : (nb == -1) = true := by simpa using n1
      by_cases ml : na = -9223372036854775808
      · rw [← no (by rw [n1, ml]; unfold In64; omega)]; exact rmul_b1 ka na kb nb ba bb sa sb c w hs hs2 q hc hq f1 g1 (by simpa using ml)
      · have k1 : (na == -9223372036854775808) = false := by simpa using ml
        by_cases z : na = 0
        · rw [← yes (by rw [z, Int.zero_mul]; unfold In64; omega)]; exact rmul_b2z ka na kb nb ba bb sa sb c w hs hs2 q hc hq f1 g1 k1 (by simpa using z)
        · have hd := hwd z
          rw [f1, k1] at hd
          by_cases qq : q = nb
          · have q1 : (q != nb) = false := by simpa using qq
            rw [q1] at hd
            rw [← yes (by simpa using hd)]; exact rmul_b2f ka na kb nb ba bb sa sb c w hs hs2 q hc hq f1 g1 k1 (by simpa using z) (by simpa using m1) q1
          · have q1 : (q != nb) = true := by simpa using qq
            rw [q1] at hd
            rw [← no (by simpa using hd)]; exact rmul_b2t ka na kb nb ba bb sa sb c w hs hs2 q hc hq f1 g1 k1 (by simpa using z) (by simpa using m1) q1
    · have g1 : (nb == -1) = false := by simpa using n1
      by_cases z : na = 0
      · rw [← yes (by rw [z, Int.zero_mul]; unfold In64; omega)]; exact rmul_b3z ka na kb nb ba bb sa sb c w hs hs2 q hc hq f1 g1 (by simpa using z)
      · have hd := hwd z
        rw [f1, g1] at hd
        by_cases qq : q = nb
        · have q1 : (q != nb) = false := by simpa using qq
          rw [q1] at hd
          rw [← yes (by simpa using hd)]; exact rmul_b3f ka na kb nb ba bb sa sb c w hs hs2 q hc hq f1 g1 (by simpa using z) (by simpa using m1) q1
        · have q1 : (q != nb) = true := by simpa using qq
          rw [q1] at hd
          rw [← no (by simpa using hd)]; exact rmul_b3t ka na kb nb ba bb sa sb c w hs hs2 q hc hq f1 g1 (by simpa using z) (by simpa using m1) q1
omit hs hs2 in
theorem tdiv_in {x y : Int} (hx : In64 x) (y0 : y ≠ 0) (y1 : y ≠ -1) : In64 (x.tdiv y) := by
  unfold In64 at hx ⊢
  have h1 : (x.tdiv y).natAbs ≤ x.natAbs := by rw [Int.natAbs_tdiv]; exact Nat.div_le_self _ _
  by_cases hx : x = -9223372036854775808
  · by_cases hy : y = 1
    · subst hy; simp; omega
    · have h2 : (x.tdiv y).natAbs ≤ x.natAbs / 2 := by
        rw [Int.natAbs_tdiv]
        exact Nat.div_le_div_left (by omega) (by omega)
      omega
  · omega
theorem rdiv_any (hn : In64 na) : Calls Tryd.prog 36 #[.agg #[.int .u8 ka, .bool ba, .int .i64 na, .string sa], .agg #[.int .u8 kb, .bool bb, .int .i64 nb, .string sb]] w (RefOut w (divR ⟨ka, ba, na, sa⟩ ⟨kb, bb, nb, sb⟩)) := by
  unfold divR div1R
  simp only
  by_cases y0 : nb = 0
  · rw [if_pos y0]
    exact rdiv_z ka na kb nb ba bb sa sb w hs hs2 (by simpa using y0)
  · rw [if_neg y0]
    have z0 : (nb == 0) = false := by simpa using y0
    by_cases y1 : nb = -1
    · rw [if_pos y1]
      by_cases l : na = -9223372036854775808
      · have := rdiv_m1 ka na kb nb ba bb sa sb _ w hs hs2 z0 (by simpa using y1) rfl (by simpa using l)
        rw [decide_eq_true l]
        exact this
      · have := rdiv_m0 ka na kb nb ba bb sa sb _ w hs hs2 z0 (by simpa using y1) rfl (by simpa using l)
        rw [decide_eq_false l]
        exact this
    · rw [if_neg y1]
      exact rdiv_q ka na kb nb ba bb sa sb _ w hs hs2 z0 (by simpa using y1) rfl (tdiv_in hn y0 y1)
theorem rmod_any (hn : In64 na) : Calls Tryd.prog 37 #[.agg #[.int .u8 ka, .bool ba, .int .i64 na, .string sa], .agg #[.int .u8 kb, .bool bb, .int .i64 nb, .string sb]] w (RefOut w (modR ⟨ka, ba, na, sa⟩ ⟨kb, bb, nb, sb⟩)) := by
  unfold modR mod1R
  simp only
  by_cases y0 : nb = 0
  · rw [if_pos y0]
    exact rmod_z ka na kb nb ba bb sa sb w hs hs2 (by simpa using y0)
  · rw [if_neg y0]
    have z0 : (nb == 0) = false := by simpa using y0
    by_cases y1 : nb = -1
    · rw [if_pos y1]
      exact rmod_m ka na kb nb ba bb sa sb w hs hs2 z0 (by simpa using y1)
    · rw [if_neg y1]
      exact rmod_q ka na kb nb ba bb sa sb _ w hs hs2 z0 (by simpa using y1) rfl (tmod_bound na nb hn)
end
/-! ### Neg -/
def negR (a : Dat) : Dat × Int := applyR 3 [a] (outR (-a.n))
theorem ok_zero : okD 3 (Dat.int 0) = true := by rfl
theorem apply_zero (a : Dat) (r : Dat × Int) : applyR 3 [Dat.int 0, a] r = applyR 3 [a] r := by
  have h : ofT 3 [Dat.int 0, a] = ofT 3 [a] := by
    unfold ofT
    simp only [List.all_cons, List.all_nil, List.any_cons, List.any_nil, ok_zero, Bool.true_and, Bool.and_true, Bool.or_false]
    rfl
  unfold applyR
  rw [h]
theorem sub_zero {a : Dat} (hn : In64 a.n) : subR (Dat.int 0) a = negR a := by
  unfold subR negR
  rw [apply_zero, show sub1R (Dat.int 0).n a.n = sub1R 0 a.n from rfl, sub_out (by unfold In64; omega) hn, Int.zero_sub]
theorem rneg_any (ka na : Int) (ba : Bool) (sa : ByteArray) (w : World) (hs : sa.size ≤ 140737488355328) (hn : In64 na) : Calls Tryd.prog 32 #[.agg #[.int .u8 ka, .bool ba, .int .i64 na, .string sa]] w (RefOut w (negR ⟨ka, ba, na, sa⟩)) := by
  unfold negR
  simp only
  obtain ⟨c, hc⟩ : ∃ c, wrap64 (-na) = c := ⟨_, rfl⟩
  by_cases l : na = -9223372036854775808
  · rw [← num_out (c := c) (by unfold In64; omega)]; exact rneg_1 ka na ba sa c w hs hc (by simpa using l)
  · rw [← num_in (by unfold In64 at hn ⊢; omega) hc]; exact rneg_0 ka na ba sa c w hs hc (by simpa using l)
theorem sub_lit {r : Dat × Int} (a b : Dat) (w : World) (h : Hid (subR a b = r)) (hs : a.s.size ≤ 9223372036854775807) (hs2 : b.s.size ≤ 9223372036854775807) (G : Good w) :
    Calls Tryd.prog 28 #[.agg #[.int .u8 a.k, .bool a.b, .int .i64 a.n, .string a.s], .agg #[.int .u8 b.k, .bool b.b, .int .i64 b.n, .string b.s]] w (Out w r) := h.out ▸ sub_any a b w hs hs2 G
end Go.Proofs.YtobgfegdfcpgfaaDoor
