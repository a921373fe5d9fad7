/- The plain law of DatumRing: sums, products, quotients and rests of numbers of 64 bits. -/
import Derived.Test.YtobgfegdfcpgfaaDoorDMul
namespace Go.Proofs.YtobgfegdfcpgfaaDoor
open Go.RowKit

def In64 (n : Int) : Prop := -9223372036854775808 ≤ n ∧ n ≤ 9223372036854775807
instance (n : Int) : Decidable (In64 n) := by unfold In64; exact inferInstance
theorem wrap_in {n : Int} (h : In64 n) : wrap64 n = n := by unfold In64 at h; unfold wrap64; omega
theorem wrap_is (n : Int) : In64 (wrap64 n) ∧ ∃ k : Int, wrap64 n = n + 18446744073709551616 * k := by
  unfold In64 wrap64
  refine ⟨by omega, -((n + 9223372036854775808) / 18446744073709551616), by omega⟩

/-- a number, or an error where it is too great -/
def outR (n : Int) : Dat × Int := if In64 n then (Dat.int n, 0) else (Dat.zero, 10)
theorem add_out {n m : Int} (hn : In64 n) (hm : In64 m) : add1R n m = outR (n + m) := by
  unfold add1R outR wholeR
  by_cases h : In64 (n + m)
  · rw [if_pos h, wrap_in h]
    have e : (decide (n < n + m) != decide (0 < m)) = false := by
      by_cases h2 : 0 < m
      · rw [decide_eq_true (show n < n + m by omega), decide_eq_true h2]; rfl
      · rw [decide_eq_false (show ¬ n < n + m by omega), decide_eq_false h2]; rfl
    rw [e]; rfl
  · rw [if_neg h]
    have e : (decide (n < wrap64 (n + m)) != decide (0 < m)) = true := by
      unfold In64 at h hn hm
      unfold wrap64
      by_cases h2 : 0 < m
      · rw [decide_eq_false (by omega), decide_eq_true h2]; rfl
      · rw [decide_eq_true (by omega), decide_eq_false h2]; rfl
    rw [e]; rfl
theorem sub_out {n m : Int} (hn : In64 n) (hm : In64 m) : sub1R n m = outR (n - m) := by
  unfold sub1R outR wholeR
  by_cases h : In64 (n - m)
  · rw [if_pos h, wrap_in h]
    have e : (decide (n - m < n) != decide (0 < m)) = false := by
      by_cases h2 : 0 < m
      · rw [decide_eq_true (show n - m < n by omega), decide_eq_true h2]; rfl
      · rw [decide_eq_false (show ¬ n - m < n by omega), decide_eq_false h2]; rfl
    rw [e]; rfl
  · rw [if_neg h]
    have e : (decide (wrap64 (n - m) < n) != decide (0 < m)) = true := by
      unfold In64 at h hn hm
      unfold wrap64
      by_cases h2 : 0 < m
      · rw [decide_eq_false (by omega), decide_eq_true h2]; rfl
      · rw [decide_eq_true (by omega), decide_eq_false h2]; rfl
    rw [e]; rfl

theorem tdiv_range {c y : Int} (hc : In64 c) : -9223372036854775808 ≤ c.tdiv y ∧ c.tdiv y ≤ 9223372036854775808 := by
  unfold In64 at hc
  have h1 : (c.tdiv y).natAbs ≤ c.natAbs := by rw [Int.natAbs_tdiv]; exact Nat.div_le_self _ _
  omega
theorem tmod_lt {c y : Int} (hy : y ≠ 0) : (c.tmod y).natAbs < y.natAbs := by rw [Int.natAbs_tmod]; exact Nat.mod_lt _ (by omega)
theorem wide_iff {x y : Int} (hx : In64 x) (hy : In64 y) (y0 : y ≠ 0) : wideT x y = !decide (In64 (x * y)) := by
  have hb : (quoT (wrap64 (x * y)) y != x) = false ↔ quoT (wrap64 (x * y)) y = x := by simp
  by_cases h : In64 (x * y)
  · rw [decide_eq_true h]
    have hq : quoT (wrap64 (x * y)) y = x := by
      unfold quoT
      rw [wrap_in h, Int.mul_tdiv_cancel _ y0, wrap_in hx]
    unfold wideT
    rw [hb.2 hq]
    have s1 : (x == -1 && y == -9223372036854775808) = false := by
      by_cases h1 : x = -1 ∧ y = -9223372036854775808
      · obtain ⟨rfl, rfl⟩ := h1
        exact absurd h (by unfold In64; omega)
      · simpa using h1
    have s2 : (y == -1 && x == -9223372036854775808) = false := by
      by_cases h1 : y = -1 ∧ x = -9223372036854775808
      · obtain ⟨rfl, rfl⟩ := h1
        exact absurd h (by unfold In64; omega)
      · simpa using h1
    rw [s1, s2]; rfl
  · rw [decide_eq_false h]
    obtain ⟨hc, k, hk⟩ := wrap_is (x * y)
    obtain ⟨c, hcc⟩ : ∃ c, wrap64 (x * y) = c := ⟨_, rfl⟩
    rw [hcc] at hc hk
    unfold wideT
    rw [hcc]
    by_cases hs : y = -1 ∧ x = -9223372036854775808
    · obtain ⟨rfl, rfl⟩ := hs
      simp
    · have hne : (quoT c y != x) = true := by
        rw [bne_iff_ne]
        intro hq
        have hr := tdiv_range (y := y) hc
        have hlt := tmod_lt (c := c) y0
        have hdm := Int.mul_tdiv_add_tmod c y
        have hq1 : c.tdiv y = x := by
          by_cases hi : In64 (c.tdiv y)
          · unfold quoT at hq
            rw [wrap_in hi] at hq
            exact hq
          · exfalso
            have h63 : c.tdiv y = 9223372036854775808 := by unfold In64 at hi; omega
            have hx2 : x = -9223372036854775808 := by
              rw [← hq]; unfold quoT; rw [h63]; unfold wrap64; omega
            have hy1 : y = -1 := by
              rw [h63] at hdm
              unfold In64 at hc hy
              by_cases p1 : 1 ≤ y
              · omega
              · by_cases p2 : y ≤ -2
                · omega
                · omega
            exact hs ⟨hy1, hx2⟩
        rw [hq1, Int.mul_comm y x] at hdm
        obtain ⟨P, hP⟩ : ∃ P, x * y = P := ⟨_, rfl⟩
        rw [hP] at hdm hk h
        unfold In64 at hy hc h
        omega
      rw [hne]; rfl
theorem mul_out {x y : Int} (hx : In64 x) (hy : In64 y) : mul1R x y = outR (x * y) := by
  unfold mul1R
  by_cases h0 : x = 0 ∨ y = 0
  · rw [if_pos h0]
    have : x * y = 0 := by rcases h0 with rfl | rfl <;> simp
    rw [this]; rfl
  · rw [if_neg h0, wide_iff hx hy (by omega)]
    unfold outR wholeR
    by_cases h : In64 (x * y)
    · rw [if_pos h, decide_eq_true h, wrap_in h]; rfl
    · rw [if_neg h, decide_eq_false h]; rfl
theorem div_out {x y : Int} (hx : In64 x) (y0 : y ≠ 0) : div1R x y = outR (x.tdiv y) := by
  unfold div1R
  rw [if_neg y0]
  by_cases y1 : y = -1
  · subst y1
    rw [if_pos rfl]
    have e : x.tdiv (-1) = -x := by rw [Int.tdiv_neg, Int.tdiv_one]
    rw [e]
    unfold wholeR outR
    by_cases h : x = -9223372036854775808
    · subst h; rfl
    · rw [decide_eq_false h]
      have hi : In64 (-x) := by unfold In64 at *; omega
      rw [if_pos hi, wrap_in hi]; rfl
  · rw [if_neg y1]
    have hi : In64 (x.tdiv y) := by
      have hr := tdiv_range (y := y) hx
      have hdm := Int.mul_tdiv_add_tmod x y
      have hlt := tmod_lt (c := x) y0
      by_cases hh : x.tdiv y = 9223372036854775808
      · exfalso
        rw [hh] at hdm
        unfold In64 at hx
        by_cases p1 : 1 ≤ y
        · omega
        · by_cases p2 : y ≤ -2
          · omega
          · omega
      · unfold In64; omega
    unfold outR
    rw [if_pos hi]
theorem mod_out {x y : Int} (y0 : y ≠ 0) : mod1R x y = (Dat.int (x.tmod y), 0) := by
  unfold mod1R
  rw [if_neg y0]
  by_cases y1 : y = -1
  · subst y1
    rw [if_pos rfl]
    have : x.tmod (-1) = 0 := by
      have := tmod_lt (c := x) (y := -1) (by omega)
      have e : (-1 : Int).natAbs = 1 := rfl
      omega
    rw [this]
  · rw [if_neg y1]

theorem of_ints (n m : Int) : ofT 3 [Dat.int n, Dat.int m] = (false, 0) := by
  have h : ∀ n, okD 3 (Dat.int n) = true := fun n => by
    unfold okD Dat.check Dat.int
    rw [decide_eq_true_iff]
    exact ⟨by rw [checkT_on (by simp)]; rfl, Or.inl rfl⟩
  unfold ofT
  rw [if_pos (by simp [h])]
  rfl
theorem apply_ints (n m : Int) (r : Dat × Int) : applyR 3 [Dat.int n, Dat.int m] r = r := by
  unfold applyR
  rw [of_ints, if_pos rfl]
  rfl
end Go.Proofs.YtobgfegdfcpgfaaDoor
