/- DatumRing: the walk, all cases. Conditions: the library's tables stand. -/
import Derived.Test.YtobgfegdfcpgfaaDoorRingB
import Derived.Test.YtobgfegdfcpgfaaDoorRingC
namespace Go.Proofs.YtobgfegdfcpgfaaDoor
open Go.RowKit

theorem quot_in {n m : Int} (hn : In64 n) (hm : In64 m) (m0 : m < 0) (h : ¬ (n = -9223372036854775808 ∧ m = -1)) : In64 (n.tdiv m) := by
  have hr := tdiv_range (y := m) hn
  have hdm := Int.mul_tdiv_add_tmod n m
  have hlt := tmod_lt (c := n) (y := m) (by omega)
  by_cases hh : n.tdiv m = 9223372036854775808
  · exfalso
    rw [hh] at hdm
    unfold In64 at hn hm
    by_cases p2 : m ≤ -2
    · omega
    · exact h ⟨by omega, by omega⟩
  · unfold In64; omega
theorem ring_any (n m : Int) (w : World) (hn : In64 n) (hm : In64 m) (G : Good w) : Calls Tryd.prog 6 #[.int .i64 n, .int .i64 m] w fun e w' => e = .returned (.bool true) ∧ Ext w w' := by
  by_cases hs : In64 (n + m)
  · by_cases h0 : m = 0
    · exact ring_in_zero n m w hn hm hs h0 G
    · by_cases h1 : 0 < m
      · exact ring_in_pos n m w hn hm hs h1 G
      · by_cases h2 : n = -9223372036854775808 ∧ m = -1
        · exact ring_in_wide n m w hn hm hs h2 G
        · exact ring_in_neg n m w hn hm hs (by omega) (quot_in hn hm (by omega) h2) G
  · by_cases h0 : m = 0
    · exact ring_over_zero n m w hn hm hs h0 G
    · by_cases h1 : 0 < m
      · exact ring_over_pos n m w hn hm hs h1 G
      · by_cases h2 : n = -9223372036854775808 ∧ m = -1
        · exact ring_over_wide n m w hn hm hs h2 G
        · exact ring_over_neg n m w hn hm hs (by omega) (quot_in hn hm (by omega) h2) G
end Go.Proofs.YtobgfegdfcpgfaaDoor
