/- The plain law of StampGoes: ways one behind the other, times that stay ahead, ways that never come behind. -/
import Derived.Test.YtajnlihlannmeaaDoorOrderLaw
import Derived.Test.YtajnlihlannmeaaDoorApply
import Derived.Test.YtajnlihlannmeaaDoorPLeqB
import Derived.Test.YtajnlihlannmeaaDoorThen
namespace Go.Proofs.YtajnlihlannmeaaDoor
open Go.RowKit

/-- what a time has at a place -/
def pos (e : Int) (l : List Int) (k : Nat) : Int := if k = 0 then e else l.getD (k - 1) 0
/-- what it has there behind a way that keeps so many places -/
def goT (K : Nat) (a : Int) (m : List Int) (f : Nat → Int) (k : Nat) : Int := if k < K then f k else if k = K then f k + a else m.getD (k - K - 1) 0

theorem mid_length (l r : List Int) (v : Int) (m : Nat) (hm : m ≤ l.length) : (l.take m ++ [v] ++ r).length = m + 1 + r.length := by simp; omega
theorem mid_getD (l r : List Int) (v : Int) (m i : Nat) (hm : m ≤ l.length) : (l.take m ++ [v] ++ r).getD i 0 = if i < m then l.getD i 0 else if i = m then v else r.getD (i - m - 1) 0 := by
  have ht : (l.take m).length = m := by simp; omega
  simp only [List.getD_eq_getElem?_getD]
  by_cases h1 : i < m
  · rw [if_pos h1, List.append_assoc, List.getElem?_append_left (by omega), List.getElem?_take, if_pos h1]
  · rw [if_neg h1]
    by_cases h2 : i = m
    · rw [if_pos h2, List.append_assoc, List.getElem?_append_right (by omega), ht, h2]; simp
    · rw [if_neg h2, List.getElem?_append_right (by simp; omega)]
      simp only [List.length_append, ht, List.length_cons, List.length_nil]
      congr 2

theorem apply_ok {L a : Int} {m l : List Int} {e e' : Int} {l' : List Int} (h : applyT L a m e l = ((e', l'), 0)) :
    0 ≤ L ∧ L ≤ l.length ∧ l'.length = (l.length - L.toNat) + m.length ∧ ∀ k, k ≤ (l.length - L.toNat) + m.length → pos e' l' k = goT (l.length - L.toNat) a m (pos e l) k := by
  unfold applyT at h
  by_cases h0 : L < 0 ∨ (l.length : Int) < L
  · rw [if_pos h0] at h; simp at h
  rw [if_neg h0] at h
  obtain ⟨K, hK⟩ : ∃ K, K = l.length - L.toNat := ⟨_, rfl⟩
  rw [← hK] at h ⊢
  have hKl : K ≤ l.length := by omega
  refine ⟨by omega, by omega, ?_⟩
  unfold applyK at h
  by_cases hK0 : K = 0
  · rw [if_pos hK0] at h
    split at h
    · simp at h
    · split at h
      · simp at h
      · simp only [Prod.mk.injEq, and_true] at h
        obtain ⟨rfl, rfl⟩ := h
        subst hK0
        refine ⟨by omega, fun k hk => ?_⟩
        unfold pos goT
        by_cases hk0 : k = 0
        · subst hk0; simp
        · rw [if_neg hk0, if_neg (by omega), if_neg hk0, Nat.sub_zero]
  · rw [if_neg hK0] at h
    split at h
    · simp at h
    · split at h
      · simp at h
      · simp only [Prod.mk.injEq, and_true] at h
        obtain ⟨rfl, rfl⟩ := h
        refine ⟨by rw [mid_length _ _ _ _ (by omega)]; omega, fun k hk => ?_⟩
        unfold pos goT
        by_cases hk0 : k = 0
        · subst hk0; rw [if_pos rfl, if_pos (by omega)]; simp
        · rw [if_neg hk0, mid_getD _ _ _ _ _ (by omega)]
          by_cases h1 : k < K
          · rw [if_pos (by omega), if_pos h1]; simp [hk0]
          · rw [if_neg (by omega), if_neg h1]
            by_cases h2 : k = K
            · rw [if_pos (by omega), if_pos h2, h2]; simp [hK0]
            · rw [if_neg (by omega), if_neg h2]
              congr 1; omega

theorem pos_ext {e1 e2 : Int} {l1 l2 : List Int} (hl : l1.length = l2.length) (h : ∀ k, k ≤ l1.length → pos e1 l1 k = pos e2 l2 k) : e1 = e2 ∧ l1 = l2 := by
  refine ⟨by simpa [pos] using h 0 (by omega), getD_ext' hl fun k hk => ?_⟩
  have := h (k + 1) (by omega)
  simpa [pos] using this
theorem pos_leq {e1 e2 : Int} {l1 l2 : List Int} : leqT e1 l1 e2 l2 = true ↔ l1.length = l2.length ∧ ∀ k, k ≤ l1.length → pos e1 l1 k ≤ pos e2 l2 k := by
  rw [leq_iff]
  constructor
  · rintro ⟨a1, a2, a3⟩
    refine ⟨a1, fun k hk => ?_⟩
    unfold pos
    by_cases hk0 : k = 0
    · rw [if_pos hk0, if_pos hk0]; exact a2
    · rw [if_neg hk0, if_neg hk0]; exact a3 _ (by omega)
  · rintro ⟨a1, a3⟩
    refine ⟨a1, by simpa [pos] using a3 0 (by omega), fun k hk => ?_⟩
    have := a3 (k + 1) (by omega)
    simpa [pos] using this

/-- ONE WAY BEHIND ANOTHER ONE -/
theorem goes_both {Lp ap Lq aq ea : Int} {lp lq la : List Int} {x y z : Int × List Int} {r : Way} (h1 : applyT Lp ap lp ea la = (x, 0)) (h2 : thenT Lp ap lp Lq aq lq = (r, 0)) (h3 : applyT Lq aq lq x.1 x.2 = (y, 0))
    (h4 : applyT r.leave r.add r.enter ea la = (z, 0)) (hp : lp.length ≤ 40) (ha : la.length ≤ 40) (bp : -9223372036854775808 ≤ Lp ∧ Lp ≤ 9223372036854775807) : y.1 = z.1 ∧ y.2 = z.2 := by
  obtain ⟨ex, lx⟩ := x
  obtain ⟨ey, ly⟩ := y
  obtain ⟨ez, lz⟩ := z
  obtain ⟨p0, p1, p2, p3⟩ := apply_ok h1
  obtain ⟨q0, q1, q2, q3⟩ := apply_ok h3
  obtain ⟨z0, z1, z2, z3⟩ := apply_ok h4
  simp only at q0 q1 q2 q3 z0 z1 z2 z3 ⊢
  unfold thenT at h2
  by_cases c1 : Lq < 0
  · omega
  rw [if_neg c1] at h2
  by_cases c2 : Lq < lp.length
  · rw [if_pos c2] at h2
    split at h2
    · simp at h2
    · simp only [Prod.mk.injEq, and_true] at h2
      subst h2
      simp only at z0 z1 z2 z3
      have ml := mid_length lp lq (lp.getD (lp.length - Lq.toNat - 1) 0 + aq) (lp.length - Lq.toNat - 1) (by omega)
      have hlen : ly.length = lz.length := by rw [q2, z2, p2, ml]; omega
      refine pos_ext hlen fun k hk => ?_
      rw [q3 k (by omega), z3 k (by rw [← hlen, q2] at z2; omega)]
      unfold goT
      by_cases k1 : k < la.length - Lp.toNat
      · rw [if_pos (by omega), if_pos k1, p3 k (by omega)]
        unfold goT
        rw [if_pos k1]
      · by_cases k2 : k = la.length - Lp.toNat
        · rw [if_pos (by omega), if_neg k1, if_pos k2, p3 k (by omega)]
          unfold goT
          rw [if_neg k1, if_pos k2]
        · rw [if_neg k1, if_neg k2, mid_getD _ _ _ _ _ (by omega)]
          by_cases k3 : k < lx.length - Lq.toNat
          · rw [if_pos k3, if_pos (by omega), p3 k (by omega)]
            unfold goT
            rw [if_neg k1, if_neg k2]
          · rw [if_neg k3]
            by_cases k4 : k = lx.length - Lq.toNat
            · rw [if_pos k4, if_neg (by omega), if_pos (by omega), p3 k (by omega)]
              unfold goT
              rw [if_neg k1, if_neg k2]
              congr 2; omega
            · rw [if_neg k4, if_neg (by omega), if_neg (by omega)]
              congr 1; omega
  · rw [if_neg c2] at h2
    by_cases c3 : Lq = lp.length
    · rw [if_pos c3] at h2
      split at h2
      · simp at h2
      · simp only [Prod.mk.injEq, and_true] at h2
        subst h2
        simp only at z0 z1 z2 z3
        have hlen : ly.length = lz.length := by rw [q2, z2, p2]; omega
        refine pos_ext hlen fun k hk => ?_
        rw [q3 k (by omega), z3 k (by omega)]
        unfold goT
        by_cases k1 : k < la.length - Lp.toNat
        · rw [if_pos (by omega), if_pos k1, p3 k (by omega)]
          unfold goT
          rw [if_pos k1]
        · by_cases k2 : k = la.length - Lp.toNat
          · rw [if_neg (by omega), if_pos (by omega), if_neg k1, if_pos k2, p3 k (by omega)]
            unfold goT
            rw [if_neg k1, if_pos k2]
            omega
          · rw [if_neg (by omega), if_neg (by omega), if_neg k1, if_neg k2]
            congr 1; omega
    · rw [if_neg c3] at h2
      simp only [Prod.mk.injEq, and_true] at h2
      subst h2
      have hw : wrap64 (wrap64 (Lp + Lq) - lp.length) = Lp + Lq - lp.length := by unfold wrap64; omega
      simp only [hw] at z0 z1 z2 z3
      have hlen : ly.length = lz.length := by rw [q2, z2, p2]; omega
      refine pos_ext hlen fun k hk => ?_
      rw [q3 k (by omega), z3 k (by omega)]
      have e1 : lx.length - Lq.toNat = la.length - (Lp + Lq - lp.length).toNat := by omega
      unfold goT
      rw [e1]
      by_cases k1 : k < la.length - (Lp + Lq - lp.length).toNat
      · rw [if_pos k1, if_pos k1, p3 k (by omega)]
        unfold goT
        rw [if_pos (by omega)]
      · rw [if_neg k1, if_neg k1]
        by_cases k2 : k = la.length - (Lp + Lq - lp.length).toNat
        · rw [if_pos k2, if_pos k2, p3 k (by omega)]
          unfold goT
          rw [if_pos (by omega)]
        · rw [if_neg k2, if_neg k2]

/-- A TIME THAT IS AHEAD STAYS SO -/
theorem goes_mono {Lp ap ea eb : Int} {lp la lb : List Int} {x v : Int × List Int} (h1 : applyT Lp ap lp ea la = (x, 0)) (h2 : applyT Lp ap lp eb lb = (v, 0)) (h : leqT ea la eb lb = true) : leqT x.1 x.2 v.1 v.2 = true := by
  obtain ⟨ex, lx⟩ := x
  obtain ⟨ev, lv⟩ := v
  obtain ⟨p0, p1, p2, p3⟩ := apply_ok h1
  obtain ⟨q0, q1, q2, q3⟩ := apply_ok h2
  obtain ⟨a1, a2⟩ := pos_leq.1 h
  refine pos_leq.2 ⟨by rw [p2, q2]; omega, fun k hk => ?_⟩
  simp only at hk p2 q2
  rw [p3 k (by omega), q3 k (by omega), ← a1]
  unfold goT
  by_cases k1 : k < la.length - Lp.toNat
  · rw [if_pos k1, if_pos k1]; exact a2 k (by omega)
  · rw [if_neg k1, if_neg k1]
    by_cases k2 : k = la.length - Lp.toNat
    · rw [if_pos k2, if_pos k2]; have := a2 k (by omega); omega
    · rw [if_neg k2, if_neg k2]; exact Int.le_refl _

/-- A WAY THAT NEVER COMES BEHIND DOES NOT -/
theorem goes_never {Lp ap Lq aq ea : Int} {lp lq la : List Int} {x v : Int × List Int} (h1 : applyT Lp ap lp ea la = (x, 0)) (h2 : applyT Lq aq lq ea la = (v, 0)) (h : pathLeqT Lp ap lp Lq aq lq la.length = true) (ha : 0 ≤ ea) (hu : U32 la) : leqT x.1 x.2 v.1 v.2 = true := by
  obtain ⟨ex, lx⟩ := x
  obtain ⟨ev, lv⟩ := v
  obtain ⟨p0, p1, p2, p3⟩ := apply_ok h1
  obtain ⟨q0, q1, q2, q3⟩ := apply_ok h2
  unfold pathLeqT at h
  obtain ⟨-, -, -, -, -, -, -, b8, b9⟩ := of_decide_eq_true h
  have hpos : ∀ k, 0 ≤ pos ea la k := fun k => by
    unfold pos
    split
    · exact ha
    · exact (U32.at hu _).1
  refine pos_leq.2 ⟨by rw [p2, q2]; omega, fun k hk => ?_⟩
  simp only at hk p2 q2
  have hn := b9 k (by omega)
  unfold Never placeT at hn
  rw [p3 k (by omega), q3 k (by omega)]
  have hp := hpos k
  unfold goT
  by_cases k1 : k < la.length - Lp.toNat
  · rw [if_pos k1]
    rw [if_pos (show (k : Int) < la.length - Lp by omega)] at hn
    by_cases k2 : k < la.length - Lq.toNat
    · rw [if_pos k2]; exact Int.le_refl _
    · rw [if_neg k2]
      rw [if_neg (show ¬ (k : Int) < la.length - Lq by omega)] at hn
      by_cases k3 : k = la.length - Lq.toNat
      · rw [if_pos k3]
        rw [if_pos (show (k : Int) = la.length - Lq by omega)] at hn
        have := hn.1
        simp only at this
        omega
      · rw [if_neg (show ¬ (k : Int) = la.length - Lq by omega)] at hn
        simp at hn
  · rw [if_neg k1]
    rw [if_neg (show ¬ (k : Int) < la.length - Lp by omega)] at hn
    by_cases k3 : k = la.length - Lp.toNat
    · rw [if_pos k3]
      rw [if_pos (show (k : Int) = la.length - Lp by omega)] at hn
      by_cases k2 : k < la.length - Lq.toNat
      · rw [if_pos k2]
        rw [if_pos (show (k : Int) < la.length - Lq by omega)] at hn
        have := hn.1
        simp only at this
        omega
      · rw [if_neg k2]
        rw [if_neg (show ¬ (k : Int) < la.length - Lq by omega)] at hn
        by_cases k4 : k = la.length - Lq.toNat
        · rw [if_pos k4]
          rw [if_pos (show (k : Int) = la.length - Lq by omega)] at hn
          have := hn.1
          simp only at this
          omega
        · rw [if_neg (show ¬ (k : Int) = la.length - Lq by omega)] at hn
          simp at hn
    · rw [if_neg k3]
      rw [if_neg (show ¬ (k : Int) = la.length - Lp by omega)] at hn
      have e1 : ((k : Int) - (la.length - Lp) - 1).toNat = k - (la.length - Lp.toNat) - 1 := by omega
      rw [e1] at hn
      by_cases k2 : k < la.length - Lq.toNat
      · rw [if_pos k2]
        rw [if_pos (show (k : Int) < la.length - Lq by omega)] at hn
        have := hn.1
        simp only at this
        omega
      · rw [if_neg k2]
        rw [if_neg (show ¬ (k : Int) < la.length - Lq by omega)] at hn
        by_cases k4 : k = la.length - Lq.toNat
        · rw [if_pos k4]
          rw [if_pos (show (k : Int) = la.length - Lq by omega)] at hn
          have := hn.1
          simp only at this
          omega
        · rw [if_neg k4]
          rw [if_neg (show ¬ (k : Int) = la.length - Lq by omega)] at hn
          have e2 : ((k : Int) - (la.length - Lq) - 1).toNat = k - (la.length - Lq.toNat) - 1 := by omega
          rw [e2] at hn
          exact hn.1
end Go.Proofs.YtajnlihlannmeaaDoor
