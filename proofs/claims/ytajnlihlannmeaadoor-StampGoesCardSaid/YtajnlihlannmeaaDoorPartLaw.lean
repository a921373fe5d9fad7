/- The plain law of StampPart: never-behind is a part order. -/
import Derived.Test.YtajnlihlannmeaaDoorPLeqB
import Derived.Test.YtajnlihlannmeaaDoorApply
namespace Go.Proofs.YtajnlihlannmeaaDoor

theorem never_refl (x : Bool × Int) : Never x x := ⟨Int.le_refl _, id⟩
theorem never_trans {x y z : Bool × Int} (h1 : Never x y) (h2 : Never y z) : Never x z := ⟨Int.le_trans h1.1 h2.1, fun h => h2.2 (h1.2 h)⟩

theorem part_trans (La aa Lb ab Lc ac d : Int) (la lb lc : List Int) (h1 : pathLeqT La aa la Lb ab lb d = true) (h2 : pathLeqT Lb ab lb Lc ac lc d = true) : pathLeqT La aa la Lc ac lc d = true := by
  unfold pathLeqT at *
  have g1 := of_decide_eq_true h1
  have g2 := of_decide_eq_true h2
  obtain ⟨a1, a2, a3, a4, a5, a6, a7, a8, a9⟩ := g1
  obtain ⟨b1, b2, b3, b4, b5, b6, b7, b8, b9⟩ := g2
  refine decide_eq_true ⟨a1, a2, a3, a4, b5, b6, a7, by omega, fun k hk => never_trans (a9 k hk) (b9 k (by omega))⟩

theorem part_refl (L a d e : Int) (l : List Int) (l2 : List Int) (hd : 0 ≤ d ∧ d ≤ 3) (hL : 0 ≤ L ∧ L ≤ d) (hl2 : (l2.length : Int) = d) (h : (applyT L a l e l2).2 = 0) : pathLeqT L a l L a l d = true := by
  unfold pathLeqT
  refine decide_eq_true ⟨hd.1, hd.2, hL.1, hL.2, hL.1, hL.2, ?_, rfl, fun k _ => never_refl _⟩
  unfold applyT at h
  rw [if_neg (by omega)] at h
  unfold applyK at h
  split at h
  · split at h
    · simp at h
    · split at h
      · simp at h
      · omega
  · split at h
    · simp at h
    · split at h
      · simp at h
      · omega
end Go.Proofs.YtajnlihlannmeaaDoor
