/- How many digits a number has. Plain. -/
import Derived.Test.YtmdakaflmheidaaGreatDoorBase
import Derived.Lib.ItoaMem
namespace Go.Proofs.YtmdakaflmheidaaGreatDoor

theorem digits_len : ∀ (f u : Nat), u < 10 ^ (f + 1) → (Lib.decDigits u).length ≤ f + 1
  | 0, u, h => by
    unfold Lib.decDigits
    rw [dif_pos (by omega)]
    simp
  | f + 1, u, h => by
    unfold Lib.decDigits
    split
    · simp
    · have := digits_len f (u / 10) (by rw [Nat.pow_succ] at h; omega)
      simp
      omega
end Go.Proofs.YtmdakaflmheidaaGreatDoor
