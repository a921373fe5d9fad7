/- much of two times. Conditions: where the two lie. -/
import Derived.Test.YtilbfmfioopiiaaDoorSame
namespace Go.Proofs.YtilbfmfioopiiaaDoor
open Go.RowKit

theorem much2 (g na nb : Nat) (b : Bool) (w : World) (e1 e2 : Int) (A1 A2 : Option Addr) (c1 c2 : Nat)
    (hc : Bk w g 28 #[.int .u64 e1, .slice A1 na c1, .int .u64 e2, .slice A2 nb c2]) (hb : b = decide (40 < na ∨ 40 < nb)) :
    Calls Tryd.prog 6 #[.slice (some ⟨g, 0, none⟩) 2 2] w fun e w' => e = .returned (.bool b) ∧ Ext w w' := by
  have h := much_any g 2 2 (fun i => match i with | 0 => na | _ => nb) w (by omega) (fun i hi => by
    match i with
    | 0 => exact ⟨_, _, hc.cell 1⟩
    | 1 => exact ⟨_, _, hc.cell 3⟩
    | n + 2 => omega)
  refine h.mono fun e w' ⟨he, hx⟩ => ⟨he.trans (ret_bool ?_), hx⟩
  rw [hb, decide_eq_decide]
  constructor
  · rintro ⟨i, hi, h40⟩
    match i with
    | 0 => exact Or.inl h40
    | 1 => exact Or.inr h40
    | n + 2 => omega
  · rintro (h1 | h1)
    · exact ⟨0, by omega, h1⟩
    · exact ⟨1, by omega, h1⟩
end Go.Proofs.YtilbfmfioopiiaaDoor
