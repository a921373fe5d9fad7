/- datum.Check, its answer named. A datum that may be has a text that is not long. Conditions: each theorem states its own. -/
import Derived.Test.YtngeioghihbkeaaGreatDoorCheck
import Derived.Test.YtngeioghihbkeaaGreatDoorDOrdLaw
namespace Go.Proofs.YtngeioghihbkeaaGreatDoor
open Go.RowKit

theorem check_at {c : Int} (k : Int) (b : Bool) (n : Int) (s : ByteArray) (w : World) (h : Hid (checkT k b n s = c)) (hs : s.size ≤ 9223372036854775807) (g : Good w) :
    Calls Tryz.prog 25 #[.agg #[.int .u8 k, .bool b, .int .i64 n, .string s]] w fun e w' => e = .returned (.int .u16 c) ∧ Ext w w' := h.out ▸ check_any k b n s w hs g
end Go.Proofs.YtngeioghihbkeaaGreatDoor
namespace Go.Proofs.YtngeioghihbkeaaGreatDoor
open Go.RowKit

theorem size_of_check {k n : Int} {b : Bool} {s : ByteArray} (h : checkT k b n s = 0) : s.size ≤ 1000 := by
  rw [checkT_on (form_of h)] at h
  split at h
  · split at h
    · cases h
    · omega
  · cases h
end Go.Proofs.YtngeioghihbkeaaGreatDoor
