/- penstockref01.Int, Text: what they answer. penstockref01.Null, Bool, Text: what they answer. Conditions: each theorem states its own. -/
import Derived.Test.YtngeioghihbkeaaDoorDDat
namespace Go.Proofs.YtngeioghihbkeaaDoor
open Go.RowKit

set_option maxRecDepth 100000 in
set_option maxHeartbeats 400000 in
theorem refInt_any (n : Int) (w : World) : Calls Tryd.prog 52 #[.int .i64 n] w fun e w' => e = .returned (.agg #[.int .u8 3, .bool false, .int .i64 n, .string ⟨#[]⟩]) ∧ Ext w w' := by
  go_enter Tryd.func52, Tryd.ntmps52
  go_wp2
  go_returns
  exact ⟨rfl, (Ext.refl w).alloc _⟩
end Go.Proofs.YtngeioghihbkeaaDoor
namespace Go.Proofs.YtngeioghihbkeaaDoor
open Go.RowKit

set_option maxRecDepth 100000 in
set_option maxHeartbeats 400000 in
theorem refNull_any (w : World) : Calls Tryd.prog 102 #[] w fun e w' => e = .returned (.agg #[.int .u8 1, .bool false, .int .i64 0, .string ⟨#[]⟩]) ∧ Ext w w' := by
  go_enter Tryd.func102, Tryd.ntmps102
  go_wp2
  go_returns
  exact ⟨rfl, (Ext.refl w).alloc _⟩
set_option maxRecDepth 100000 in
set_option maxHeartbeats 400000 in
theorem refBool_any (b : Bool) (w : World) : Calls Tryd.prog 103 #[.bool b] w fun e w' => e = .returned (.agg #[.int .u8 2, .bool b, .int .i64 0, .string ⟨#[]⟩]) ∧ Ext w w' := by
  go_enter Tryd.func103, Tryd.ntmps103
  go_wp2
  go_returns
  exact ⟨rfl, (Ext.refl w).alloc _⟩
set_option maxRecDepth 100000 in
set_option maxHeartbeats 400000 in
theorem refText_any (s : ByteArray) (w : World) : Calls Tryd.prog 105 #[.string s] w fun e w' => e = .returned (.agg #[.int .u8 4, .bool false, .int .i64 0, .string s]) ∧ Ext w w' := by
  go_enter Tryd.func105, Tryd.ntmps105
  go_wp2
  go_returns
  exact ⟨rfl, (Ext.refl w).alloc _⟩
end Go.Proofs.YtngeioghihbkeaaDoor
