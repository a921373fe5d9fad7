/- penstockref01.Int, Text: what they answer. penstockref01.Null, Bool, Text: what they answer. What a function of penstockref01 answers with: a datum, a number. Conditions: each theorem states its own. -/
import Derived.Test.YtngeioghihbkeaaGreatDoorDDat
namespace Go.Proofs.YtngeioghihbkeaaGreatDoor
open Go.RowKit

set_option maxRecDepth 100000 in
set_option maxHeartbeats 400000 in
theorem refInt_any (n : Int) (w : World) : Calls Tryz.prog 19 #[.int .i64 n] w fun e w' => e = .returned (.agg #[.int .u8 3, .bool false, .int .i64 n, .string ⟨#[]⟩]) ∧ Ext w w' := by
  go_enter Tryz.func19, Tryz.ntmps19
  go_wp2
  go_returns
  exact ⟨rfl, (Ext.refl w).alloc _⟩
end Go.Proofs.YtngeioghihbkeaaGreatDoor
namespace Go.Proofs.YtngeioghihbkeaaGreatDoor
open Go.RowKit

set_option maxRecDepth 100000 in
set_option maxHeartbeats 400000 in
theorem refNull_any (w : World) : Calls Tryz.prog 36 #[] w fun e w' => e = .returned (.agg #[.int .u8 1, .bool false, .int .i64 0, .string ⟨#[]⟩]) ∧ Ext w w' := by
  go_enter Tryz.func36, Tryz.ntmps36
  go_wp2
  go_returns
  exact ⟨rfl, (Ext.refl w).alloc _⟩
set_option maxRecDepth 100000 in
set_option maxHeartbeats 400000 in
theorem refBool_any (b : Bool) (w : World) : Calls Tryz.prog 37 #[.bool b] w fun e w' => e = .returned (.agg #[.int .u8 2, .bool b, .int .i64 0, .string ⟨#[]⟩]) ∧ Ext w w' := by
  go_enter Tryz.func37, Tryz.ntmps37
  go_wp2
  go_returns
  exact ⟨rfl, (Ext.refl w).alloc _⟩
set_option maxRecDepth 100000 in
set_option maxHeartbeats 400000 in
theorem refText_any (s : ByteArray) (w : World) : Calls Tryz.prog 39 #[.string s] w fun e w' => e = .returned (.agg #[.int .u8 4, .bool false, .int .i64 0, .string s]) ∧ Ext w w' := by
  go_enter Tryz.func39, Tryz.ntmps39
  go_wp2
  go_returns
  exact ⟨rfl, (Ext.refl w).alloc _⟩
end Go.Proofs.YtngeioghihbkeaaGreatDoor
namespace Go.Proofs.YtngeioghihbkeaaGreatDoor
open Go.RowKit

def RefOut (w : World) (r : Dat × Int) (e : Ending) (w' : World) : Prop :=
  e = .returned (.tuple #[.agg #[.int .u8 r.1.k, .bool r.1.b, .int .i64 r.1.n, .string r.1.s], .int .i64 r.2]) ∧ Ext w w'
end Go.Proofs.YtngeioghihbkeaaGreatDoor
