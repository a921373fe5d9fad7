/- strconv.ParseUint at base 16, 8 bits, of two bytes. Conditions: each theorem states its own. -/
import Derived.Test.YtobgfegdfcpgfaaDoorPHex
namespace Go.Proofs.YtobgfegdfcpgfaaDoor
open Go.RowKit

def PUOut (h l : UInt8) (e : Ending) : Prop := (∃ u : Nat, e = .returned (.tuple #[.int .u64 u, .nilIface]) ∧ ((hexOk h && hexOk l) = true → u = 16 * hexV h + hexV l)) ∨ ((hexOk h && hexOk l) = false ∧ ∃ (u : Nat) (t : TypeId) (p : Value), e = .returned (.tuple #[.int .u64 u, .iface t p]))
set_option maxRecDepth 100000 in
set_option maxHeartbeats 1000000 in
theorem parseUint_any (t : ByteArray) (h l : UInt8) (ht : t.data.toList = [h, l]) (w : World) (G : Good3 w) :
    Calls Tryd.prog 104 #[.string t, .int .i64 16, .int .i64 8] w fun e w' => PUOut h l e ∧ Ext w w' := by
  have hsz : t.size = 2 := by
    have : t.data.toList.length = t.size := by simp
    rw [← this, ht]; rfl
  have HT := Lib.hid ht
  clear ht
  go_enter Tryd.func104, Tryd.ntmps104
  go_wp2_with fail
  refine (puHex t h l HT.out _).mono ?_
  rintro e w1 ⟨he, x1⟩
  rcases he with ⟨u, rfl, hu⟩ | ⟨hn, rfl⟩
  · have HU := Lib.hid hu
    clear hu
    go_wp2
    go_ret2
    exact ⟨.inl ⟨u, rfl, HU.out⟩, x1⟩
  · obtain ⟨t2, p2, h2⟩ := (G.ext x1).syn
    have HN := Lib.hid hn
    clear hn
    go_wp2_with (go_at_call 106; refine (Any.strconv_toError_syntax Tryd.laysTE _ t 16 8 _ _ (by omega) h2 (.inr ⟨_, _, rfl⟩)).mono ?_; rintro e w2 ⟨N, rfl, _, _, x2⟩)
    go_ret2
    exact ⟨.inr ⟨HN.out, _, _, _, rfl⟩, Ext.trans x1 x2⟩
end Go.Proofs.YtobgfegdfcpgfaaDoor
