/- Worlds in which the library's functions that read tables answer as their contracts say. Conditions: each theorem states its own. -/
import Derived.Test.YtngeioghihbkeaaDoorTwo
import Derived.Test.YtngeioghihbkeaaDoorProg
import Derived.Lib.ValidU
namespace Go.Proofs.YtngeioghihbkeaaDoor
open Go.RowKit

def validB (s : ByteArray) : Bool := Lib.validD s.data.toList
/-- from here on the library's tables stand as they were laid: told by what its functions answer -/
structure Good (w : World) : Prop where
  valid : ∀ (s : ByteArray) (W : World), s.size ≤ 9223372036854775807 → Ext w W → Calls Tryd.prog 99 #[.string s] W fun e w' => e = .returned (.bool (validB s)) ∧ Ext W w'
theorem Good.ext {w w' : World} (h : Good w) (x : Ext w w') : Good w' := ⟨fun s W hs hx => h.valid s W hs (x.trans hx)⟩

theorem valid_any (s : ByteArray) (w : World) (hs : s.size ≤ 9223372036854775807) (g : Good w) :
    Calls Tryd.prog 99 #[.string s] w fun e w' => e = .returned (.bool (validB s)) ∧ Ext w w' := g.valid s w hs (Ext.refl w)
end Go.Proofs.YtngeioghihbkeaaDoor
