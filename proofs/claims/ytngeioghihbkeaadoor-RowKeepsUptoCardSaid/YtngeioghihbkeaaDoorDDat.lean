/- A datum, field by field. Conditions: none. -/
import Derived.Test.YtngeioghihbkeaaDoorCheck
namespace Go.Proofs.YtngeioghihbkeaaDoor
open Go.RowKit

/-- a datum, field by field -/
structure Dat where
  k : Int
  b : Bool
  n : Int
  s : ByteArray
def Dat.zero : Dat := ⟨0, false, 0, ⟨#[]⟩⟩
def Dat.check (d : Dat) : Int := checkT d.k d.b d.n d.s
end Go.Proofs.YtngeioghihbkeaaDoor
