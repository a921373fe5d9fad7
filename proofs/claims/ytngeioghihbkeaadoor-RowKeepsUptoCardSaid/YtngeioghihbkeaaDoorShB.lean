/- The laid contracts that the texts lean on. Conditions: none. -/
import Derived.Test.YtngeioghihbkeaaDoorShelf
import Derived.Test.YtngeioghihbkeaaDoorShelfB
