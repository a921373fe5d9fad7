/- The laid contracts that the texts lean on. Conditions: none. -/
import Derived.Test.YtngeioghihbkeaaGreatDoorShelf
import Derived.Test.YtngeioghihbkeaaGreatDoorShelfB
