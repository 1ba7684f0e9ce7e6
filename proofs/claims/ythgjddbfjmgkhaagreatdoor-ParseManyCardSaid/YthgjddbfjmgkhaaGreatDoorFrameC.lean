/- What the cards' frames import. -/
import Derived.Test.YthgjddbfjmgkhaaGreatDoorFrame
import Derived.Test.YthgjddbfjmgkhaaGreatDoorCards
import Derived.Test.YthgjddbfjmgkhaaGreatDoorTie
import Derived.LaidMore
import Derived.Lay
import Derived.SevenTiedAt
import Derived.Stop.Joined
