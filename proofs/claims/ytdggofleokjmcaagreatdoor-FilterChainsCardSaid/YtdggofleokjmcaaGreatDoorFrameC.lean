/- What the cards' frames import. -/
import Derived.Test.YtdggofleokjmcaaGreatDoorFrame
import Derived.Test.YtdggofleokjmcaaGreatDoorCards
import Derived.Test.YtdggofleokjmcaaGreatDoorTie
import Derived.LaidMore
import Derived.Lay
import Derived.SevenTiedAt
import Derived.Stop.Joined
