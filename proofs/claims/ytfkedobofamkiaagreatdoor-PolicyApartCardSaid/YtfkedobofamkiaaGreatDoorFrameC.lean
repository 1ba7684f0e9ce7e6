/- What the cards' frames import. -/
import Derived.Test.YtfkedobofamkiaaGreatDoorFrame
import Derived.Test.YtfkedobofamkiaaGreatDoorCards
import Derived.Test.YtfkedobofamkiaaGreatDoorTie
import Derived.LaidMore
import Derived.Lay
import Derived.SevenTiedAt
import Derived.Stop.Joined
