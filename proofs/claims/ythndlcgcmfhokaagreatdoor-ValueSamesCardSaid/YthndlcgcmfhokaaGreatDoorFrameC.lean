/- What the cards' frames import. -/
import Derived.Test.YthndlcgcmfhokaaGreatDoorFrame
import Derived.Test.YthndlcgcmfhokaaGreatDoorCards
import Derived.Test.YthndlcgcmfhokaaGreatDoorTie
import Derived.LaidMore
import Derived.Lay
import Derived.SevenTiedAt
import Derived.Stop.Joined
