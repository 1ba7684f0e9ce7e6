/- What the cards' frames import. -/
import Derived.Test.YthdihhkadaafcaaGreatDoorFrame
import Derived.Test.YthdihhkadaafcaaGreatDoorCards
import Derived.Test.YthdihhkadaafcaaGreatDoorTie
import Derived.LaidMore
import Derived.Lay
import Derived.SevenTiedAt
import Derived.Stop.Joined
