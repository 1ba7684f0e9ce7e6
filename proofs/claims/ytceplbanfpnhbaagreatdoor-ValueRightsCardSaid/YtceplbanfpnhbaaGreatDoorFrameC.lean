/- What the cards' frames import. -/
import Derived.Test.YtceplbanfpnhbaaGreatDoorFrame
import Derived.Test.YtceplbanfpnhbaaGreatDoorCards
import Derived.Test.YtceplbanfpnhbaaGreatDoorTie
import Derived.LaidMore
import Derived.Lay
import Derived.SevenTiedAt
import Derived.Stop.Joined
