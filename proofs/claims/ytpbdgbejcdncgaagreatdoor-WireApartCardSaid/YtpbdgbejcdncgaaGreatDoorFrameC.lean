/- What the cards' frames import. -/
import Derived.Test.YtpbdgbejcdncgaaGreatDoorFrame
import Derived.Test.YtpbdgbejcdncgaaGreatDoorCards
import Derived.Test.YtpbdgbejcdncgaaGreatDoorTie
import Derived.LaidMore
import Derived.Lay
import Derived.SevenTiedAt
import Derived.Stop.Joined
