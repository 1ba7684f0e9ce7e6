/- What the cards' frames import. -/
import Derived.Test.YtjddkbgnndefaaaDoorFrame
import Derived.Test.YtjddkbgnndefaaaDoorCards
import Derived.Test.YtjddkbgnndefaaaDoorTie
import Derived.LaidMore
import Derived.Lay
import Derived.SevenTiedAt
import Derived.Stop.Joined
