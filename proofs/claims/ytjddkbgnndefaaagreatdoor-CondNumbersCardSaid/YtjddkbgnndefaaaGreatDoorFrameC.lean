/- What the cards' frames import. -/
import Derived.Test.YtjddkbgnndefaaaGreatDoorFrame
import Derived.Test.YtjddkbgnndefaaaGreatDoorCards
import Derived.Test.YtjddkbgnndefaaaGreatDoorTie
import Derived.LaidMore
import Derived.Lay
import Derived.SevenTiedAt
import Derived.Stop.Joined
