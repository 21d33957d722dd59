
/- The walk of the reference's dates: may a date's parts be (printed by rightgen.py). -/
import Derived.Test.YtghggooaaefdcabGreatDoorRdt1
import Derived.BigQuiet
namespace Go.Proofs.YtghggooaaefdcabGreatDoor
open Go.RowKit Go.Dr

end Go.Proofs.YtghggooaaefdcabGreatDoor
