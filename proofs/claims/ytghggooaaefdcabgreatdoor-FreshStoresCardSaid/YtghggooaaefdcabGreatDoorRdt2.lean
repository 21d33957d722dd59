
/- The walk of the reference's dates: a date's moment. -/
import Derived.Test.YtghggooaaefdcabGreatDoorRdt1
namespace Go.Proofs.YtghggooaaefdcabGreatDoor
open Go.RowKit Go.Dr

end Go.Proofs.YtghggooaaefdcabGreatDoor
