
/- The types of lists of fields, of what was picked, known. -/
import Derived.Test.YtghggooaaefdcabDoorChecked
import Derived.Test.YtghggooaaefdcabDoorOpen
namespace Go.Proofs.YtghggooaaefdcabDoor
open Go.RowKit Go.Dr
theorem ftF : FT Tryd.prog 23 38 9 4 :=
  ⟨Tryd.underlying23, ⟨_, _, _, Tryd.underlying38, ⟨rfl, rfl⟩, ⟨rfl, rfl⟩, ⟨rfl, rfl⟩⟩, Tryd.underlying9, Tryd.underlying4, by kernel_rfl, by kernel_rfl, by kernel_rfl, by kernel_rfl⟩
theorem ftP : FT Tryd.prog 22 127 9 4 :=
  ⟨Tryd.underlying22, ⟨_, _, _, Tryd.underlying127, ⟨rfl, rfl⟩, ⟨rfl, rfl⟩, ⟨rfl, rfl⟩⟩, Tryd.underlying9, Tryd.underlying4, by kernel_rfl, by kernel_rfl, by kernel_rfl, by kernel_rfl⟩
end Go.Proofs.YtghggooaaefdcabDoor
