
/- The types of lists of fields, of what was picked, known. -/
import Derived.Test.YtghggooaaefdcaaGreatDoorChecked
import Derived.Test.YtghggooaaefdcaaGreatDoorOpen
namespace Go.Proofs.YtghggooaaefdcaaGreatDoor
open Go.RowKit Go.Dr
theorem ftF : FT Tryz.prog 22 37 9 4 :=
  ⟨Tryz.underlying22, ⟨_, _, _, Tryz.underlying37, ⟨rfl, rfl⟩, ⟨rfl, rfl⟩, ⟨rfl, rfl⟩⟩, Tryz.underlying9, Tryz.underlying4, by kernel_rfl, by kernel_rfl, by kernel_rfl, by kernel_rfl⟩
theorem ftP : FT Tryz.prog 25 165 9 4 :=
  ⟨Tryz.underlying25, ⟨_, _, _, Tryz.underlying165, ⟨rfl, rfl⟩, ⟨rfl, rfl⟩, ⟨rfl, rfl⟩⟩, Tryz.underlying9, Tryz.underlying4, by kernel_rfl, by kernel_rfl, by kernel_rfl, by kernel_rfl⟩
end Go.Proofs.YtghggooaaefdcaaGreatDoor
