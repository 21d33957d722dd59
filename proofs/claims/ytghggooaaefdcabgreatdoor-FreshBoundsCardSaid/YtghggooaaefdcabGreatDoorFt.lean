
/- The types of lists of fields, of what was picked, known. -/
import Derived.Test.YtghggooaaefdcabGreatDoorChecked
import Derived.Test.YtghggooaaefdcabGreatDoorOpen
namespace Go.Proofs.YtghggooaaefdcabGreatDoor
open Go.RowKit Go.Dr
theorem ftF : FT Tryz.prog 22 35 9 4 :=
  ⟨Tryz.underlying22, ⟨_, _, _, Tryz.underlying35, ⟨rfl, rfl⟩, ⟨rfl, rfl⟩, ⟨rfl, rfl⟩⟩, Tryz.underlying9, Tryz.underlying4, by kernel_rfl, by kernel_rfl, by kernel_rfl, by kernel_rfl⟩
theorem ftP : FT Tryz.prog 31 157 9 4 :=
  ⟨Tryz.underlying31, ⟨_, _, _, Tryz.underlying157, ⟨rfl, rfl⟩, ⟨rfl, rfl⟩, ⟨rfl, rfl⟩⟩, Tryz.underlying9, Tryz.underlying4, by kernel_rfl, by kernel_rfl, by kernel_rfl, by kernel_rfl⟩
end Go.Proofs.YtghggooaaefdcabGreatDoor
