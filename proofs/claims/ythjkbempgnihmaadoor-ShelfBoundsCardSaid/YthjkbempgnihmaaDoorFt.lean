
/- The types of lists of fields, of what was picked, known. -/
import Derived.Test.YthjkbempgnihmaaDoorChecked
import Derived.Test.YthjkbempgnihmaaDoorOpen
namespace Go.Proofs.YthjkbempgnihmaaDoor
open Go.RowKit Go.Dr
theorem ftF : FT Tryd.prog 26 45 9 4 :=
  ⟨Tryd.underlying26, ⟨_, _, _, Tryd.underlying45, ⟨rfl, rfl⟩, ⟨rfl, rfl⟩, ⟨rfl, rfl⟩⟩, Tryd.underlying9, Tryd.underlying4, by kernel_rfl, by kernel_rfl, by kernel_rfl, by kernel_rfl⟩
theorem ftP : FT Tryd.prog 25 47 9 4 :=
  ⟨Tryd.underlying25, ⟨_, _, _, Tryd.underlying47, ⟨rfl, rfl⟩, ⟨rfl, rfl⟩, ⟨rfl, rfl⟩⟩, Tryd.underlying9, Tryd.underlying4, by kernel_rfl, by kernel_rfl, by kernel_rfl, by kernel_rfl⟩
end Go.Proofs.YthjkbempgnihmaaDoor
