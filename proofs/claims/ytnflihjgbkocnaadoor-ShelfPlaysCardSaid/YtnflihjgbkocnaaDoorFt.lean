
/- The types of lists of fields, of what was picked, known. -/
import Derived.Test.YtnflihjgbkocnaaDoorChecked
import Derived.Test.YtnflihjgbkocnaaDoorOpen
namespace Go.Proofs.YtnflihjgbkocnaaDoor
open Go.RowKit Go.Dr
theorem ftF : FT Tryd.prog 34 62 9 4 :=
  ⟨Tryd.underlying34, ⟨_, _, _, Tryd.underlying62, ⟨rfl, rfl⟩, ⟨rfl, rfl⟩, ⟨rfl, rfl⟩⟩, Tryd.underlying9, Tryd.underlying4, by kernel_rfl, by kernel_rfl, by kernel_rfl, by kernel_rfl⟩
theorem ftP : FT Tryd.prog 33 53 9 4 :=
  ⟨Tryd.underlying33, ⟨_, _, _, Tryd.underlying53, ⟨rfl, rfl⟩, ⟨rfl, rfl⟩, ⟨rfl, rfl⟩⟩, Tryd.underlying9, Tryd.underlying4, by kernel_rfl, by kernel_rfl, by kernel_rfl, by kernel_rfl⟩
end Go.Proofs.YtnflihjgbkocnaaDoor
