
/- The types of lists of fields, of what was picked, known. -/
import Derived.Test.YtpbmmkonlboegaaDoorChecked
import Derived.Test.YtpbmmkonlboegaaDoorOpen2
namespace Go.Proofs.YtpbmmkonlboegaaDoor
open Go.RowKit Go.Dr
theorem ftF : FT Tryd.prog 23 31 9 4 :=
  ⟨Tryd.underlying23, ⟨_, _, _, Tryd.underlying31, ⟨rfl, rfl⟩, ⟨rfl, rfl⟩, ⟨rfl, rfl⟩⟩, Tryd.underlying9, Tryd.underlying4, by kernel_rfl, by kernel_rfl, by kernel_rfl, by kernel_rfl⟩
theorem ftP : FT Tryd.prog 22 55 9 4 :=
  ⟨Tryd.underlying22, ⟨_, _, _, Tryd.underlying55, ⟨rfl, rfl⟩, ⟨rfl, rfl⟩, ⟨rfl, rfl⟩⟩, Tryd.underlying9, Tryd.underlying4, by kernel_rfl, by kernel_rfl, by kernel_rfl, by kernel_rfl⟩
end Go.Proofs.YtpbmmkonlboegaaDoor
