
/- The walk of the reference's dates: what is read of a text, kind by kind (printed by guessgen.py). -/
import Derived.Test.YtghggooaaefdcabGreatDoorRdt7
namespace Go.Dr
theorem twoF_bound (s : Bytes) (a : Int) : -1 ≤ twoF s a ∧ twoF s a ≤ 99 := by
  unfold twoF
  split
  · rename_i h
    have h1 := h.2.2.1
    have h2 := h.2.2.2
    simp only [isDig, decide_eq_true_iff] at h1 h2
    omega
  · omega
end Go.Dr
namespace Go.Proofs.YtghggooaaefdcabGreatDoor
open Go.RowKit Go.Dr

end Go.Proofs.YtghggooaaefdcabGreatDoor
