
/- The walk of layer 18's reference: an answer's age. -/
import Derived.Test.YtghggooaaefdcabGreatDoorRf18
import Derived.Deep.DeepCutAuto
namespace Go.Dr
theorem app_date (l : List F) (came : Int) : (if 0 ≤ dateI l dateN came ∧ dateI l dateN came < (clampT came : Nat) then ((clampT came : Nat) : Int) - dateI l dateN came else 0) = (appF l came : Nat) := by
  unfold dateI appF
  cases momB l dateN came
  · simp
  · simp only [if_true]
    split <;> omega
theorem appF_le (l : List F) (came : Int) : appF l came ≤ 1099511627776 := by
  have := clampT_le came
  unfold appF; split <;> omega
theorem dateI_le (l : List F) (name : Bytes) (came : Int) (h : momV l name came ≤ 1000000000000) : -1 ≤ dateI l name came ∧ dateI l name came ≤ 1000000000000 := by
  unfold dateI; split <;> omega
theorem told_nil {l : List F} (h : values l ageN = []) : toldF l = 0 := by unfold toldF; rw [h]
theorem told_cons {l : List F} {x : Bytes} {r : List Bytes} (h : values l ageN = x :: r) : toldF l = if (number 10 x).2 = 11 then 1099511627776 else (number 10 x).1 := by unfold toldF; rw [h]; rfl
end Go.Dr
namespace Go.Proofs.YtghggooaaefdcabGreatDoor
open Go.RowKit Go.Dr

end Go.Proofs.YtghggooaaefdcabGreatDoor
