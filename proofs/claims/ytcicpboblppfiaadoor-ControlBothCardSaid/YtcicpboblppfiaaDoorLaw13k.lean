
/- ControlBoth, small laws: two lists together say what either says. -/
import Derived.Test.YtcicpboblppfiaaDoorLaw13a
import Derived.Deep.DeepCutAuto
import Derived.Test.YtcicpboblppfiaaDoorBase3
namespace Go.Proofs.YtcicpboblppfiaaDoor
open Go.RowKit Go.Dr

theorem most_max (a b : Int) : most a b = max a b := by unfold most; split <;> omega
set_option linter.unusedVariables false in
theorem age_least (a b : Int) (h : -1 ≤ a) (h' : -1 ≤ b) : (if decide (a < 0 ∨ (0 ≤ b ∧ b < a)) = true then b else a) = least a b := by
  unfold least
  simp only [decide_eq_true_eq]
  repeat' split
  all_goals omega

end Go.Proofs.YtcicpboblppfiaaDoor
