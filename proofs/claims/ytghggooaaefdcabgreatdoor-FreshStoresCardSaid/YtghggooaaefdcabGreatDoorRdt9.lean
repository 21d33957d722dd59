
/- The walk of the reference's dates: a text's moment. -/
import Derived.Test.YtghggooaaefdcabGreatDoorRdt8
import Derived.Test.YtghggooaaefdcabGreatDoorRdt6
import Derived.Test.YtghggooaaefdcabGreatDoorRdt4
import Derived.Test.YtghggooaaefdcabGreatDoorRdt2
import Derived.Test.YtghggooaaefdcabGreatDoorDat8
namespace Go.Dr
theorem IsDt.year_of {v : Nat} {x : Dt} (h : IsDt v x) : x.year = yearOf (v / 86400) := by
  obtain ⟨x1, x2, x3, x4, x5, x6, x7, x8, x9⟩ := h
  have hd : v / 86400 = x.days := by rw [x9]; unfold Dt.at; omega
  have h1 := aheadM_mono x.year (x.month + 1) (12 - (x.month + 1))
  rw [show x.month + 1 + (12 - (x.month + 1)) = 12 by omega, aheadM_12] at h1
  have h2 := begY_step x.year x1
  have h3 : aheadM x.year (x.month + 1) = aheadM x.year x.month + mLen x.year x.month := rfl
  rw [hd]
  refine yearOf_eq x.days x.year x1 ?_ ?_
  · unfold Dt.days dayOf; omega
  · unfold Dt.days dayOf; omega
theorem refY_hit (s : Bytes) (y k : Nat) (hk : k < 3) (hj : ∀ j, j < k → (refF s j y).2 = false) (h : (refF s k y).2 = true) : refY s y = ((refF s k y).1, 0) := by
  unfold refY
  match k, hk with
  | 0, _ => rw [if_pos h]
  | 1, _ => rw [if_neg (by rw [hj 0 (by omega)]; simp), if_pos h]
  | 2, _ => rw [if_neg (by rw [hj 0 (by omega)]; simp), if_neg (by rw [hj 1 (by omega)]; simp), if_pos h]
theorem refY_none (s : Bytes) (y : Nat) (hj : ∀ j, j < 3 → (refF s j y).2 = false) : refY s y = (0, 10) := by
  unfold refY
  rw [if_neg (by rw [hj 0 (by omega)]; simp), if_neg (by rw [hj 1 (by omega)]; simp), if_neg (by rw [hj 2 (by omega)]; simp)]
theorem not_yet {P : Nat → Prop} {k : Nat} (h : ∀ j, j < k → P j) (hk : P k) : ∀ j, j < k + 1 → P j := fun j hj => by
  by_cases e : j = k
  · subst e; exact hk
  · exact h j (by omega)
theorem refF_no {s : Bytes} {k y : Nat} (h : rightG (guessF s k y) = false) : (refF s k y).2 = false := by unfold refF; rw [if_neg (by rw [h]; simp)]
theorem refF_yes {s : Bytes} {k y : Nat} (h : rightG (guessF s k y) = true) (b : Bool) (hb : ((guessF s k y).dt.text k == s) = b) : refF s k y = ((guessF s k y).dt.at, b) := by
  unfold refF; rw [if_pos h]
  congr 1
  rw [← hb, Bool.eq_iff_iff]; simp
end Go.Dr
namespace Go.Proofs.YtghggooaaefdcabGreatDoor
open Go.RowKit Go.Dr

end Go.Proofs.YtghggooaaefdcabGreatDoor
