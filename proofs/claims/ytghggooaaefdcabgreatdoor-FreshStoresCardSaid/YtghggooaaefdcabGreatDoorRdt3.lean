
/- The walks of the reference's dates: numbers as texts, names. -/
import Derived.Test.YtghggooaaefdcabGreatDoorRdt1
namespace Go.Dr
def padF (n size : Nat) : Bytes := List.replicate (size - (digs n).length) 48 ++ digs n
theorem padF_2 (n : Nat) (h : n < 100) : padF n 2 = pad2 n := by
  unfold padF
  by_cases h1 : n < 10
  · rw [digs_small h1]
    have e : dg (n / 10) = 48 := by
      apply UInt8.toNat_inj.1
      rw [dg_nat]
      simp; omega
    simp [pad2, e]
  · rw [digs_step h1, digs_small (show n / 10 < 10 by omega)]
    simp [pad2]
theorem dg_zero (n : Nat) (h : n % 10 = 0) : dg n = 48 := by
  apply UInt8.toNat_inj.1
  rw [dg_nat]
  simp; omega
theorem padF_4 (n : Nat) (h0 : 1000 ≤ n) (h : n < 10000) : padF n 4 = pad4 n := by
  unfold padF
  rw [digs_step (show ¬ n < 10 by omega), digs_step (show ¬ n / 10 < 10 by omega), digs_step (show ¬ n / 10 / 10 < 10 by omega), digs_small (show n / 10 / 10 / 10 < 10 by omega)]
  have e1 : n / 10 / 10 = n / 100 := by omega
  have e2 : n / 10 / 10 / 10 = n / 1000 := by omega
  rw [e2, e1]
  simp [pad4]
end Go.Dr
namespace Go.Proofs.YtghggooaaefdcabGreatDoor
open Go.RowKit Go.Dr

theorem rep_succ (k : Nat) (l : Bytes) : (48 : UInt8) :: (List.replicate k 48 ++ l) = List.replicate (k + 1) 48 ++ l := rfl

end Go.Proofs.YtghggooaaefdcabGreatDoor
