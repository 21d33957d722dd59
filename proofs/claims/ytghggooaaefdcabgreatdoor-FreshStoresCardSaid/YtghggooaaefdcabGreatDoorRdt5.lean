
/- The walks of the reference's dates: the number, the month that stand at a place. -/
import Derived.Test.YtghggooaaefdcabGreatDoorRdt3
import Derived.Deep.RegionHeld3
import Derived.BigQuiet
namespace Go.Dr
theorem isDig_i (c : UInt8) (h : isDig c = true) : (48 : Int) ≤ (c.toNat : Int) ∧ (c.toNat : Int) ≤ 57 := by
  simp only [isDig, decide_eq_true_iff] at h
  omega
theorem twoF_no1 {s : Bytes} {a : Int} (h : a < 0) : twoF s a = -1 := by unfold twoF; rw [if_neg]; omega
theorem twoF_no2 {s : Bytes} {a : Int} (h : (s.length : Int) < a + 2) : twoF s a = -1 := by unfold twoF; rw [if_neg]; omega
theorem getD_at (s : Bytes) (k : Nat) (h : k < s.length) : s.getD k 0 = s[k] := by simp [List.getD, List.getElem?_eq_getElem h]
theorem twoF_no3 {s : Bytes} {k : Nat} (h : k + 1 < s.length) (hd : isDig s[k] = false) : twoF s (k : Int) = -1 := by
  unfold twoF
  rw [if_neg]
  intro e
  have := e.2.2.1
  rw [Int.toNat_natCast, getD_at s k (by omega), hd] at this
  cases this
theorem twoF_no4 {s : Bytes} {k : Nat} (h : k + 1 < s.length) (hd : isDig s[k + 1] = false) : twoF s (k : Int) = -1 := by
  unfold twoF
  rw [if_neg]
  intro e
  have := e.2.2.2
  rw [Int.toNat_natCast, getD_at s (k + 1) (by omega), hd] at this
  cases this
theorem twoF_yes {s : Bytes} {k : Nat} (h : k + 1 < s.length) (h1 : isDig s[k] = true) (h2 : isDig s[k + 1] = true) : twoF s (k : Int) = ((s[k].toNat : Int) - 48) * 10 + ((s[k + 1].toNat : Int) - 48) := by
  unfold twoF
  rw [Int.toNat_natCast, getD_at s k (by omega), getD_at s (k + 1) (by omega), if_pos ⟨by omega, by omega, h1, h2⟩]
end Go.Dr
namespace Go.Proofs.YtghggooaaefdcabGreatDoor
open Go.RowKit Go.Dr

end Go.Proofs.YtghggooaaefdcabGreatDoor
