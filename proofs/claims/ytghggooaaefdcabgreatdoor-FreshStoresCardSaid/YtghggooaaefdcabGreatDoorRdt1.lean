
/- The walks of the reference's dates: leap years, months' days, a moment's date, a date's moment. (printed by rdtgen.py) -/
import Derived.Test.YtghggooaaefdcabGreatDoorPla
import Derived.Test.YtghggooaaefdcabGreatDoorDat1
import Derived.Test.YtghggooaaefdcabGreatDoorDig
import Derived.Test.YtghggooaaefdcabGreatDoorBase
namespace Go.Dr
theorem leap_400 (y : Nat) (h : y % 400 = 0) : leapY y = true := by
  have : y % 4 = 0 := by omega
  simp [leapY, h, this]
theorem leap_400b (y : Nat) (h : ((y : Int) % 400 == 0) = true) : true = leapY y := by
  have h2 : (y : Int) % 400 = 0 := by simpa using h
  exact (leap_400 y (by omega)).symm
theorem leap_p (y : Nat) (h' : ((y : Int) % 400 == 0) = false) (h4 : (y : Int) % 4 = 0) : ((y : Int) % 100 != 0) = leapY y := by
  have h : ¬ (y : Int) % 400 = 0 := by simpa using h'
  have a : y % 4 = 0 := by omega
  have b : ¬ y % 400 = 0 := by omega
  by_cases c : y % 100 = 0
  · have c' : (y : Int) % 100 = 0 := by omega
    simp [leapY, a, b, c, c']
  · have c' : ¬ (y : Int) % 100 = 0 := by omega
    simp [leapY, a, b, c, c']
theorem leap_q (y : Nat) (h4 : ¬ (y : Int) % 4 = 0) : false = leapY y := by
  have a : ¬ y % 4 = 0 := by omega
  simp [leapY, a]
theorem dig_a (c : UInt8) (h : 48 ≤ (c.toNat : Int)) : decide ((c.toNat : Int) ≤ 57) = isDig c := by
  unfold isDig
  by_cases h2 : (c.toNat : Int) ≤ 57
  · rw [decide_eq_true h2]; symm; simp; omega
  · rw [decide_eq_false h2]; symm; simp; omega
theorem dig_b (c : UInt8) (h : ¬ 48 ≤ (c.toNat : Int)) : false = isDig c := by
  unfold isDig
  symm; simp; omega
/-- A date as a value. -/
def Dt.cells (x : Dt) : Array Value := #[.int .i64 x.year, .int .i64 ((x.month : Int) + 1), .int .i64 x.day, .int .i64 x.hour, .int .i64 x.min, .int .i64 x.sec, .int .i64 x.week]
def Dt.val (x : Dt) : Value := .agg #[.int .i64 x.year, .int .i64 ((x.month : Int) + 1), .int .i64 x.day, .int .i64 x.hour, .int .i64 x.min, .int .i64 x.sec, .int .i64 x.week]
end Go.Dr
namespace Go.Proofs.YtghggooaaefdcabGreatDoor
open Go.RowKit Go.Dr

theorem refDigit_any (c : UInt8) (w : World) : Calls Tryz.prog 125 #[B8 c] w fun e w' => e = .returned (.bool (isDig c)) ∧ w = w' := by
  go_enter Tryz.func125, Tryz.ntmps125
  go_wp2
  all_goals
    go_ret
    first
      | exact ⟨ret_bool (dig_a c (by omega)), rfl⟩
      | exact ⟨ret_bool (dig_b c (by omega)), rfl⟩

theorem cells7 (a0 a1 a2 a3 a4 a5 a6 b0 b1 b2 b3 b4 b5 b6 : Value) : (((((((#[a0, a1, a2, a3, a4, a5, a6] : Array Value).setIfInBounds 0 b0).setIfInBounds 1 b1).setIfInBounds 2 b2).setIfInBounds 3 b3).setIfInBounds 4 b4).setIfInBounds 5 b5).setIfInBounds 6 b6 = #[b0, b1, b2, b3, b4, b5, b6] := by simp
theorem mLen_pos (y m : Nat) (hm : m < 12) : 28 ≤ mLen y m := by
  unfold mLen
  split
  · decide
  · match m, hm with
    | 0, _ | 1, _ | 2, _ | 3, _ | 4, _ | 5, _ | 6, _ | 7, _ | 8, _ | 9, _ | 10, _ | 11, _ => decide
theorem begY_1970 : begY 1970 = 0 := by decide
theorem yl_int (y : Nat) (h : 1970 ≤ y) : begY (y + 1) = begY y + (365 + (if leapY y = true then 1 else 0)) := by rw [begY_step y h]; omega
theorem ahead_lt (y m d : Nat) (h : d < 365 + (if leapY y = true then 1 else 0)) (hm : aheadM y m ≤ d) : m < 12 := by
  by_cases h1 : m < 12
  · exact h1
  · have h2 := aheadM_mono y 12 (m - 12)
    rw [show 12 + (m - 12) = m by omega, aheadM_12] at h2
    omega

end Go.Proofs.YtghggooaaefdcabGreatDoor
