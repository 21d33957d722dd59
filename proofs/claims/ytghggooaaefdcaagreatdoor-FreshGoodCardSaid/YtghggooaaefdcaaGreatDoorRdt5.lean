
/- The walks of the reference's dates: the number, the month that stand at a place. -/
import Derived.Test.YtghggooaaefdcaaGreatDoorRdt3
import Derived.Deep.RegionHeld3
import Derived.BigQuiet
namespace Go.Dr
theorem isDig_i (c : UInt8) (h : isDig c = true) : (48 : Int) ≤ (c.toNat : Int) ∧ (c.toNat : Int) ≤ 57 := by
  simp only [isDig, decide_eq_true_iff] at h
  omega
theorem twoF_no1 {s : Bytes} {a : Int} (h : a < 0) : twoF s a = -1 := by unfold twoF; rw [if_neg]; omega
theorem twoF_no2 {s : Bytes} {a : Int} (h : (s.length : Int) < a + 2) : twoF s a = -1 := by unfold twoF; rw [if_neg]; omega
theorem getD_at (s : Bytes) (k : Nat) (h : k < s.length) : s.getD k 0 = s[k] := by simp [List.getD, List.getElem?_eq_getElem h]
theorem twoF_no3 {s : Bytes} {k : Nat} (h : k + 1 < s.length) (hd : isDig s[k] = false) : twoF s (k : Int) = -1 := by
  unfold twoF
  rw [if_neg]
  intro e
  have := e.2.2.1
  rw [Int.toNat_natCast, getD_at s k (by omega), hd] at this
  cases this
theorem twoF_no4 {s : Bytes} {k : Nat} (h : k + 1 < s.length) (hd : isDig s[k + 1] = false) : twoF s (k : Int) = -1 := by
  unfold twoF
  rw [if_neg]
  intro e
  have := e.2.2.2
  rw [Int.toNat_natCast, getD_at s (k + 1) (by omega), hd] at this
  cases this
theorem twoF_yes {s : Bytes} {k : Nat} (h : k + 1 < s.length) (h1 : isDig s[k] = true) (h2 : isDig s[k + 1] = true) : twoF s (k : Int) = ((s[k].toNat : Int) - 48) * 10 + ((s[k + 1].toNat : Int) - 48) := by
  unfold twoF
  rw [Int.toNat_natCast, getD_at s k (by omega), getD_at s (k + 1) (by omega), if_pos ⟨by omega, by omega, h1, h2⟩]
end Go.Dr
namespace Go.Proofs.YtghggooaaefdcaaGreatDoor
open Go.RowKit Go.Dr

set_option linter.unusedVariables false in
set_option maxRecDepth 100000 in
set_option maxHeartbeats 2000000 in
theorem refTwo_any (s : Bytes) (a : Int) (w : World) (hs : s.length ≤ 1099511627776) (ha : -1000 ≤ a) (ha2 : a ≤ 2199023255552) : Calls Tryz.prog 117 #[S s, .int .i64 a] w fun e w' => e = .returned (.int .i64 (twoF s a)) ∧ Below w.heap.size w w' := by
  by_cases h0 : a < 0
  · have H := Lib.hid (twoF_no1 (s := s) h0)
    go_enter Tryz.func117, Tryz.ntmps117
    go_wp2
    go_ret
    exact ⟨ret_int H.out.symm, Below.refl _ _⟩
  obtain ⟨k, rfl⟩ := Int.eq_ofNat_of_zero_le (show 0 ≤ a by omega)
  by_cases h1 : (s.length : Int) < (k : Int) + 2
  · have H := Lib.hid (twoF_no2 (s := s) h1)
    go_enter Tryz.func117, Tryz.ntmps117
    go_wp2
    go_ret
    exact ⟨ret_int H.out.symm, Below.refl _ _⟩
  have hk : k + 1 < s.length := by omega
  have D1 := Lib.hid (fun w => refDigit_any s[k] w)
  have D2 := Lib.hid (fun w => refDigit_any s[k + 1] w)
  clear h0
  cases hd1 : isDig s[k] with
  | false =>
    have H := Lib.hid (twoF_no3 hk hd1)
    rw [hd1] at D1
    clear hd1 D2
    go_enter Tryz.func117, Tryz.ntmps117
    go_wp2_with fail
    refine (D1.out _).mono ?_
    rintro e w1 ⟨rfl, rfl⟩
    go_wp2
    go_ret
    exact ⟨ret_int H.out.symm, Below.refl _ _⟩
  | true =>
    cases hd2 : isDig s[k + 1] with
    | false =>
      have H := Lib.hid (twoF_no4 hk hd2)
      rw [hd1] at D1
      rw [hd2] at D2
      clear hd1 hd2
      go_enter Tryz.func117, Tryz.ntmps117
      go_wp2_with fail
      refine (D1.out _).mono ?_
      rintro e w1 ⟨rfl, rfl⟩
      go_wp2_with fail
      refine (D2.out _).mono ?_
      rintro e w1 ⟨rfl, rfl⟩
      go_wp2
      go_ret
      exact ⟨ret_int H.out.symm, Below.refl _ _⟩
    | true =>
      have H := Lib.hid (twoF_yes hk hd1 hd2)
      have b1 := isDig_i _ hd1
      have b2 := isDig_i _ hd2
      rw [hd1] at D1
      rw [hd2] at D2
      clear hd1 hd2
      go_enter Tryz.func117, Tryz.ntmps117
      go_wp2_with fail
      refine (D1.out _).mono ?_
      rintro e w1 ⟨rfl, rfl⟩
      go_wp2_with fail
      refine (D2.out _).mono ?_
      rintro e w1 ⟨rfl, rfl⟩
      go_wp2
      go_quiet (fail)
      go_wp2
      go_ret
      exact ⟨ret_int H.out.symm, below_drewN (Below.refl _ _) _⟩
end Go.Proofs.YtghggooaaefdcaaGreatDoor
