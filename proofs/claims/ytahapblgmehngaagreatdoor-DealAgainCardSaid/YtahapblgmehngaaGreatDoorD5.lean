/- Parts of the proof of DealAgain_holds: the texts Dat7 Dat8 Ctl1. -/
import Derived.Lib.IndexAny
import Derived.Test.YtahapblgmehngaaGreatDoorD4
set_option linter.unusedSimpArgs false
set_option linter.unusedVariables false
set_option linter.unnecessarySimpa false
set_option maxRecDepth 100000
set_option maxHeartbeats 64000000
namespace Go.Proofs.YtahapblgmehngaaGreatDoor
open Go.RowKit Go.Dr
structure Pt.Ok (p : Pt) : Prop where
  week : p.week < 7
  year : p.year ≤ 20000
  month : p.month < 12
  day : p.day < 100
  hour : p.hour < 100
  min : p.min < 100
  sec : p.sec < 100
  small : Pt.Sm p
theorem moment_bad (left : Bytes) (week year month day hour min sec : Nat) (b : Nat) (w : World) (h : PtAt w b ⟨left, week, year, month, day, hour, min, sec, true⟩) (hk : Pt.Ok ⟨left, week, year, month, day, hour, min, sec, true⟩) : Calls Tryz.prog 181 #[.pointer (some ⟨b, 0, none⟩)] w fun e w' => e = .returned (.tuple #[.int .i64 0, .bool false]) ∧ Below w.heap.size w w' := by
  obtain ⟨_, hk2, hk3, hk4, hk5, hk6, hk7, hk8⟩ := hk
  dsimp only at *
  have hk9 : left.length ≤ 1099511627776 := hk8; clear hk8; have k0 : w.cell? ⟨b, 0, none⟩ = some (S left) := h.cell 0; have k1 : w.cell? ⟨b, 1, none⟩ = some (.int .i64 (week : Nat)) := h.cell 1; have k2 : w.cell? ⟨b, 2, none⟩ = some (.int .i64 (year : Nat)) := h.cell 2; have k3 : w.cell? ⟨b, 3, none⟩ = some (.int .i64 (month : Nat)) := h.cell 3; have k4 : w.cell? ⟨b, 4, none⟩ = some (.int .i64 (day : Nat)) := h.cell 4; have k5 : w.cell? ⟨b, 5, none⟩ = some (.int .i64 (hour : Nat)) := h.cell 5; have k6 : w.cell? ⟨b, 6, none⟩ = some (.int .i64 (min : Nat)) := h.cell 6; have k7 : w.cell? ⟨b, 7, none⟩ = some (.int .i64 (sec : Nat)) := h.cell 7; have k8 : w.cell? ⟨b, 8, none⟩ = some (.bool true) := h.cell 8; go_enter Tryz.func181, Tryz.ntmps181
  go_wp2; go_quiet (fail)
  go_wp2; go_ret2; exact ⟨rfl, below_drewN (Below.refl _ _) _⟩
theorem moment_left (x : UInt8) (left : Bytes) (week year month day hour min sec : Nat) (b : Nat) (w : World) (h : PtAt w b ⟨(x :: left), week, year, month, day, hour, min, sec, false⟩) (hk : Pt.Ok ⟨(x :: left), week, year, month, day, hour, min, sec, false⟩) : Calls Tryz.prog 181 #[.pointer (some ⟨b, 0, none⟩)] w fun e w' => e = .returned (.tuple #[.int .i64 0, .bool false]) ∧ Below w.heap.size w w' := by
  obtain ⟨_, hk2, hk3, hk4, hk5, hk6, hk7, hk8⟩ := hk
  dsimp only at *
  have hk9 : (x :: left).length ≤ 1099511627776 := hk8; clear hk8; have k0 : w.cell? ⟨b, 0, none⟩ = some (S (x :: left)) := h.cell 0; have k1 : w.cell? ⟨b, 1, none⟩ = some (.int .i64 (week : Nat)) := h.cell 1; have k2 : w.cell? ⟨b, 2, none⟩ = some (.int .i64 (year : Nat)) := h.cell 2; have k3 : w.cell? ⟨b, 3, none⟩ = some (.int .i64 (month : Nat)) := h.cell 3; have k4 : w.cell? ⟨b, 4, none⟩ = some (.int .i64 (day : Nat)) := h.cell 4; have k5 : w.cell? ⟨b, 5, none⟩ = some (.int .i64 (hour : Nat)) := h.cell 5; have k6 : w.cell? ⟨b, 6, none⟩ = some (.int .i64 (min : Nat)) := h.cell 6; have k7 : w.cell? ⟨b, 7, none⟩ = some (.int .i64 (sec : Nat)) := h.cell 7; have k8 : w.cell? ⟨b, 8, none⟩ = some (.bool false) := h.cell 8; go_enter Tryz.func181, Tryz.ntmps181
  go_wp2; go_quiet (fail)
  go_wp2; go_ret2; exact ⟨rfl, below_drewN (Below.refl _ _) _⟩
theorem moment_year (week year month day hour min sec : Nat) (h2 : year < 1970) (b : Nat) (w : World) (h : PtAt w b ⟨[], week, year, month, day, hour, min, sec, false⟩) (hk : Pt.Ok ⟨[], week, year, month, day, hour, min, sec, false⟩) : Calls Tryz.prog 181 #[.pointer (some ⟨b, 0, none⟩)] w fun e w' => e = .returned (.tuple #[.int .i64 0, .bool false]) ∧ Below w.heap.size w w' := by
  obtain ⟨_, hk2, hk3, hk4, hk5, hk6, hk7, hk8⟩ := hk
  dsimp only at *
  have hk9 : [].length ≤ 1099511627776 := hk8; clear hk8; have k0 : w.cell? ⟨b, 0, none⟩ = some (S []) := h.cell 0; have k1 : w.cell? ⟨b, 1, none⟩ = some (.int .i64 (week : Nat)) := h.cell 1; have k2 : w.cell? ⟨b, 2, none⟩ = some (.int .i64 (year : Nat)) := h.cell 2; have k3 : w.cell? ⟨b, 3, none⟩ = some (.int .i64 (month : Nat)) := h.cell 3; have k4 : w.cell? ⟨b, 4, none⟩ = some (.int .i64 (day : Nat)) := h.cell 4; have k5 : w.cell? ⟨b, 5, none⟩ = some (.int .i64 (hour : Nat)) := h.cell 5; have k6 : w.cell? ⟨b, 6, none⟩ = some (.int .i64 (min : Nat)) := h.cell 6; have k7 : w.cell? ⟨b, 7, none⟩ = some (.int .i64 (sec : Nat)) := h.cell 7; have k8 : w.cell? ⟨b, 8, none⟩ = some (.bool false) := h.cell 8; have g2 : decide ((year : Int) < 1970) = true := (by simp; omega); go_enter Tryz.func181, Tryz.ntmps181
  go_wp2; go_quiet (fail)
  go_wp2; go_ret2; exact ⟨rfl, below_drewN (Below.refl _ _) _⟩
theorem moment_day1 (week year month day hour min sec : Nat) (h2 : ¬ year < 1970) (h3 : day < 1) (b : Nat) (w : World) (h : PtAt w b ⟨[], week, year, month, day, hour, min, sec, false⟩) (hk : Pt.Ok ⟨[], week, year, month, day, hour, min, sec, false⟩) : Calls Tryz.prog 181 #[.pointer (some ⟨b, 0, none⟩)] w fun e w' => e = .returned (.tuple #[.int .i64 0, .bool false]) ∧ Below w.heap.size w w' := by
  obtain ⟨_, hk2, hk3, hk4, hk5, hk6, hk7, hk8⟩ := hk
  dsimp only at *
  have hk9 : [].length ≤ 1099511627776 := hk8; clear hk8; have k0 : w.cell? ⟨b, 0, none⟩ = some (S []) := h.cell 0; have k1 : w.cell? ⟨b, 1, none⟩ = some (.int .i64 (week : Nat)) := h.cell 1; have k2 : w.cell? ⟨b, 2, none⟩ = some (.int .i64 (year : Nat)) := h.cell 2; have k3 : w.cell? ⟨b, 3, none⟩ = some (.int .i64 (month : Nat)) := h.cell 3; have k4 : w.cell? ⟨b, 4, none⟩ = some (.int .i64 (day : Nat)) := h.cell 4; have k5 : w.cell? ⟨b, 5, none⟩ = some (.int .i64 (hour : Nat)) := h.cell 5; have k6 : w.cell? ⟨b, 6, none⟩ = some (.int .i64 (min : Nat)) := h.cell 6; have k7 : w.cell? ⟨b, 7, none⟩ = some (.int .i64 (sec : Nat)) := h.cell 7; have k8 : w.cell? ⟨b, 8, none⟩ = some (.bool false) := h.cell 8; have g2 : decide ((year : Int) < 1970) = false := (by simp; omega); have g3 : decide ((day : Int) < 1) = true := (by simp; omega); go_enter Tryz.func181, Tryz.ntmps181
  go_wp2; go_quiet (fail)
  go_wp2; go_ret2; exact ⟨rfl, below_drewN (Below.refl _ _) _⟩
theorem moment_dayL (week year month day hour min sec : Nat) (h2 : ¬ year < 1970) (h3 : ¬ day < 1) (h4 : mLen year month < day) (b : Nat) (w : World) (h : PtAt w b ⟨[], week, year, month, day, hour, min, sec, false⟩) (hk : Pt.Ok ⟨[], week, year, month, day, hour, min, sec, false⟩) : Calls Tryz.prog 181 #[.pointer (some ⟨b, 0, none⟩)] w fun e w' => e = .returned (.tuple #[.int .i64 0, .bool false]) ∧ Below w.heap.size w w' := by
  obtain ⟨_, hk2, hk3, hk4, hk5, hk6, hk7, hk8⟩ := hk
  dsimp only at *
  have hk9 : [].length ≤ 1099511627776 := hk8; clear hk8; have k0 : w.cell? ⟨b, 0, none⟩ = some (S []) := h.cell 0; have k1 : w.cell? ⟨b, 1, none⟩ = some (.int .i64 (week : Nat)) := h.cell 1; have k2 : w.cell? ⟨b, 2, none⟩ = some (.int .i64 (year : Nat)) := h.cell 2; have k3 : w.cell? ⟨b, 3, none⟩ = some (.int .i64 (month : Nat)) := h.cell 3; have k4 : w.cell? ⟨b, 4, none⟩ = some (.int .i64 (day : Nat)) := h.cell 4; have k5 : w.cell? ⟨b, 5, none⟩ = some (.int .i64 (hour : Nat)) := h.cell 5; have k6 : w.cell? ⟨b, 6, none⟩ = some (.int .i64 (min : Nat)) := h.cell 6; have k7 : w.cell? ⟨b, 7, none⟩ = some (.int .i64 (sec : Nat)) := h.cell 7; have k8 : w.cell? ⟨b, 8, none⟩ = some (.bool false) := h.cell 8; have g2 : decide ((year : Int) < 1970) = false := (by simp; omega); have g3 : decide ((day : Int) < 1) = false := (by simp; omega); have C : Hid (∀ (w : World) (n : Nat), Calls Tryz.prog 205 #[.int .i64 year, .int .i64 month] (w.drewN n) fun e w' => e = .returned (.int .i64 (mLen year month : Nat)) ∧ w' = w.drewN n) := Lib.hid (fun w n => (length_any year month (w.drewN n) (by omega) hk3).mono fun _ _ ⟨h1, h2⟩ => ⟨h1, h2.symm⟩); have hL := mLen_le year month; generalize mLen year month = L at *; have g4 : decide ((L : Int) < (day : Int)) = true := (by simp; omega); go_enter Tryz.func181, Tryz.ntmps181
  go_wp2; go_quiet ((go_at_call 205; exact Calls.quiet_of_same (C.out _ _)))
  go_wp2; go_ret2; exact ⟨rfl, below_drewN (Below.refl _ _) _⟩
theorem moment_hour (week year month day hour min sec : Nat) (h2 : ¬ year < 1970) (h3 : ¬ day < 1) (h4 : ¬ mLen year month < day) (h5 : 23 < hour) (b : Nat) (w : World) (h : PtAt w b ⟨[], week, year, month, day, hour, min, sec, false⟩) (hk : Pt.Ok ⟨[], week, year, month, day, hour, min, sec, false⟩) : Calls Tryz.prog 181 #[.pointer (some ⟨b, 0, none⟩)] w fun e w' => e = .returned (.tuple #[.int .i64 0, .bool false]) ∧ Below w.heap.size w w' := by
  obtain ⟨_, hk2, hk3, hk4, hk5, hk6, hk7, hk8⟩ := hk
  dsimp only at *
  have hk9 : [].length ≤ 1099511627776 := hk8; clear hk8; have k0 : w.cell? ⟨b, 0, none⟩ = some (S []) := h.cell 0; have k1 : w.cell? ⟨b, 1, none⟩ = some (.int .i64 (week : Nat)) := h.cell 1; have k2 : w.cell? ⟨b, 2, none⟩ = some (.int .i64 (year : Nat)) := h.cell 2; have k3 : w.cell? ⟨b, 3, none⟩ = some (.int .i64 (month : Nat)) := h.cell 3; have k4 : w.cell? ⟨b, 4, none⟩ = some (.int .i64 (day : Nat)) := h.cell 4; have k5 : w.cell? ⟨b, 5, none⟩ = some (.int .i64 (hour : Nat)) := h.cell 5; have k6 : w.cell? ⟨b, 6, none⟩ = some (.int .i64 (min : Nat)) := h.cell 6; have k7 : w.cell? ⟨b, 7, none⟩ = some (.int .i64 (sec : Nat)) := h.cell 7; have k8 : w.cell? ⟨b, 8, none⟩ = some (.bool false) := h.cell 8; have g2 : decide ((year : Int) < 1970) = false := (by simp; omega); have g3 : decide ((day : Int) < 1) = false := (by simp; omega); have C : Hid (∀ (w : World) (n : Nat), Calls Tryz.prog 205 #[.int .i64 year, .int .i64 month] (w.drewN n) fun e w' => e = .returned (.int .i64 (mLen year month : Nat)) ∧ w' = w.drewN n) := Lib.hid (fun w n => (length_any year month (w.drewN n) (by omega) hk3).mono fun _ _ ⟨h1, h2⟩ => ⟨h1, h2.symm⟩); have hL := mLen_le year month; generalize mLen year month = L at *; have g4 : decide ((L : Int) < (day : Int)) = false := (by simp; omega); have g5 : decide (23 < (hour : Int)) = true := (by simp; omega); go_enter Tryz.func181, Tryz.ntmps181
  go_wp2; go_quiet ((go_at_call 205; exact Calls.quiet_of_same (C.out _ _)))
  go_wp2; go_ret2; exact ⟨rfl, below_drewN (Below.refl _ _) _⟩
theorem moment_min (week year month day hour min sec : Nat) (h2 : ¬ year < 1970) (h3 : ¬ day < 1) (h4 : ¬ mLen year month < day) (h5 : ¬ 23 < hour) (h6 : 59 < min) (b : Nat) (w : World) (h : PtAt w b ⟨[], week, year, month, day, hour, min, sec, false⟩) (hk : Pt.Ok ⟨[], week, year, month, day, hour, min, sec, false⟩) : Calls Tryz.prog 181 #[.pointer (some ⟨b, 0, none⟩)] w fun e w' => e = .returned (.tuple #[.int .i64 0, .bool false]) ∧ Below w.heap.size w w' := by
  obtain ⟨_, hk2, hk3, hk4, hk5, hk6, hk7, hk8⟩ := hk
  dsimp only at *
  have hk9 : [].length ≤ 1099511627776 := hk8; clear hk8; have k0 : w.cell? ⟨b, 0, none⟩ = some (S []) := h.cell 0; have k1 : w.cell? ⟨b, 1, none⟩ = some (.int .i64 (week : Nat)) := h.cell 1; have k2 : w.cell? ⟨b, 2, none⟩ = some (.int .i64 (year : Nat)) := h.cell 2; have k3 : w.cell? ⟨b, 3, none⟩ = some (.int .i64 (month : Nat)) := h.cell 3; have k4 : w.cell? ⟨b, 4, none⟩ = some (.int .i64 (day : Nat)) := h.cell 4; have k5 : w.cell? ⟨b, 5, none⟩ = some (.int .i64 (hour : Nat)) := h.cell 5; have k6 : w.cell? ⟨b, 6, none⟩ = some (.int .i64 (min : Nat)) := h.cell 6; have k7 : w.cell? ⟨b, 7, none⟩ = some (.int .i64 (sec : Nat)) := h.cell 7; have k8 : w.cell? ⟨b, 8, none⟩ = some (.bool false) := h.cell 8; have g2 : decide ((year : Int) < 1970) = false := (by simp; omega); have g3 : decide ((day : Int) < 1) = false := (by simp; omega); have C : Hid (∀ (w : World) (n : Nat), Calls Tryz.prog 205 #[.int .i64 year, .int .i64 month] (w.drewN n) fun e w' => e = .returned (.int .i64 (mLen year month : Nat)) ∧ w' = w.drewN n) := Lib.hid (fun w n => (length_any year month (w.drewN n) (by omega) hk3).mono fun _ _ ⟨h1, h2⟩ => ⟨h1, h2.symm⟩); have hL := mLen_le year month; generalize mLen year month = L at *; have g4 : decide ((L : Int) < (day : Int)) = false := (by simp; omega); have g5 : decide (23 < (hour : Int)) = false := (by simp; omega); have g6 : decide (59 < (min : Int)) = true := (by simp; omega); go_enter Tryz.func181, Tryz.ntmps181
  go_wp2; go_quiet ((go_at_call 205; exact Calls.quiet_of_same (C.out _ _)))
  go_wp2; go_ret2; exact ⟨rfl, below_drewN (Below.refl _ _) _⟩
theorem moment_sec (week year month day hour min sec : Nat) (h2 : ¬ year < 1970) (h3 : ¬ day < 1) (h4 : ¬ mLen year month < day) (h5 : ¬ 23 < hour) (h6 : ¬ 59 < min) (h7 : 59 < sec) (b : Nat) (w : World) (h : PtAt w b ⟨[], week, year, month, day, hour, min, sec, false⟩) (hk : Pt.Ok ⟨[], week, year, month, day, hour, min, sec, false⟩) : Calls Tryz.prog 181 #[.pointer (some ⟨b, 0, none⟩)] w fun e w' => e = .returned (.tuple #[.int .i64 0, .bool false]) ∧ Below w.heap.size w w' := by
  obtain ⟨_, hk2, hk3, hk4, hk5, hk6, hk7, hk8⟩ := hk
  dsimp only at *
  have hk9 : [].length ≤ 1099511627776 := hk8; clear hk8; have k0 : w.cell? ⟨b, 0, none⟩ = some (S []) := h.cell 0; have k1 : w.cell? ⟨b, 1, none⟩ = some (.int .i64 (week : Nat)) := h.cell 1; have k2 : w.cell? ⟨b, 2, none⟩ = some (.int .i64 (year : Nat)) := h.cell 2; have k3 : w.cell? ⟨b, 3, none⟩ = some (.int .i64 (month : Nat)) := h.cell 3; have k4 : w.cell? ⟨b, 4, none⟩ = some (.int .i64 (day : Nat)) := h.cell 4; have k5 : w.cell? ⟨b, 5, none⟩ = some (.int .i64 (hour : Nat)) := h.cell 5; have k6 : w.cell? ⟨b, 6, none⟩ = some (.int .i64 (min : Nat)) := h.cell 6; have k7 : w.cell? ⟨b, 7, none⟩ = some (.int .i64 (sec : Nat)) := h.cell 7; have k8 : w.cell? ⟨b, 8, none⟩ = some (.bool false) := h.cell 8; have g2 : decide ((year : Int) < 1970) = false := (by simp; omega); have g3 : decide ((day : Int) < 1) = false := (by simp; omega); have C : Hid (∀ (w : World) (n : Nat), Calls Tryz.prog 205 #[.int .i64 year, .int .i64 month] (w.drewN n) fun e w' => e = .returned (.int .i64 (mLen year month : Nat)) ∧ w' = w.drewN n) := Lib.hid (fun w n => (length_any year month (w.drewN n) (by omega) hk3).mono fun _ _ ⟨h1, h2⟩ => ⟨h1, h2.symm⟩); have hL := mLen_le year month; generalize mLen year month = L at *; have g4 : decide ((L : Int) < (day : Int)) = false := (by simp; omega); have g5 : decide (23 < (hour : Int)) = false := (by simp; omega); have g6 : decide (59 < (min : Int)) = false := (by simp; omega); have g7 : decide (59 < (sec : Int)) = true := (by simp; omega); go_enter Tryz.func181, Tryz.ntmps181
  go_wp2; go_quiet ((go_at_call 205; exact Calls.quiet_of_same (C.out _ _)))
  go_wp2; go_ret2; exact ⟨rfl, below_drewN (Below.refl _ _) _⟩
open Go.RowKit Go.Dr
theorem dayOf_le (y m n : Nat) (hy : 1970 ≤ y) (hy2 : y ≤ 20000) (hm : m < 12) (hn2 : n ≤ 31) : dayOf y m n ≤ 10000000 := by
  have h1 := begY_low y hy; have h2 := aheadM_le y m; unfold dayOf; omega
theorem mod_eq_i (d k : Nat) : ((d : Int) % 7 == (k : Int)) = decide (d % 7 = k) := by
  by_cases h : d % 7 = k
  · have : (d : Int) % 7 = (k : Int) := by omega
    simp [h, this]
  · have : ¬ (d : Int) % 7 = (k : Int) := by omega
    simp [h, this]
theorem moment_right (week year month day hour min sec : Nat) (h2 : ¬ year < 1970) (h3 : ¬ day < 1) (h4 : ¬ mLen year month < day) (h5 : ¬ 23 < hour) (h6 : ¬ 59 < min) (h7 : ¬ 59 < sec) (b : Nat) (w : World) (h : PtAt w b ⟨[], week, year, month, day, hour, min, sec, false⟩) (hk : Pt.Ok ⟨[], week, year, month, day, hour, min, sec, false⟩) : Calls Tryz.prog 181 #[.pointer (some ⟨b, 0, none⟩)] w fun e w' => e = .returned (.tuple #[.int .i64 ((dayOf year month day * 86400 + (3600 * hour + 60 * min + sec) : Nat) : Int), .bool (decide (dayOf year month day % 7 = week))]) ∧ Below w.heap.size w w' := by
  obtain ⟨hk0, hk2, hk3, hk4, hk5, hk6, hk7, hk8⟩ := hk
  dsimp only at *
  clear hk8; have hL := mLen_le year month; have k0 : w.cell? ⟨b, 0, none⟩ = some (S []) := h.cell 0; have k1 : w.cell? ⟨b, 1, none⟩ = some (.int .i64 (week : Nat)) := h.cell 1; have k2 : w.cell? ⟨b, 2, none⟩ = some (.int .i64 (year : Nat)) := h.cell 2; have k3 : w.cell? ⟨b, 3, none⟩ = some (.int .i64 (month : Nat)) := h.cell 3; have k4 : w.cell? ⟨b, 4, none⟩ = some (.int .i64 (day : Nat)) := h.cell 4; have k5 : w.cell? ⟨b, 5, none⟩ = some (.int .i64 (hour : Nat)) := h.cell 5; have k6 : w.cell? ⟨b, 6, none⟩ = some (.int .i64 (min : Nat)) := h.cell 6; have k7 : w.cell? ⟨b, 7, none⟩ = some (.int .i64 (sec : Nat)) := h.cell 7; have k8 : w.cell? ⟨b, 8, none⟩ = some (.bool false) := h.cell 8; have g2 : decide ((year : Int) < 1970) = false := (by simp; omega); have g3 : decide ((day : Int) < 1) = false := (by simp; omega); have C : Hid (∀ (w : World) (n : Nat), Calls Tryz.prog 205 #[.int .i64 year, .int .i64 month] (w.drewN n) fun e w' => e = .returned (.int .i64 (mLen year month : Nat)) ∧ w' = w.drewN n) := Lib.hid (fun w n => (length_any year month (w.drewN n) (by omega) hk3).mono fun _ _ ⟨h1, h2⟩ => ⟨h1, h2.symm⟩); have D : Hid (∀ (w : World) (n : Nat), Calls Tryz.prog 206 #[.int .i64 year, .int .i64 month, .int .i64 day] (w.drewN n) fun e w' => e = .returned (.int .i64 (dayOf year month day : Nat)) ∧ w' = w.drewN n) := Lib.hid (fun w n => (day_any year month day (w.drewN n) (by omega) hk2 hk3 (by omega) (by omega)).mono fun _ _ ⟨h1, h2⟩ => ⟨h1, h2.symm⟩); have hD := dayOf_le year month day (by omega) hk2 hk3 (by omega); generalize mLen year month = L at *; generalize dayOf year month day = d at *; have HE := Lib.hid (mod_eq_i d week); have HN : Hid (((d * 86400 + (3600 * hour + 60 * min + sec) : Nat) : Int) = (d : Int) * 86400 + (3600 * (hour : Int) + 60 * (min : Int) + (sec : Int))) := (by show _ = _; omega); have g4 : decide ((L : Int) < (day : Int)) = false := (by simp; omega); have g5 : decide (23 < (hour : Int)) = false := (by simp; omega); have g6 : decide (59 < (min : Int)) = false := (by simp; omega); have g7 : decide (59 < (sec : Int)) = false := (by simp; omega); go_enter Tryz.func181, Tryz.ntmps181
  go_wp2; go_quiet ((go_at_call 205; exact Calls.quiet_of_same (C.out _ _)))
  go_wp2; obtain ⟨w1, e1⟩ : ∃ w1, w1 = w.drewN nq := ⟨_, rfl⟩; rw [← e1]; have hb1 : Below w.heap.size w w1 := (by rw [e1]; exact below_drewN (Below.refl _ _) _); have h1 : PtAt w1 b ⟨[], week, year, month, day, hour, min, sec, false⟩ := (by rw [e1]; exact h); clear k0 k1 k2 k3 k4 k5 k6 k7 k8 e1 h; have k1 : w1.cell? ⟨b, 1, none⟩ = some (.int .i64 (week : Nat)) := h1.cell 1; have k2 : w1.cell? ⟨b, 2, none⟩ = some (.int .i64 (year : Nat)) := h1.cell 2; have k3 : w1.cell? ⟨b, 3, none⟩ = some (.int .i64 (month : Nat)) := h1.cell 3; have k4 : w1.cell? ⟨b, 4, none⟩ = some (.int .i64 (day : Nat)) := h1.cell 4; have k5 : w1.cell? ⟨b, 5, none⟩ = some (.int .i64 (hour : Nat)) := h1.cell 5; have k6 : w1.cell? ⟨b, 6, none⟩ = some (.int .i64 (min : Nat)) := h1.cell 6; have k7 : w1.cell? ⟨b, 7, none⟩ = some (.int .i64 (sec : Nat)) := h1.cell 7; go_quiet ((go_at_call 206; exact Calls.quiet_of_same (D.out _ _)))
  go_wp2; go_quiet (fail)
  go_wp2; go_ret2; exact ⟨by rw [HE.out, HN.out]; rfl, by first | exact below_drewN hb1 _ | exact below_drewN (below_drewN hb1 _) _⟩
theorem moment_any (p : Pt) (b : Nat) (w : World) (h : PtAt w b p) (hk : Pt.Ok p) : Calls Tryz.prog 181 #[.pointer (some ⟨b, 0, none⟩)] w fun e w' => e = .returned (.tuple #[.int .i64 ((p.moment.1 : Nat) : Int), .bool p.moment.2]) ∧ Below w.heap.size w w' := by
  obtain ⟨left, week, year, month, day, hour, min, sec, bad⟩ := p; have no : ∀ {q : Pt}, q.wrong = true → q.moment = (0, false) := fun {q} hq => by unfold Pt.moment; rw [if_pos hq]
  cases bad with
  | true =>
    have := moment_bad left week year month day hour min sec b w h hk
    rw [no (by simp [Pt.wrong])]; exact this
  | false =>
    cases left with
    | cons x left =>
      have := moment_left x left week year month day hour min sec b w h hk
      rw [no (by simp [Pt.wrong])]; exact this
    | nil =>
      by_cases h2 : year < 1970
      · have := moment_year week year month day hour min sec h2 b w h hk
        rw [no (by simp [Pt.wrong, h2])]; exact this
      by_cases h3 : day < 1
      · have := moment_day1 week year month day hour min sec h2 h3 b w h hk
        rw [no (by simp [Pt.wrong]; omega)]; exact this
      by_cases h4 : mLen year month < day
      · have := moment_dayL week year month day hour min sec h2 h3 h4 b w h hk
        rw [no (by simp [Pt.wrong]; omega)]; exact this
      by_cases h5 : 23 < hour
      · have := moment_hour week year month day hour min sec h2 h3 h4 h5 b w h hk
        rw [no (by simp [Pt.wrong]; omega)]; exact this
      by_cases h6 : 59 < min
      · have := moment_min week year month day hour min sec h2 h3 h4 h5 h6 b w h hk
        rw [no (by simp [Pt.wrong]; omega)]; exact this
      by_cases h7 : 59 < sec
      · have := moment_sec week year month day hour min sec h2 h3 h4 h5 h6 h7 b w h hk
        rw [no (by simp [Pt.wrong]; omega)]; exact this
      · have := moment_right week year month day hour min sec h2 h3 h4 h5 h6 h7 b w h hk
        have e : Pt.wrong ⟨[], week, year, month, day, hour, min, sec, false⟩ = false := by
          simp [Pt.wrong]; omega
        unfold Pt.moment; rw [if_neg (by rw [e]; simp)]; exact this
theorem namV_lt7 (p : Pt) : p.namV dayTab < 7 := namV_lt p dayTab (by decide)
theorem namV_lt12 (p : Pt) : p.namV monTab < 12 := namV_lt p monTab (by decide)
open Go.RowKit Go.Dr
theorem clock_lt (p : Pt) : p.clock.hour < 100 ∧ p.clock.min < 100 ∧ p.clock.sec < 100 := by
  have e1 : p.clock.hour = p.digV 2 := (by simp only [Pt.clock, Pt.aSec, Pt.aMin, Pt.aHour, w_hour, d_hour]); have e2 : p.clock.min = (p.aHour.word [58]).digV 2 := (by simp only [Pt.clock, Pt.aSec, Pt.aMin, w_min, d_min]); have e3 : p.clock.sec = ((p.aHour.word [58]).aMin.word [58]).digV 2 := (by simp only [Pt.clock, Pt.aSec]); rw [e1, e2, e3]; exact ⟨digV_lt _ 2, digV_lt _ 2, digV_lt _ 2⟩
theorem own_ok {p : Pt} (h : Pt.Sm p) : Pt.Ok p.own := by
  refine ⟨?_, ?_, ?_, ?_, ?_, ?_, ?_, ?_⟩
  · simp only [Pt.own, w_week, (clock_week _).1, Pt.aYear, d_week, Pt.aMonth, n_week, Pt.aDay, f_week]; exact namV_lt7 _
  · simp only [Pt.own, w_year, (clock_week _).2.1, f_year]; exact Nat.le_trans (Nat.le_of_lt (digV_lt _ 4)) (by decide)
  · simp only [Pt.own, w_month, (clock_week _).2.2.1, Pt.aYear, d_month, f_month]; exact namV_lt12 _
  · simp only [Pt.own, w_day, (clock_week _).2.2.2, Pt.aYear, d_day, Pt.aMonth, n_day, f_day]; exact digV_lt _ 2
  · simp only [Pt.own, w_hour]; exact (clock_lt _).1
  · simp only [Pt.own, w_min]; exact (clock_lt _).2.1
  · simp only [Pt.own, w_sec]; exact (clock_lt _).2.2
  · exact Pt.Sm.word (Pt.Sm.clock (Pt.Sm.word (Pt.Sm.aYear (Pt.Sm.word (Pt.Sm.aMonth (Pt.Sm.word (Pt.Sm.aDay (Pt.Sm.word (Pt.Sm.aWeek h) _) _) _)) _)) _)) _
theorem old_ok {p : Pt} (h : Pt.Sm p) (now : Nat) (hn : now ≤ 9999) : Pt.Ok (p.old now) := by
  refine ⟨?_, ?_, ?_, ?_, ?_, ?_, ?_, ?_⟩
  · simp only [Pt.old, w_week, (clock_week _).1, oldYear_eq, d_week, Pt.aMonth, n_week, Pt.aDay, old_fields, f_week]; exact namV_lt7 _
  · simp only [Pt.old, w_year, (clock_week _).2.1, f_old]; exact Nat.le_trans (Nat.le_of_lt (winY_lt _ _ hn (digV_lt _ 2))) (by decide)
  · simp only [Pt.old, w_month, (clock_week _).2.2.1, oldYear_eq, d_month, f_month]; exact namV_lt12 _
  · simp only [Pt.old, w_day, (clock_week _).2.2.2, oldYear_eq, d_day, Pt.aMonth, n_day, f_day]; exact digV_lt _ 2
  · simp only [Pt.old, w_hour]; exact (clock_lt _).1
  · simp only [Pt.old, w_min]; exact (clock_lt _).2.1
  · simp only [Pt.old, w_sec]; exact (clock_lt _).2.2
  · exact Pt.Sm.word (Pt.Sm.clock (Pt.Sm.word (Pt.Sm.oldYear (Pt.Sm.word (Pt.Sm.aMonth (Pt.Sm.word (Pt.Sm.aDay (Pt.Sm.word (Pt.Sm.oldWeek (Pt.Sm.aWeek h)) _) _) _)) _) _) _)) _
theorem bareDay_lt (p : Pt) : p.bareDay.day < 100 := by
  unfold Pt.bareDay
  split
  · exact Nat.lt_of_lt_of_le (digV_lt _ 1) (by decide)
  · exact digV_lt _ 2
theorem bare_ok {p : Pt} (h : Pt.Sm p) : Pt.Ok p.bare := by
  refine ⟨?_, ?_, ?_, ?_, ?_, ?_, ?_, ?_⟩
  · simp only [Pt.bare, Pt.aYear, d_week, w_week, (clock_week _).1, (bare_fields _).1, Pt.aMonth, n_week, f_week]; exact namV_lt7 _
  · simp only [Pt.bare, f_year]; exact Nat.le_trans (Nat.le_of_lt (digV_lt _ 4)) (by decide)
  · simp only [Pt.bare, Pt.aYear, d_month, w_month, (clock_week _).2.2.1, (bare_fields _).2, f_month]; exact namV_lt12 _
  · simp only [Pt.bare, Pt.aYear, d_day, w_day, (clock_week _).2.2.2]; exact bareDay_lt _
  · simp only [Pt.bare, Pt.aYear, d_hour, w_hour]; exact (clock_lt _).1
  · simp only [Pt.bare, Pt.aYear, d_min, w_min]; exact (clock_lt _).2.1
  · simp only [Pt.bare, Pt.aYear, d_sec, w_sec]; exact (clock_lt _).2.2
  · exact Pt.Sm.aYear (Pt.Sm.word (Pt.Sm.clock (Pt.Sm.word (Pt.Sm.bareDay (Pt.Sm.word (Pt.Sm.aMonth (Pt.Sm.word (Pt.Sm.aWeek h) _)) _)) _)) _)
theorem clampD_le (now : Int) : clampD now ≤ 253402300799 := by unfold clampD; omega
theorem yearOf_clamp (now : Int) : 1970 ≤ yearOf (clampD now / 86400) ∧ yearOf (clampD now / 86400) ≤ 9999 := by
  have h := yearOf_spec (clampD now / 86400); refine ⟨h.1, ?_⟩; have h2 := clampD_le now; have h3 := begY_mono 10000 (yearOf (clampD now / 86400) - 10000) (by decide); by_cases h4 : yearOf (clampD now / 86400) ≤ 9999
  · exact h4
  · rw [show 10000 + (yearOf (clampD now / 86400) - 10000) = yearOf (clampD now / 86400) by omega] at h3
    have h5 : begY 10000 = 2932897 := (by decide); omega
theorem clampD_int (now : Int) : max 0 (Min.min now 253402300799) = (clampD now : Nat) := by unfold clampD; omega
theorem Parse_any (s : Bytes) (now : Int) (w : World) (hs : s.length ≤ 1099511627776) : Calls Tryz.prog 149 #[S s, .int .i64 now] w fun e w' => e = .returned (.tuple #[.int .i64 ((parseF s now).1 : Nat), .int .i64 ((parseF s now).2 : Nat)]) ∧ Below w.heap.size w w' := by
  have hy := yearOf_clamp now; have hc := clampD_le now; have HC := Lib.hid (clampD_int now); have HP : Hid (parseF s now = parseY s (yearOf (clampD now / 86400))) := rfl; have hyr := fun w : World => year_any (clampD now / 86400) w (by omega)
  generalize yearOf (clampD now / 86400) = y at *; generalize clampD now = c at *; generalize parseF s now = r at *
  have Y : Hid (∀ w : World, Calls Tryz.prog 177 #[.int .i64 (max 0 (Min.min now 253402300799) / 86400)] w fun e w' => e = .returned (.int .i64 (y : Nat)) ∧ w = w') := Lib.hid (by
    rw [HC.out, show ((c : Int) / 86400) = ((c / 86400 : Nat) : Int) by omega]; exact hyr)
  clear hyr; go_enter Tryz.func149, Tryz.ntmps149
  go_wp2_with fail; refine (Y.out w).mono ?_; rintro e w1 ⟨rfl, hw1⟩; obtain rfl : w = w1 := hw1; go_wp2; refine wp_loop_rounds 4 ?_; rw [rounds_succ]; obtain ⟨wf, ef⟩ : ∃ wf : World, wf = w.alloc (.cells #[.func (.func 178) #[] #[], .func (.func 179) #[] #[], .func (.func 180) #[] #[]] 196) := ⟨_, rfl⟩; have hF : Blk wf w.heap.size 196 #[.func (.func 178) #[] #[], .func (.func 179) #[] #[], .func (.func 180) #[] #[]] := (by rw [ef]; exact Blk.new _ _ _); have hb0 : Below w.heap.size w wf := (by rw [ef]; exact (Below.refl _ _).alloc (Nat.le_refl _) _); have hz0 : w.heap.size < wf.heap.size := (by rw [ef]; simp); have d00 : wf.cell? ⟨w.heap.size, 0, none⟩ = some (.func (.func 178) #[] #[]) := hF.cell 0; rw [← ef]; clear ef; have hS : Pt.Sm ⟨s, 0, 0, 0, 0, 0, 0, 0, false⟩ := hs; go_wp2_with fail; have hP0 : PtAt (wf.alloc (.cells (Pt.cells ⟨s, 0, 0, 0, 0, 0, 0, 0, false⟩) 200)) wf.heap.size ⟨s, 0, 0, 0, 0, 0, 0, 0, false⟩ := Blk.new _ _ _; refine (own_any ⟨s, 0, 0, 0, 0, 0, 0, 0, false⟩ (y : Int) wf.heap.size _ hP0 hS).mono ?_; rintro e wa0 ⟨rfl, hA0, hba0⟩; have hwa0 : Below wf.heap.size wf wa0 := ((Below.refl _ _).alloc (Nat.le_refl _) _).trans hba0; obtain ⟨q0, hq0, ok0⟩ : ∃ q, q = Pt.own ⟨s, 0, 0, 0, 0, 0, 0, 0, false⟩ ∧ Pt.Ok q := ⟨_, rfl, own_ok hS⟩; rw [← hq0] at hA0; have M0 := moment_any q0 _ wa0 hA0 ok0; generalize hm0 : Pt.moment q0 = r0 at M0; have HG0 : Hid (Pt.moment (Pt.own ⟨s, 0, 0, 0, 0, 0, 0, 0, false⟩) = r0) := (by show _ = _; rw [← hq0]; exact hm0); obtain ⟨v0, m0⟩ := r0; clear hm0 hq0 hA0 ok0
  dsimp only at M0
  go_wp2_with fail; refine M0.mono ?_; rintro e wb0 ⟨rfl, hbb0⟩; have hwb0 : Below wf.heap.size wf wb0 := Bl.tr hwa0 hbb0; have hz1 : w.heap.size < wb0.heap.size := Nat.lt_of_lt_of_le hz0 hwb0.size; have hw1 : Below w.heap.size w wb0 := Bl.tr hb0 (hwb0); have hF1 := hF.on hwb0; clear M0
  cases m0 with
  | true =>
    go_wp2; go_ret2; exact ⟨by rw [HP.out]; unfold parseY; rw [HG0.out]; rfl, hw1⟩
  | false =>
    have d1 : wb0.cell? ⟨w.heap.size, 1, none⟩ = some (.func (.func 179) #[] #[]) := hF1.cell 1; go_wp2; rw [rounds_succ]; go_wp2_with fail; have hP1 : PtAt (wb0.alloc (.cells (Pt.cells ⟨s, 0, 0, 0, 0, 0, 0, 0, false⟩) 200)) wb0.heap.size ⟨s, 0, 0, 0, 0, 0, 0, 0, false⟩ := Blk.new _ _ _; refine (old_any ⟨s, 0, 0, 0, 0, 0, 0, 0, false⟩ y wb0.heap.size _ hP1 hS (by omega) (by omega)).mono ?_; rintro e wa1 ⟨rfl, hA1, hba1⟩; have hwa1 : Below wb0.heap.size wb0 wa1 := ((Below.refl _ _).alloc (Nat.le_refl _) _).trans hba1; obtain ⟨q1, hq1, ok1⟩ : ∃ q, q = Pt.old ⟨s, 0, 0, 0, 0, 0, 0, 0, false⟩ y ∧ Pt.Ok q := ⟨_, rfl, old_ok hS y hy.2⟩; rw [← hq1] at hA1; have M1 := moment_any q1 _ wa1 hA1 ok1; generalize hm1 : Pt.moment q1 = r1 at M1; have HG1 : Hid (Pt.moment (Pt.old ⟨s, 0, 0, 0, 0, 0, 0, 0, false⟩ y) = r1) := (by show _ = _; rw [← hq1]; exact hm1); obtain ⟨v1, m1⟩ := r1; clear hm1 hq1 hA1 ok1
    dsimp only at M1
    go_wp2_with fail; refine M1.mono ?_; rintro e wb1 ⟨rfl, hbb1⟩; have hwb1 : Below wb0.heap.size wb0 wb1 := Bl.tr hwa1 hbb1; have hz2 : w.heap.size < wb1.heap.size := Nat.lt_of_lt_of_le hz1 hwb1.size; have hw2 : Below w.heap.size w wb1 := Bl.tr hw1 (hwb1); have hF2 := hF1.on hwb1; clear M1
    cases m1 with
    | true =>
      go_wp2; go_ret2; exact ⟨by rw [HP.out]; unfold parseY; rw [HG0.out, HG1.out]; rfl, hw2⟩
    | false =>
      have d2 : wb1.cell? ⟨w.heap.size, 2, none⟩ = some (.func (.func 180) #[] #[]) := hF2.cell 2; go_wp2; rw [rounds_succ]; go_wp2_with fail; have hP2 : PtAt (wb1.alloc (.cells (Pt.cells ⟨s, 0, 0, 0, 0, 0, 0, 0, false⟩) 200)) wb1.heap.size ⟨s, 0, 0, 0, 0, 0, 0, 0, false⟩ := Blk.new _ _ _; refine (bare_any ⟨s, 0, 0, 0, 0, 0, 0, 0, false⟩ (y : Int) wb1.heap.size _ hP2 hS).mono ?_; rintro e wa2 ⟨rfl, hA2, hba2⟩; have hwa2 : Below wb1.heap.size wb1 wa2 := ((Below.refl _ _).alloc (Nat.le_refl _) _).trans hba2; obtain ⟨q2, hq2, ok2⟩ : ∃ q, q = Pt.bare ⟨s, 0, 0, 0, 0, 0, 0, 0, false⟩ ∧ Pt.Ok q := ⟨_, rfl, bare_ok hS⟩; rw [← hq2] at hA2; have M2 := moment_any q2 _ wa2 hA2 ok2; generalize hm2 : Pt.moment q2 = r2 at M2; have HG2 : Hid (Pt.moment (Pt.bare ⟨s, 0, 0, 0, 0, 0, 0, 0, false⟩) = r2) := (by show _ = _; rw [← hq2]; exact hm2); obtain ⟨v2, m2⟩ := r2; clear hm2 hq2 hA2 ok2
      dsimp only at M2
      go_wp2_with fail; refine M2.mono ?_; rintro e wb2 ⟨rfl, hbb2⟩; have hwb2 : Below wb1.heap.size wb1 wb2 := Bl.tr hwa2 hbb2; have hz3 : w.heap.size < wb2.heap.size := Nat.lt_of_lt_of_le hz2 hwb2.size; have hw3 : Below w.heap.size w wb2 := Bl.tr hw2 (hwb2); have hF3 := hF2.on hwb2; clear M2
      cases m2 with
      | true =>
        go_wp2; go_ret2; exact ⟨by rw [HP.out]; unfold parseY; rw [HG0.out, HG1.out, HG2.out]; rfl, hw3⟩
      | false =>
        go_wp2; rw [rounds_succ]; go_wp2; go_ret2; exact ⟨by rw [HP.out]; unfold parseY; rw [HG0.out, HG1.out, HG2.out]; rfl, hw3⟩
open Go.RowKit Go.Dr
theorem IndexByte_at (s : Bytes) (c : UInt8) (w : World) : Calls Tryz.prog 215 #[S s, B8 c] w fun e w' => e = .returned (.int .i64 (Lib.indexByte s c)) ∧ w = w' := by
  have h := Tryz.strings_IndexByte ⟨s.toArray⟩ (c.toNat : Int) w; rw [show ((c.toNat : Int).toNat.toUInt8) = c by simp] at h; exact h.mono fun _ _ ⟨h1, h2⟩ => ⟨h1, h2.symm⟩
theorem mark_any (c : UInt8) (w : World) : Calls Tryz.prog 191 #[B8 c] w fun e w' => e = .returned (.bool (isMark c)) ∧ w = w' := by
  have HC := Lib.hid (Lib.contains_iff_indexByte tokMarks c); go_enter Tryz.func191, Tryz.ntmps191
  go_wp2_with fail; refine (IndexByte_at tokMarks c w).mono ?_; rintro e w' ⟨rfl, rfl⟩; go_wp2; go_ret; exact ⟨ret_bool HC.out.symm, rfl⟩
theorem tokB_yes (c : UInt8) (h : (48 ≤ (c.toNat : Int) ∧ (c.toNat : Int) ≤ 57) ∨ (97 ≤ (c.toNat : Int) ∧ (c.toNat : Int) ≤ 122) ∨ (65 ≤ (c.toNat : Int) ∧ (c.toNat : Int) ≤ 90)) : true = tokB c := by
  unfold tokB
  have e : (decide (48 ≤ c.toNat ∧ c.toNat ≤ 57) || decide (97 ≤ c.toNat ∧ c.toNat ≤ 122) || decide (65 ≤ c.toNat ∧ c.toNat ≤ 90)) = true := by
    simp only [Bool.or_eq_true, decide_eq_true_iff]; omega
  rw [e]; rfl
theorem tokB_no (c : UInt8) (h : ¬ ((48 ≤ (c.toNat : Int) ∧ (c.toNat : Int) ≤ 57) ∨ (97 ≤ (c.toNat : Int) ∧ (c.toNat : Int) ≤ 122) ∨ (65 ≤ (c.toNat : Int) ∧ (c.toNat : Int) ≤ 90))) : isMark c = tokB c := by
  unfold tokB
  have e : (decide (48 ≤ c.toNat ∧ c.toNat ≤ 57) || decide (97 ≤ c.toNat ∧ c.toNat ≤ 122) || decide (65 ≤ c.toNat ∧ c.toNat ≤ 90)) = false := by
    simp only [Bool.or_eq_false_iff, decide_eq_false_iff_not]; omega
  rw [e]; rfl
theorem tokenB_any (c : UInt8) (w : World) : Calls Tryz.prog 161 #[B8 c] w fun e w' => e = .returned (.bool (tokB c)) ∧ w = w' := by
  go_enter Tryz.func161, Tryz.ntmps161
  go_wp2_with (go_at_call 191; refine (mark_any c w).mono ?_; rintro e w' ⟨rfl, rfl⟩)
  all_goals
    go_ret
    first
      | exact ⟨ret_bool (tokB_yes c (by omega)), rfl⟩
      | exact ⟨ret_bool (tokB_no c (by omega)), rfl⟩
theorem all_take_succ {α : Type} (p : α → Bool) (l : List α) (k : Nat) (h : k < l.length) (h1 : (l.take k).all p = true) (h2 : p l[k] = true) : (l.take (k + 1)).all p = true := by
  rw [take_snoc l k h, List.all_append, h1]; simp [h2]
theorem all_miss {α : Type} (p : α → Bool) (l : List α) (k : Nat) (h : k < l.length) (h2 : p l[k] = false) : l.all p = false := by
  rw [List.all_eq_false]; exact ⟨_, List.getElem_mem h, by simp [h2]⟩
theorem Token_any (l : Bytes) (w : World) (hl : l.length ≤ maxLen) : Calls Tryz.prog 141 #[S l] w fun e w' => e = .returned (.bool (token l)) ∧ w = w' := by
  unfold maxLen at hl; go_enter Tryz.func141, Tryz.ntmps141
  go_wp2
  go_loop [6] (fun i => ∃ k : Nat, i = .int .i64 k ∧ k ≤ l.length ∧ Hid ((l.take k).all tokB = true)) (fun i => l.length - (intOf i).toNat)
  case atStart => exact ⟨0, rfl, Nat.zero_le _, rfl⟩
  case round =>
    obtain ⟨k, rfl, hk, HN⟩ := hrel; by_cases hlt : k < l.length
    · by_cases hs : tokB l[k] = true
      · have HY := Lib.hid (all_take_succ tokB l k hlt HN.out hs)
        go_wp2_with (go_at_call 161; refine (tokenB_any _ _).mono ?_; rintro e w' ⟨rfl, rfl⟩)
        go_round
        case rel => exact ⟨k + 1, by go_num, by omega, HY⟩
        case measure => simp [intOf]; omega
      · have hs' : tokB l[k] = false := by simpa using hs
        clear hs; have HY := Lib.hid (all_miss tokB l k hlt hs'); go_wp2_with (go_at_call 161; refine (tokenB_any _ _).mono ?_; rintro e w' ⟨rfl, rfl⟩)
        go_ret; exact ⟨ret_bool (by rw [token, HY.out]; rfl), rfl⟩
    · have hk' : k = l.length := by omega
      subst hk'; go_wp2; go_ret; exact ⟨ret_bool (by have := HN.out; rw [List.take_length] at this; rw [token, this]; simp), rfl⟩
theorem digitN_a (c : UInt8) (h : 48 ≤ (c.toNat : Int)) (h' : (c.toNat : Int) ≤ 57) : (c.toNat : Int) - 48 = (digitN c : Int) := by
  unfold digitN; rw [if_pos (by omega)]; omega
theorem digitN_b (c : UInt8) (h : 97 ≤ (c.toNat : Int)) (h' : (c.toNat : Int) ≤ 102) : (c.toNat : Int) - 97 + 10 = (digitN c : Int) := by
  unfold digitN; rw [if_neg (by omega), if_pos (by omega)]; omega
theorem digitN_c (c : UInt8) (h : 65 ≤ (c.toNat : Int)) (h' : (c.toNat : Int) ≤ 70) : (c.toNat : Int) - 65 + 10 = (digitN c : Int) := by
  unfold digitN; rw [if_neg (by omega), if_neg (by omega), if_pos (by omega)]; omega
theorem digitN_d (c : UInt8) (h : ¬ ((48 ≤ (c.toNat : Int) ∧ (c.toNat : Int) ≤ 57) ∨ (97 ≤ (c.toNat : Int) ∧ (c.toNat : Int) ≤ 102) ∨ (65 ≤ (c.toNat : Int) ∧ (c.toNat : Int) ≤ 70))) : 16 = (digitN c : Int) := by
  unfold digitN; rw [if_neg (by omega), if_neg (by omega), if_neg (by omega)]; rfl
theorem digit_any (c : UInt8) (w : World) : Calls Tryz.prog 192 #[B8 c] w fun e w' => e = .returned (.int .i64 (digitN c : Nat)) ∧ w = w' := by
  have hc := UInt8.toNat_lt c; go_enter Tryz.func192, Tryz.ntmps192
  go_wp2
  all_goals
    go_ret
    first
      | exact ⟨ret_int (digitN_a c (by omega) (by omega)), rfl⟩
      | exact ⟨ret_int (digitN_b c (by omega) (by omega)), rfl⟩
      | exact ⟨ret_int (digitN_c c (by omega) (by omega)), rfl⟩
      | exact ⟨ret_int (digitN_d c (by omega)), rfl⟩
theorem number_long {base : Nat} (hb : 0 < base) {l : Bytes} (h0 : l ≠ []) (hd : l.all (fun c => decide (digitN c < base)) = true) (k : Nat) (h : greatest < numTo base (l.take k)) : number base l = (0, 11) := by
  have h1 := numTo_take base hb l k; unfold number; rw [if_neg (by simp [h0, hd]), if_neg (by omega)]
theorem number_form {base : Nat} {l : Bytes} (hd : l.all (fun c => decide (digitN c < base)) = false) : number base l = (0, 10) := by
  unfold number; rw [if_pos (by simp [hd])]
theorem number_ok {base : Nat} {l : Bytes} (h0 : l ≠ []) (hd : l.all (fun c => decide (digitN c < base)) = true) (h : numTo base l ≤ greatest) : number base l = (numTo base l, 0) := by
  unfold number; rw [if_neg (by simp [h0, hd]), if_pos h]
theorem greatest_val : greatest = 1099511627776 := rfl
theorem number_any (base : Nat) (l : Bytes) (w : World) (hb : 0 < base) (hb2 : base ≤ 16) (hl : l.length ≤ maxLen) :
    Calls Tryz.prog 163 #[S l, .int .i64 base] w fun e w' => e = .returned (.tuple #[.int .i64 ((number base l).1 : Nat), .int .i64 ((number base l).2 : Nat)]) ∧ w = w' := by
  unfold maxLen at hl; by_cases h0 : l = []
  · subst h0
    go_enter Tryz.func163, Tryz.ntmps163
    go_wp2; go_ret2; exact ⟨rfl, rfl⟩
  have hn : l.isEmpty = false := (by simpa using h0); have H0 := Lib.hid h0; clear h0; go_enter Tryz.func163, Tryz.ntmps163
  go_wp2
  go_loop [13] (fun i => ∃ k : Nat, i = .int .i64 k ∧ k ≤ l.length ∧ Hid ((l.take k).all (fun c => decide (digitN c < base)) = true)) (fun i => l.length - (intOf i).toNat)
  case atStart => exact ⟨0, rfl, Nat.zero_le _, rfl⟩
  case round =>
    obtain ⟨k, rfl, hk, HN⟩ := hrel; by_cases hlt : k < l.length
    · by_cases hs : digitN l[k] < base
      · have HY := Lib.hid (all_take_succ (fun c => decide (digitN c < base)) l k hlt HN.out (by simpa using hs))
        have hs' : decide (base ≤ digitN l[k]) = false := (by rw [decide_eq_false_iff_not]; omega)
        clear hs; go_wp2_with (go_at_call 192; refine (digit_any _ _).mono ?_; rintro e w' ⟨rfl, rfl⟩)
        go_round
        case rel => exact ⟨k + 1, by go_num, by omega, HY⟩
        case measure => simp [intOf]; omega
      · have hs' : decide (base ≤ digitN l[k]) = true := by rw [decide_eq_true_iff]; omega
        have HY := Lib.hid (number_form (all_miss (fun c => decide (digitN c < base)) l k hlt (by simpa using hs))); clear hs; go_wp2_with (go_at_call 192; refine (digit_any _ _).mono ?_; rintro e w' ⟨rfl, rfl⟩)
        go_ret2; exact ⟨by rw [HY.out]; rfl, rfl⟩
    · have hk' : k = l.length := by omega
      subst hk'; rw [List.take_length] at HN; clear hlt hk; go_wp2
      go_loop [7, 25] (fun n i => ∃ k : Nat, i = .int .i64 k ∧ k ≤ l.length ∧ n = .int .i64 (numTo base (l.take k)) ∧ numTo base (l.take k) ≤ 1099511627776) (fun _ i => l.length - (intOf i).toNat)
      case atStart => exact ⟨0, rfl, Nat.zero_le _, rfl, Nat.zero_le _⟩
      case round =>
        obtain ⟨k, rfl, hk, rfl, hle⟩ := hrel; by_cases hlt : k < l.length
        · have HS := Lib.hid (numTo_snoc base l k hlt)
          have hd := digitN_le l[k]; have HG : ∀ h : 1099511627776 < numTo base (l.take (k + 1)), Hid (number base l = (0, 11)) := fun h => number_long hb H0.out HN.out (k + 1) h
          generalize hnk : numTo base (l.take k) = n at *; have hm : n * base ≤ 1099511627776 * 16 := Nat.mul_le_mul hle hb2; rw [HS.out] at HG; clear hnk; by_cases hg : 1099511627776 < n * base + digitN l[k]
          · have HG := HG hg
            go_wp2_with (go_at_call 192; refine (digit_any _ _).mono ?_; rintro e w' ⟨rfl, rfl⟩)
            go_ret2; exact ⟨by rw [HG.out]; rfl, rfl⟩
          · clear HG
            go_wp2_with (go_at_call 192; refine (digit_any _ _).mono ?_; rintro e w' ⟨rfl, rfl⟩)
            go_round
            case rel => exact ⟨k + 1, by go_num, by omega, by rw [HS.out]; go_num, by rw [HS.out]; omega⟩
            case measure => simp [intOf]; omega
        · have hk' : k = l.length := by omega
          subst hk'; rw [List.take_length] at *; have HG := Lib.hid (number_ok H0.out HN.out (by rw [greatest_val]; exact hle)); go_wp2; go_ret2; exact ⟨by rw [HG.out]; rfl, rfl⟩
theorem Decimal_any (l : Bytes) (w : World) (hl : l.length ≤ maxLen) :
    Calls Tryz.prog 144 #[S l] w fun e w' => e = .returned (.tuple #[.int .i64 ((number 10 l).1 : Nat), .int .i64 ((number 10 l).2 : Nat)]) ∧ w = w' := by
  have h := number_any 10 l w (by decide) (by decide) hl; rw [show ((10 : Nat) : Int) = 10 from rfl] at h; have H := Lib.hid h; clear h; go_enter Tryz.func144, Tryz.ntmps144
  go_wp2_with fail; refine H.out.mono ?_; rintro e w' ⟨rfl, rfl⟩; generalize hn : number 10 l = n at *; have HN := Lib.hid hn; clear hn; go_wp2; go_ret2; exact ⟨by rw [HN.out]; rfl, rfl⟩
open Go.RowKit Go.Dr
theorem Index_at (l : Bytes) (w : World) : Calls Tryz.prog 190 #[S l, S [61]] w fun e w' => e = .returned (.int .i64 (Lib.indexByte l 61)) ∧ w = w' :=
  (Tryz.stringslite_Index_one ⟨l.toArray⟩ 61 w).mono fun _ _ ⟨h1, h2⟩ => ⟨h1, h2.symm⟩
theorem HasPrefix_at (s p : Bytes) (w : World) : Calls Tryz.prog 142 #[S s, S p] w fun e w' => e = .returned (.bool (Lib.hasPrefix s p)) ∧ w = w' :=
  (Tryz.strings_HasPrefix ⟨s.toArray⟩ ⟨p.toArray⟩ w).mono fun _ _ ⟨h1, h2⟩ => ⟨h1, h2.symm⟩
theorem cutLite_any (l : Bytes) (w : World) (hl : l.length ≤ maxLen) :
    Calls Tryz.prog 160 #[S l, S [61]] w fun e w' => e = .returned (.tuple #[S (eqName l), S (eqArg l), .bool (decide (0 ≤ Lib.indexByte l 61))]) ∧ Below w.heap.size w w' := by
  unfold maxLen at hl
  rcases cut_at l with ⟨k, h1, h2, h3, h4⟩ | ⟨h1, h2, h3⟩
  · have H := Lib.hid (And.intro h1 (And.intro h3 h4))
    clear h1 h3 h4; go_enter Tryz.func160, Tryz.ntmps160
    go_wp2_with fail; refine (Index_at l w).mono ?_; rintro e w' ⟨rfl, rfl⟩; rw [H.out.1]; go_wp2_with fail; go_quiet (fail)
    go_wp2; go_ret3
    exact ⟨by rw [H.out.1, H.out.2.1, H.out.2.2]; simp, below_drewN (Below.refl _ _) _⟩
  · have H := Lib.hid (And.intro h1 (And.intro h2 h3))
    clear h1 h2 h3; go_enter Tryz.func160, Tryz.ntmps160
    go_wp2_with fail; refine (Index_at l w).mono ?_; rintro e w' ⟨rfl, rfl⟩; rw [H.out.1]; go_wp2; go_ret3
    exact ⟨by rw [H.out.1, H.out.2.1, H.out.2.2]; simp, Below.refl _ _⟩
theorem Cut_any (l : Bytes) (w : World) (hl : l.length ≤ maxLen) :
    Calls Tryz.prog 140 #[S l, S [61]] w fun e w' => e = .returned (.tuple #[S (eqName l), S (eqArg l), .bool (decide (0 ≤ Lib.indexByte l 61))]) ∧ Below w.heap.size w w' := by
  go_enter Tryz.func140, Tryz.ntmps140
  go_wp2_with fail; refine (cutLite_any l w hl).mono ?_; rintro e w' ⟨rfl, hb⟩
  (generalize hgena : eqName l = a at *; have Ha := Lib.hid hgena; clear hgena)
  (generalize hgenb : eqArg l = b at *; have Hb := Lib.hid hgenb; clear hgenb)
  (generalize hgenc : decide (0 ≤ Lib.indexByte l 61) = c at *; have Hc := Lib.hid hgenc; clear hgenc)
  go_wp2; go_ret3
  exact ⟨by rw [Ha.out, Hb.out, Hc.out]; rfl, hb⟩
theorem unquote_any (l : Bytes) (w : World) (hl : l.length ≤ 1099511627776) :
    Calls Tryz.prog 143 #[S l] w fun e w' => e = .returned (.tuple #[S (unquote l).1, .bool (unquote l).2]) ∧ Below w.heap.size w w' := by
  by_cases h2 : l.length < 2
  · have HU : Hid (unquote l = ([], false)) := by
      show _ = _
      unfold unquote; exact unq_end [] l 1 (by omega)
    go_enter Tryz.func143, Tryz.ntmps143
    go_wp2; go_ret2; exact ⟨by rw [HU.out]; rfl, Below.refl _ _⟩
  have HU : Hid (unquote l = unq [] (l.drop 1)) := rfl; go_enter Tryz.func143, Tryz.ntmps143
  go_wp2
  go_loopw [4, 5] (fun v i wr => ∃ (k : Nat) (out : Bytes), i = .int .i64 k ∧ 1 ≤ k ∧ k ≤ l.length ∧ out.length ≤ k ∧ wr.ownsRow w.heap.size 5 1 v out.length (out.map B8) ∧ Hid (unquote l = unq out (l.drop k)) ∧ Below w.heap.size w wr) (fun _ i _ => l.length - (intOf i).toNat)
  case atStart => exact ⟨1, [], rfl, Nat.le_refl _, by omega, by simp, World.ownsRow_nil _ _ _ _, HU, Below.refl _ _⟩
  case round =>
    clear HU; obtain ⟨k, out, rfl, hk1, hk, ho, hown, HU, hbel⟩ := hrel; by_cases hlt : k < l.length
    · by_cases c34 : l[k] = 34
      · have g34 : ((l[k].toNat : Int) == 34) = true := u8_eq c34
        have HQ := Lib.hid (unq_quote out l k hlt c34); have hc := run_string_own (P := Tryz.prog) wr 124 9 5 w.heap.size u4 out Tryz.underlying124 Tryz.underlying5 Tryz.underlying9 hown; clear c34; by_cases he : k + 1 = l.length
        · have ge : ((k : Int) == (l.length : Int) - 1) = true := by rw [beq_iff_eq]; omega
          have HE := Lib.hid he; clear he; go_wp2; go_ret2; exact ⟨by rw [HU.out, HQ.out, decide_eq_true HE.out]; rfl, hbel⟩
        · have ge : ((k : Int) == (l.length : Int) - 1) = false := by rw [beq_eq_false_iff_ne]; omega
          have HE := Lib.hid he; clear he; go_wp2; go_ret2; exact ⟨by rw [HU.out, HQ.out, decide_eq_false HE.out]; rfl, hbel⟩
      · have g34 : ((l[k].toNat : Int) == 34) = false := u8_ne c34
        by_cases c92 : l[k] = 92
        · have g92 : ((l[k].toNat : Int) == 92) = true := u8_eq c92
          by_cases he : k + 1 = l.length
          · have HQ := Lib.hid (unq_last out l k hlt c92 he)
            have ge : ((k : Int) + 1 == (l.length : Int)) = true := (by rw [← he]; simp); clear c34 c92 he; go_wp2; go_ret2; exact ⟨by rw [HU.out, HQ.out]; rfl, hbel⟩
          · have hlt2 : k + 1 < l.length := by omega
            have HQ := Lib.hid (unq_two out l k hlt2 c92); have ge : ((k : Int) + 1 == (l.length : Int)) = false := (by rw [beq_eq_false_iff_ne]; omega); clear c34 c92 he; go_wp2_with (at_builtin; refine wpList_app1 rfl _ _ 124 rfl w.heap.size (.int .u8 0) 1 Tryz.underlying124 (by kernel_rfl) rfl rfl _ _ _ rfl hown rfl (by omega) (by decide) hbel.size ?_; intro a' c' w' hown' hb' hz')
            go_roundw
            case rel => exact ⟨k + 1 + 1, out ++ [l[k + 1]], by go_num, by omega, by omega, by simp; omega, by simpa using hown', by show _ = _; rw [HU.out, HQ.out], hbel.trans hb'⟩
            case measure => simp [intOf]; omega
        · have g92 : ((l[k].toNat : Int) == 92) = false := u8_ne c92
          have HQ := Lib.hid (unq_one out l k hlt c34 c92); clear c34 c92; go_wp2_with (at_builtin; refine wpList_app1 rfl _ _ 124 rfl w.heap.size (.int .u8 0) 1 Tryz.underlying124 (by kernel_rfl) rfl rfl _ _ _ rfl hown rfl (by omega) (by decide) hbel.size ?_; intro a' c' w' hown' hb' hz')
          go_roundw
          case rel => exact ⟨k + 1, out ++ [l[k]], by go_num, by omega, by omega, by simp; omega, by simpa using hown', by show _ = _; rw [HU.out, HQ.out], hbel.trans hb'⟩
          case measure => simp [intOf]; omega
    · have HQ := Lib.hid (unq_end out l k (by omega))
      go_wp2; go_ret2; exact ⟨by rw [HU.out, HQ.out]; rfl, hbel⟩
open Go.RowKit Go.Dr
theorem eqName_length (l : Bytes) : (eqName l).length ≤ l.length := List.Sublist.length_le (List.takeWhile_sublist _)
theorem eqArg_length (l : Bytes) : (eqArg l).length ≤ l.length := by
  have := List.Sublist.length_le (List.dropWhile_sublist (fun c : UInt8 => c != 61) (l := l))
  simp only [eqArg, List.length_drop]; omega
theorem Directive_any (l : Bytes) (w : World) (hl : l.length ≤ 1099511627776) :
    Calls Tryz.prog 119 #[S l] w fun e w' => e = .returned (.tuple #[S (directive l).1, S (directive l).2.1, .bool (directive l).2.2]) ∧ Below w.heap.size w w' := by
  have HD := Lib.hid (directive.eq_1 l); have l1 := eqName_length l; have l2 := eqArg_length l; go_enter Tryz.func119, Tryz.ntmps119
  go_wp2_with fail; refine (Cut_any l w (by unfold maxLen; omega)).mono ?_; rintro e w1 ⟨rfl, hb1⟩
  (generalize hgena : eqName l = a at *; have Ha := Lib.hid hgena; clear hgena)
  (generalize hgenb : eqArg l = b at *; have Hb := Lib.hid hgenb; clear hgenb)
  (generalize hgenc : decide (0 ≤ Lib.indexByte l 61) = c at *; have Hc := Lib.hid hgenc; clear hgenc)
  by_cases ht : token a = true
  · have HT := Lib.hid ht
    clear ht; go_wp2_with fail; refine (Token_any a _ (by unfold maxLen; omega)).mono ?_; rintro e w' ⟨rfl, rfl⟩; rw [HT.out]; by_cases hp : Lib.hasPrefix b [34] = true
    · have HP := Lib.hid hp
      clear hp; go_wp2_with fail; refine (HasPrefix_at b [34] _).mono ?_; rintro e w' ⟨rfl, rfl⟩; rw [HP.out]; go_wp2_with fail; refine (unquote_any b _ (by omega)).mono ?_; rintro e w2 ⟨rfl, hb2⟩; by_cases hu : (unquote b).2 = true
      · have HU := Lib.hid hu
        clear hu; rw [HU.out]
        (generalize hgenu : (unquote b).1 = u at *; have Hu := Lib.hid hgenu; clear hgenu)
        go_wp2_with fail; refine (Lower_any a _ (by unfold maxLen; omega)).mono ?_; rintro e w3 ⟨rfl, hb3⟩; go_wp2; go_ret3
        exact ⟨by rw [HD.out]; simp [HT.out, HP.out, HU.out], Bl.tr (Bl.tr hb1 hb2) hb3⟩
      · have hu' : (unquote b).2 = false := by simpa using hu
        have HU := Lib.hid hu'; clear hu hu'; rw [HU.out]
        (generalize hgenu : (unquote b).1 = u at *; have Hu := Lib.hid hgenu; clear hgenu)
        go_wp2; go_ret3
        exact ⟨by rw [HD.out]; simp [HT.out, HP.out, HU.out], Bl.tr hb1 hb2⟩
    · have hp' : Lib.hasPrefix b [34] = false := by simpa using hp
      have HP := Lib.hid hp'; clear hp hp'; go_wp2_with fail; refine (HasPrefix_at b [34] _).mono ?_; rintro e w' ⟨rfl, rfl⟩; rw [HP.out]; go_wp2_with fail; refine (Lower_any a _ (by unfold maxLen; omega)).mono ?_; rintro e w3 ⟨rfl, hb3⟩; go_wp2; go_ret3
      exact ⟨by rw [HD.out]; simp [HT.out, HP.out], Bl.tr hb1 hb3⟩
  · have ht' : token a = false := by simpa using ht
    have HT := Lib.hid ht'; clear ht ht'; go_wp2_with fail; refine (Token_any a _ (by unfold maxLen; omega)).mono ?_; rintro e w' ⟨rfl, rfl⟩; rw [HT.out]; go_wp2; go_ret3
    exact ⟨by rw [HD.out]; simp [HT.out], hb1⟩
theorem numArg_any (a : Bytes) (w : World) (hl : a.length ≤ maxLen) :
    Calls Tryz.prog 121 #[S a] w fun e w' => e = .returned (.int .i64 (numArg a : Nat)) ∧ w = w' := by
  have HN := Lib.hid (numArg.eq_1 a); go_enter Tryz.func121, Tryz.ntmps121
  go_wp2_with fail; refine (Decimal_any a w hl).mono ?_; rintro e w' ⟨rfl, rfl⟩; by_cases h : (number 10 a).2 = 11
  · (generalize hgenx : (number 10 a).1 = x at *; have Hx := Lib.hid hgenx; clear hgenx)
    rw [h] at *; clear h; go_wp2; go_ret; exact ⟨ret_int (by rw [HN.out]; rfl), rfl⟩
  · have h1 : (((number 10 a).2 : Int) == 11) = false := by rw [beq_eq_false_iff_ne]; omega
    have HH := Lib.hid h; clear h
    (generalize hgenx : (number 10 a).1 = x at *; have Hx := Lib.hid hgenx; clear hgenx)
    (generalize hgeny : (number 10 a).2 = y at *; have Hy := Lib.hid hgeny; clear hgeny)
    go_wp2; go_ret; exact ⟨ret_int (by rw [HN.out, if_neg HH.out]), rfl⟩
theorem least_any (a n : Int) (w : World) (h : -1 ≤ a) (h2 : a ≤ 1099511627776) (hn0 : 0 ≤ n) (hn : n ≤ 1099511627776) :
    Calls Tryz.prog 120 #[.int .i64 a, .int .i64 n] w fun e w' => e = .returned (.int .i64 (least a n)) ∧ w = w' := by
  have HL := Lib.hid (least.eq_1 a n); go_enter Tryz.func120, Tryz.ntmps120
  go_wp2
  all_goals
    go_ret; exact ⟨ret_int (by (rw [HL.out]) <;> (try simp only [Int.min_def]) <;> (repeat' split) <;> omega), rfl⟩
theorem most_any (a n : Int) (w : World) (h : -1 ≤ a) (h2 : a ≤ 1099511627776) (hn0 : 0 ≤ n) (hn : n ≤ 1099511627776) :
    Calls Tryz.prog 117 #[.int .i64 a, .int .i64 n] w fun e w' => e = .returned (.int .i64 (most a n)) ∧ w = w' := by
  have HL := Lib.hid (most.eq_1 a n); go_enter Tryz.func117, Tryz.ntmps117
  go_wp2
  all_goals
    go_ret; exact ⟨ret_int (by (rw [HL.out]) <;> (try simp only [Int.max_def]) <;> (repeat' split) <;> omega), rfl⟩
theorem countLeast_any (a n : Int) (b k : Nat) (w : World) (h : -1 ≤ a) (h2 : a ≤ 1099511627776) (hn0 : 0 ≤ n) (hn : n ≤ 1099511627776) (hc : w.cell? ⟨b, k, none⟩ = some (.int .i64 a)) (hf : w.frozen? ⟨b, k, none⟩ = false) :
    Calls Tryz.prog 118 #[.pointer (some ⟨b, k, none⟩), .func (.func 120) #[] #[], .int .i64 n] w fun e w' => e = .returned (.tuple #[]) ∧ w' = w.setCell ⟨b, k, none⟩ (.int .i64 (least a n)) := by
  go_enter Tryz.func118, Tryz.ntmps118
  go_wp2_with (go_at_call 120; refine (least_any a n w h h2 hn0 hn).mono ?_; rintro e w' ⟨rfl, rfl⟩)
  go_end0
  exact ⟨rfl, rfl⟩
theorem countMost_any (a n : Int) (b k : Nat) (w : World) (h : -1 ≤ a) (h2 : a ≤ 1099511627776) (hn0 : 0 ≤ n) (hn : n ≤ 1099511627776) (hc : w.cell? ⟨b, k, none⟩ = some (.int .i64 a)) (hf : w.frozen? ⟨b, k, none⟩ = false) :
    Calls Tryz.prog 118 #[.pointer (some ⟨b, k, none⟩), .func (.func 117) #[] #[], .int .i64 n] w fun e w' => e = .returned (.tuple #[]) ∧ w' = w.setCell ⟨b, k, none⟩ (.int .i64 (most a n)) := by
  go_enter Tryz.func118, Tryz.ntmps118
  go_wp2_with (go_at_call 117; refine (most_any a n w h h2 hn0 hn).mono ?_; rintro e w' ⟨rfl, rfl⟩)
  go_end0
  exact ⟨rfl, rfl⟩
end Go.Proofs.YtahapblgmehngaaGreatDoor

