/- Parts of the proof of DealLacks_holds: the texts Dat7. -/
import Derived.Test.YtahapblgmehngaaGreatDoorC7
set_option linter.unusedSimpArgs false
set_option linter.unusedVariables false
set_option linter.unnecessarySimpa false
namespace Go.Proofs.YtahapblgmehngaaGreatDoor
open Go.RowKit Go.Dr

/-- What is known of a date's parts behind a text's reading. -/
structure Pt.Ok (p : Pt) : Prop where
  week : p.week < 7
  year : p.year ≤ 20000
  month : p.month < 12
  day : p.day < 100
  hour : p.hour < 100
  min : p.min < 100
  sec : p.sec < 100
  small : Pt.Sm p

set_option maxRecDepth 100000 in
set_option maxHeartbeats 2000000 in
theorem moment_bad (left : Bytes) (week year month day hour min sec : Nat) (b : Nat) (w : World) (h : PtAt w b ⟨left, week, year, month, day, hour, min, sec, true⟩) (hk : Pt.Ok ⟨left, week, year, month, day, hour, min, sec, true⟩) : Calls Tryz.prog 181 #[.pointer (some ⟨b, 0, none⟩)] w fun e w' => e = .returned (.tuple #[.int .i64 0, .bool false]) ∧ Below w.heap.size w w' := by
  obtain ⟨_, hk2, hk3, hk4, hk5, hk6, hk7, hk8⟩ := hk
  dsimp only at *
  have hk9 : left.length ≤ 1099511627776 := hk8
  clear hk8
  have k0 : w.cell? ⟨b, 0, none⟩ = some (S left) := h.cell 0
  have k1 : w.cell? ⟨b, 1, none⟩ = some (.int .i64 (week : Nat)) := h.cell 1
  have k2 : w.cell? ⟨b, 2, none⟩ = some (.int .i64 (year : Nat)) := h.cell 2
  have k3 : w.cell? ⟨b, 3, none⟩ = some (.int .i64 (month : Nat)) := h.cell 3
  have k4 : w.cell? ⟨b, 4, none⟩ = some (.int .i64 (day : Nat)) := h.cell 4
  have k5 : w.cell? ⟨b, 5, none⟩ = some (.int .i64 (hour : Nat)) := h.cell 5
  have k6 : w.cell? ⟨b, 6, none⟩ = some (.int .i64 (min : Nat)) := h.cell 6
  have k7 : w.cell? ⟨b, 7, none⟩ = some (.int .i64 (sec : Nat)) := h.cell 7
  have k8 : w.cell? ⟨b, 8, none⟩ = some (.bool true) := h.cell 8
  go_enter Tryz.func181, Tryz.ntmps181
  go_wp2
  go_quiet (fail)
  go_wp2
  go_ret2
  exact ⟨rfl, below_drewN (Below.refl _ _) _⟩

set_option maxRecDepth 100000 in
set_option maxHeartbeats 2000000 in
theorem moment_left (x : UInt8) (left : Bytes) (week year month day hour min sec : Nat) (b : Nat) (w : World) (h : PtAt w b ⟨(x :: left), week, year, month, day, hour, min, sec, false⟩) (hk : Pt.Ok ⟨(x :: left), week, year, month, day, hour, min, sec, false⟩) : Calls Tryz.prog 181 #[.pointer (some ⟨b, 0, none⟩)] w fun e w' => e = .returned (.tuple #[.int .i64 0, .bool false]) ∧ Below w.heap.size w w' := by
  obtain ⟨_, hk2, hk3, hk4, hk5, hk6, hk7, hk8⟩ := hk
  dsimp only at *
  have hk9 : (x :: left).length ≤ 1099511627776 := hk8
  clear hk8
  have k0 : w.cell? ⟨b, 0, none⟩ = some (S (x :: left)) := h.cell 0
  have k1 : w.cell? ⟨b, 1, none⟩ = some (.int .i64 (week : Nat)) := h.cell 1
  have k2 : w.cell? ⟨b, 2, none⟩ = some (.int .i64 (year : Nat)) := h.cell 2
  have k3 : w.cell? ⟨b, 3, none⟩ = some (.int .i64 (month : Nat)) := h.cell 3
  have k4 : w.cell? ⟨b, 4, none⟩ = some (.int .i64 (day : Nat)) := h.cell 4
  have k5 : w.cell? ⟨b, 5, none⟩ = some (.int .i64 (hour : Nat)) := h.cell 5
  have k6 : w.cell? ⟨b, 6, none⟩ = some (.int .i64 (min : Nat)) := h.cell 6
  have k7 : w.cell? ⟨b, 7, none⟩ = some (.int .i64 (sec : Nat)) := h.cell 7
  have k8 : w.cell? ⟨b, 8, none⟩ = some (.bool false) := h.cell 8
  go_enter Tryz.func181, Tryz.ntmps181
  go_wp2
  go_quiet (fail)
  go_wp2
  go_ret2
  exact ⟨rfl, below_drewN (Below.refl _ _) _⟩

set_option maxRecDepth 100000 in
set_option maxHeartbeats 2000000 in
theorem moment_year (week year month day hour min sec : Nat) (h2 : year < 1970) (b : Nat) (w : World) (h : PtAt w b ⟨[], week, year, month, day, hour, min, sec, false⟩) (hk : Pt.Ok ⟨[], week, year, month, day, hour, min, sec, false⟩) : Calls Tryz.prog 181 #[.pointer (some ⟨b, 0, none⟩)] w fun e w' => e = .returned (.tuple #[.int .i64 0, .bool false]) ∧ Below w.heap.size w w' := by
  obtain ⟨_, hk2, hk3, hk4, hk5, hk6, hk7, hk8⟩ := hk
  dsimp only at *
  have hk9 : [].length ≤ 1099511627776 := hk8
  clear hk8
  have k0 : w.cell? ⟨b, 0, none⟩ = some (S []) := h.cell 0
  have k1 : w.cell? ⟨b, 1, none⟩ = some (.int .i64 (week : Nat)) := h.cell 1
  have k2 : w.cell? ⟨b, 2, none⟩ = some (.int .i64 (year : Nat)) := h.cell 2
  have k3 : w.cell? ⟨b, 3, none⟩ = some (.int .i64 (month : Nat)) := h.cell 3
  have k4 : w.cell? ⟨b, 4, none⟩ = some (.int .i64 (day : Nat)) := h.cell 4
  have k5 : w.cell? ⟨b, 5, none⟩ = some (.int .i64 (hour : Nat)) := h.cell 5
  have k6 : w.cell? ⟨b, 6, none⟩ = some (.int .i64 (min : Nat)) := h.cell 6
  have k7 : w.cell? ⟨b, 7, none⟩ = some (.int .i64 (sec : Nat)) := h.cell 7
  have k8 : w.cell? ⟨b, 8, none⟩ = some (.bool false) := h.cell 8
  have g2 : decide ((year : Int) < 1970) = true := by simp; omega
  go_enter Tryz.func181, Tryz.ntmps181
  go_wp2
  go_quiet (fail)
  go_wp2
  go_ret2
  exact ⟨rfl, below_drewN (Below.refl _ _) _⟩

set_option maxRecDepth 100000 in
set_option maxHeartbeats 2000000 in
theorem moment_day1 (week year month day hour min sec : Nat) (h2 : ¬ year < 1970) (h3 : day < 1) (b : Nat) (w : World) (h : PtAt w b ⟨[], week, year, month, day, hour, min, sec, false⟩) (hk : Pt.Ok ⟨[], week, year, month, day, hour, min, sec, false⟩) : Calls Tryz.prog 181 #[.pointer (some ⟨b, 0, none⟩)] w fun e w' => e = .returned (.tuple #[.int .i64 0, .bool false]) ∧ Below w.heap.size w w' := by
  obtain ⟨_, hk2, hk3, hk4, hk5, hk6, hk7, hk8⟩ := hk
  dsimp only at *
  have hk9 : [].length ≤ 1099511627776 := hk8
  clear hk8
  have k0 : w.cell? ⟨b, 0, none⟩ = some (S []) := h.cell 0
  have k1 : w.cell? ⟨b, 1, none⟩ = some (.int .i64 (week : Nat)) := h.cell 1
  have k2 : w.cell? ⟨b, 2, none⟩ = some (.int .i64 (year : Nat)) := h.cell 2
  have k3 : w.cell? ⟨b, 3, none⟩ = some (.int .i64 (month : Nat)) := h.cell 3
  have k4 : w.cell? ⟨b, 4, none⟩ = some (.int .i64 (day : Nat)) := h.cell 4
  have k5 : w.cell? ⟨b, 5, none⟩ = some (.int .i64 (hour : Nat)) := h.cell 5
  have k6 : w.cell? ⟨b, 6, none⟩ = some (.int .i64 (min : Nat)) := h.cell 6
  have k7 : w.cell? ⟨b, 7, none⟩ = some (.int .i64 (sec : Nat)) := h.cell 7
  have k8 : w.cell? ⟨b, 8, none⟩ = some (.bool false) := h.cell 8
  have g2 : decide ((year : Int) < 1970) = false := by simp; omega
  have g3 : decide ((day : Int) < 1) = true := by simp; omega
  go_enter Tryz.func181, Tryz.ntmps181
  go_wp2
  go_quiet (fail)
  go_wp2
  go_ret2
  exact ⟨rfl, below_drewN (Below.refl _ _) _⟩

set_option maxRecDepth 100000 in
set_option maxHeartbeats 2000000 in
theorem moment_dayL (week year month day hour min sec : Nat) (h2 : ¬ year < 1970) (h3 : ¬ day < 1) (h4 : mLen year month < day) (b : Nat) (w : World) (h : PtAt w b ⟨[], week, year, month, day, hour, min, sec, false⟩) (hk : Pt.Ok ⟨[], week, year, month, day, hour, min, sec, false⟩) : Calls Tryz.prog 181 #[.pointer (some ⟨b, 0, none⟩)] w fun e w' => e = .returned (.tuple #[.int .i64 0, .bool false]) ∧ Below w.heap.size w w' := by
  obtain ⟨_, hk2, hk3, hk4, hk5, hk6, hk7, hk8⟩ := hk
  dsimp only at *
  have hk9 : [].length ≤ 1099511627776 := hk8
  clear hk8
  have k0 : w.cell? ⟨b, 0, none⟩ = some (S []) := h.cell 0
  have k1 : w.cell? ⟨b, 1, none⟩ = some (.int .i64 (week : Nat)) := h.cell 1
  have k2 : w.cell? ⟨b, 2, none⟩ = some (.int .i64 (year : Nat)) := h.cell 2
  have k3 : w.cell? ⟨b, 3, none⟩ = some (.int .i64 (month : Nat)) := h.cell 3
  have k4 : w.cell? ⟨b, 4, none⟩ = some (.int .i64 (day : Nat)) := h.cell 4
  have k5 : w.cell? ⟨b, 5, none⟩ = some (.int .i64 (hour : Nat)) := h.cell 5
  have k6 : w.cell? ⟨b, 6, none⟩ = some (.int .i64 (min : Nat)) := h.cell 6
  have k7 : w.cell? ⟨b, 7, none⟩ = some (.int .i64 (sec : Nat)) := h.cell 7
  have k8 : w.cell? ⟨b, 8, none⟩ = some (.bool false) := h.cell 8
  have g2 : decide ((year : Int) < 1970) = false := by simp; omega
  have g3 : decide ((day : Int) < 1) = false := by simp; omega
  have C : Hid (∀ (w : World) (n : Nat), Calls Tryz.prog 205 #[.int .i64 year, .int .i64 month] (w.drewN n) fun e w' => e = .returned (.int .i64 (mLen year month : Nat)) ∧ w' = w.drewN n) := Lib.hid (fun w n => (length_any year month (w.drewN n) (by omega) hk3).mono fun _ _ ⟨h1, h2⟩ => ⟨h1, h2.symm⟩)
  have hL := mLen_le year month
  generalize mLen year month = L at *
  have g4 : decide ((L : Int) < (day : Int)) = true := by simp; omega
  go_enter Tryz.func181, Tryz.ntmps181
  go_wp2
  go_quiet ((go_at_call 205; exact Calls.quiet_of_same (C.out _ _)))
  go_wp2
  go_ret2
  exact ⟨rfl, below_drewN (Below.refl _ _) _⟩

set_option maxRecDepth 100000 in
set_option maxHeartbeats 2000000 in
theorem moment_hour (week year month day hour min sec : Nat) (h2 : ¬ year < 1970) (h3 : ¬ day < 1) (h4 : ¬ mLen year month < day) (h5 : 23 < hour) (b : Nat) (w : World) (h : PtAt w b ⟨[], week, year, month, day, hour, min, sec, false⟩) (hk : Pt.Ok ⟨[], week, year, month, day, hour, min, sec, false⟩) : Calls Tryz.prog 181 #[.pointer (some ⟨b, 0, none⟩)] w fun e w' => e = .returned (.tuple #[.int .i64 0, .bool false]) ∧ Below w.heap.size w w' := by
  obtain ⟨_, hk2, hk3, hk4, hk5, hk6, hk7, hk8⟩ := hk
  dsimp only at *
  have hk9 : [].length ≤ 1099511627776 := hk8
  clear hk8
  have k0 : w.cell? ⟨b, 0, none⟩ = some (S []) := h.cell 0
  have k1 : w.cell? ⟨b, 1, none⟩ = some (.int .i64 (week : Nat)) := h.cell 1
  have k2 : w.cell? ⟨b, 2, none⟩ = some (.int .i64 (year : Nat)) := h.cell 2
  have k3 : w.cell? ⟨b, 3, none⟩ = some (.int .i64 (month : Nat)) := h.cell 3
  have k4 : w.cell? ⟨b, 4, none⟩ = some (.int .i64 (day : Nat)) := h.cell 4
  have k5 : w.cell? ⟨b, 5, none⟩ = some (.int .i64 (hour : Nat)) := h.cell 5
  have k6 : w.cell? ⟨b, 6, none⟩ = some (.int .i64 (min : Nat)) := h.cell 6
  have k7 : w.cell? ⟨b, 7, none⟩ = some (.int .i64 (sec : Nat)) := h.cell 7
  have k8 : w.cell? ⟨b, 8, none⟩ = some (.bool false) := h.cell 8
  have g2 : decide ((year : Int) < 1970) = false := by simp; omega
  have g3 : decide ((day : Int) < 1) = false := by simp; omega
  have C : Hid (∀ (w : World) (n : Nat), Calls Tryz.prog 205 #[.int .i64 year, .int .i64 month] (w.drewN n) fun e w' => e = .returned (.int .i64 (mLen year month : Nat)) ∧ w' = w.drewN n) := Lib.hid (fun w n => (length_any year month (w.drewN n) (by omega) hk3).mono fun _ _ ⟨h1, h2⟩ => ⟨h1, h2.symm⟩)
  have hL := mLen_le year month
  generalize mLen year month = L at *
  have g4 : decide ((L : Int) < (day : Int)) = false := by simp; omega
  have g5 : decide (23 < (hour : Int)) = true := by simp; omega
  go_enter Tryz.func181, Tryz.ntmps181
  go_wp2
  go_quiet ((go_at_call 205; exact Calls.quiet_of_same (C.out _ _)))
  go_wp2
  go_ret2
  exact ⟨rfl, below_drewN (Below.refl _ _) _⟩

set_option maxRecDepth 100000 in
set_option maxHeartbeats 2000000 in
theorem moment_min (week year month day hour min sec : Nat) (h2 : ¬ year < 1970) (h3 : ¬ day < 1) (h4 : ¬ mLen year month < day) (h5 : ¬ 23 < hour) (h6 : 59 < min) (b : Nat) (w : World) (h : PtAt w b ⟨[], week, year, month, day, hour, min, sec, false⟩) (hk : Pt.Ok ⟨[], week, year, month, day, hour, min, sec, false⟩) : Calls Tryz.prog 181 #[.pointer (some ⟨b, 0, none⟩)] w fun e w' => e = .returned (.tuple #[.int .i64 0, .bool false]) ∧ Below w.heap.size w w' := by
  obtain ⟨_, hk2, hk3, hk4, hk5, hk6, hk7, hk8⟩ := hk
  dsimp only at *
  have hk9 : [].length ≤ 1099511627776 := hk8
  clear hk8
  have k0 : w.cell? ⟨b, 0, none⟩ = some (S []) := h.cell 0
  have k1 : w.cell? ⟨b, 1, none⟩ = some (.int .i64 (week : Nat)) := h.cell 1
  have k2 : w.cell? ⟨b, 2, none⟩ = some (.int .i64 (year : Nat)) := h.cell 2
  have k3 : w.cell? ⟨b, 3, none⟩ = some (.int .i64 (month : Nat)) := h.cell 3
  have k4 : w.cell? ⟨b, 4, none⟩ = some (.int .i64 (day : Nat)) := h.cell 4
  have k5 : w.cell? ⟨b, 5, none⟩ = some (.int .i64 (hour : Nat)) := h.cell 5
  have k6 : w.cell? ⟨b, 6, none⟩ = some (.int .i64 (min : Nat)) := h.cell 6
  have k7 : w.cell? ⟨b, 7, none⟩ = some (.int .i64 (sec : Nat)) := h.cell 7
  have k8 : w.cell? ⟨b, 8, none⟩ = some (.bool false) := h.cell 8
  have g2 : decide ((year : Int) < 1970) = false := by simp; omega
  have g3 : decide ((day : Int) < 1) = false := by simp; omega
  have C : Hid (∀ (w : World) (n : Nat), Calls Tryz.prog 205 #[.int .i64 year, .int .i64 month] (w.drewN n) fun e w' => e = .returned (.int .i64 (mLen year month : Nat)) ∧ w' = w.drewN n) := Lib.hid (fun w n => (length_any year month (w.drewN n) (by omega) hk3).mono fun _ _ ⟨h1, h2⟩ => ⟨h1, h2.symm⟩)
  have hL := mLen_le year month
  generalize mLen year month = L at *
  have g4 : decide ((L : Int) < (day : Int)) = false := by simp; omega
  have g5 : decide (23 < (hour : Int)) = false := by simp; omega
  have g6 : decide (59 < (min : Int)) = true := by simp; omega
  go_enter Tryz.func181, Tryz.ntmps181
  go_wp2
  go_quiet ((go_at_call 205; exact Calls.quiet_of_same (C.out _ _)))
  go_wp2
  go_ret2
  exact ⟨rfl, below_drewN (Below.refl _ _) _⟩

set_option maxRecDepth 100000 in
set_option maxHeartbeats 2000000 in
theorem moment_sec (week year month day hour min sec : Nat) (h2 : ¬ year < 1970) (h3 : ¬ day < 1) (h4 : ¬ mLen year month < day) (h5 : ¬ 23 < hour) (h6 : ¬ 59 < min) (h7 : 59 < sec) (b : Nat) (w : World) (h : PtAt w b ⟨[], week, year, month, day, hour, min, sec, false⟩) (hk : Pt.Ok ⟨[], week, year, month, day, hour, min, sec, false⟩) : Calls Tryz.prog 181 #[.pointer (some ⟨b, 0, none⟩)] w fun e w' => e = .returned (.tuple #[.int .i64 0, .bool false]) ∧ Below w.heap.size w w' := by
  obtain ⟨_, hk2, hk3, hk4, hk5, hk6, hk7, hk8⟩ := hk
  dsimp only at *
  have hk9 : [].length ≤ 1099511627776 := hk8
  clear hk8
  have k0 : w.cell? ⟨b, 0, none⟩ = some (S []) := h.cell 0
  have k1 : w.cell? ⟨b, 1, none⟩ = some (.int .i64 (week : Nat)) := h.cell 1
  have k2 : w.cell? ⟨b, 2, none⟩ = some (.int .i64 (year : Nat)) := h.cell 2
  have k3 : w.cell? ⟨b, 3, none⟩ = some (.int .i64 (month : Nat)) := h.cell 3
  have k4 : w.cell? ⟨b, 4, none⟩ = some (.int .i64 (day : Nat)) := h.cell 4
  have k5 : w.cell? ⟨b, 5, none⟩ = some (.int .i64 (hour : Nat)) := h.cell 5
  have k6 : w.cell? ⟨b, 6, none⟩ = some (.int .i64 (min : Nat)) := h.cell 6
  have k7 : w.cell? ⟨b, 7, none⟩ = some (.int .i64 (sec : Nat)) := h.cell 7
  have k8 : w.cell? ⟨b, 8, none⟩ = some (.bool false) := h.cell 8
  have g2 : decide ((year : Int) < 1970) = false := by simp; omega
  have g3 : decide ((day : Int) < 1) = false := by simp; omega
  have C : Hid (∀ (w : World) (n : Nat), Calls Tryz.prog 205 #[.int .i64 year, .int .i64 month] (w.drewN n) fun e w' => e = .returned (.int .i64 (mLen year month : Nat)) ∧ w' = w.drewN n) := Lib.hid (fun w n => (length_any year month (w.drewN n) (by omega) hk3).mono fun _ _ ⟨h1, h2⟩ => ⟨h1, h2.symm⟩)
  have hL := mLen_le year month
  generalize mLen year month = L at *
  have g4 : decide ((L : Int) < (day : Int)) = false := by simp; omega
  have g5 : decide (23 < (hour : Int)) = false := by simp; omega
  have g6 : decide (59 < (min : Int)) = false := by simp; omega
  have g7 : decide (59 < (sec : Int)) = true := by simp; omega
  go_enter Tryz.func181, Tryz.ntmps181
  go_wp2
  go_quiet ((go_at_call 205; exact Calls.quiet_of_same (C.out _ _)))
  go_wp2
  go_ret2
  exact ⟨rfl, below_drewN (Below.refl _ _) _⟩

end Go.Proofs.YtahapblgmehngaaGreatDoor

