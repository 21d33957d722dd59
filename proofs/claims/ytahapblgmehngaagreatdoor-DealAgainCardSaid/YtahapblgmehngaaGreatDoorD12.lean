/- Parts of the proof of DealAgain_holds: the texts Rdt4 Rdt2 Rdt9. -/
import Derived.Test.YtahapblgmehngaaGreatDoorD11
set_option linter.unusedSimpArgs false
set_option linter.unusedVariables false
set_option linter.unnecessarySimpa false
set_option maxRecDepth 100000
set_option maxHeartbeats 64000000
namespace Go.Proofs.YtahapblgmehngaaGreatDoor
open Go.RowKit Go.Dr
theorem right_y1 (y : Int) (m : Nat) (d h i s : Int) (g0 : decide (1970 ≤ y) = false) (w : World) : Calls Tryz.prog 133 #[.agg #[.int .i64 y, .int .i64 (m : Nat), .int .i64 d, .int .i64 h, .int .i64 i, .int .i64 s, .int .i64 0]] w fun e w' => e = .returned (.bool false) ∧ Below w.heap.size w w' := by
  have hX := Blk.new w 165 #[.int .i64 y, .int .i64 (m : Nat), .int .i64 d, .int .i64 h, .int .i64 i, .int .i64 s, .int .i64 0]; have hb0 : Below w.heap.size w (w.alloc (.cells #[.int .i64 y, .int .i64 (m : Nat), .int .i64 d, .int .i64 h, .int .i64 i, .int .i64 s, .int .i64 0] 165)) := (Below.refl _ _).alloc (Nat.le_refl _) _; go_enter Tryz.func133, Tryz.ntmps133
  go_wp2_with fail; generalize w.alloc (.cells #[.int .i64 y, .int .i64 (m : Nat), .int .i64 d, .int .i64 h, .int .i64 i, .int .i64 s, .int .i64 0] 165) = w0 at *; obtain ⟨k0, k1, k2, k3, k4, k5, k6⟩ := hX.c7; go_quiet (fail)
  go_wp2; go_ret; exact ⟨rfl, below_drewN hb0 _⟩
theorem right_y2 (y : Int) (m : Nat) (d h i s : Int) (g0 : decide (1970 ≤ y) = true) (g1 : decide (y ≤ 9999) = false) (w : World) : Calls Tryz.prog 133 #[.agg #[.int .i64 y, .int .i64 (m : Nat), .int .i64 d, .int .i64 h, .int .i64 i, .int .i64 s, .int .i64 0]] w fun e w' => e = .returned (.bool false) ∧ Below w.heap.size w w' := by
  have hX := Blk.new w 165 #[.int .i64 y, .int .i64 (m : Nat), .int .i64 d, .int .i64 h, .int .i64 i, .int .i64 s, .int .i64 0]; have hb0 : Below w.heap.size w (w.alloc (.cells #[.int .i64 y, .int .i64 (m : Nat), .int .i64 d, .int .i64 h, .int .i64 i, .int .i64 s, .int .i64 0] 165)) := (Below.refl _ _).alloc (Nat.le_refl _) _; go_enter Tryz.func133, Tryz.ntmps133
  go_wp2_with fail; generalize w.alloc (.cells #[.int .i64 y, .int .i64 (m : Nat), .int .i64 d, .int .i64 h, .int .i64 i, .int .i64 s, .int .i64 0] 165) = w0 at *; obtain ⟨k0, k1, k2, k3, k4, k5, k6⟩ := hX.c7; go_quiet (fail)
  go_wp2; go_ret; exact ⟨rfl, below_drewN hb0 _⟩
theorem right_m1 (y : Int) (m : Nat) (d h i s : Int) (g0 : decide (1970 ≤ y) = true) (g1 : decide (y ≤ 9999) = true) (g2 : decide (1 ≤ (m : Int)) = false) (w : World) : Calls Tryz.prog 133 #[.agg #[.int .i64 y, .int .i64 (m : Nat), .int .i64 d, .int .i64 h, .int .i64 i, .int .i64 s, .int .i64 0]] w fun e w' => e = .returned (.bool false) ∧ Below w.heap.size w w' := by
  have hX := Blk.new w 165 #[.int .i64 y, .int .i64 (m : Nat), .int .i64 d, .int .i64 h, .int .i64 i, .int .i64 s, .int .i64 0]; have hb0 : Below w.heap.size w (w.alloc (.cells #[.int .i64 y, .int .i64 (m : Nat), .int .i64 d, .int .i64 h, .int .i64 i, .int .i64 s, .int .i64 0] 165)) := (Below.refl _ _).alloc (Nat.le_refl _) _; go_enter Tryz.func133, Tryz.ntmps133
  go_wp2_with fail; generalize w.alloc (.cells #[.int .i64 y, .int .i64 (m : Nat), .int .i64 d, .int .i64 h, .int .i64 i, .int .i64 s, .int .i64 0] 165) = w0 at *; obtain ⟨k0, k1, k2, k3, k4, k5, k6⟩ := hX.c7; go_quiet (fail)
  go_wp2; go_ret; exact ⟨rfl, below_drewN hb0 _⟩
theorem right_d1 (y : Int) (m : Nat) (d h i s : Int) (g0 : decide (1970 ≤ y) = true) (g1 : decide (y ≤ 9999) = true) (g2 : decide (1 ≤ (m : Int)) = true) (g3 : decide (1 ≤ d) = false) (w : World) : Calls Tryz.prog 133 #[.agg #[.int .i64 y, .int .i64 (m : Nat), .int .i64 d, .int .i64 h, .int .i64 i, .int .i64 s, .int .i64 0]] w fun e w' => e = .returned (.bool false) ∧ Below w.heap.size w w' := by
  have hX := Blk.new w 165 #[.int .i64 y, .int .i64 (m : Nat), .int .i64 d, .int .i64 h, .int .i64 i, .int .i64 s, .int .i64 0]; have hb0 : Below w.heap.size w (w.alloc (.cells #[.int .i64 y, .int .i64 (m : Nat), .int .i64 d, .int .i64 h, .int .i64 i, .int .i64 s, .int .i64 0] 165)) := (Below.refl _ _).alloc (Nat.le_refl _) _; go_enter Tryz.func133, Tryz.ntmps133
  go_wp2_with fail; generalize w.alloc (.cells #[.int .i64 y, .int .i64 (m : Nat), .int .i64 d, .int .i64 h, .int .i64 i, .int .i64 s, .int .i64 0] 165) = w0 at *; obtain ⟨k0, k1, k2, k3, k4, k5, k6⟩ := hX.c7; go_quiet (fail)
  go_wp2; go_ret; exact ⟨rfl, below_drewN hb0 _⟩
theorem right_dL (y : Int) (m : Nat) (d h i s : Int) (L : Nat) (C : ∀ (w : World) (n : Nat), Calls Tryz.prog 155 #[.int .i64 y, .int .i64 (m : Nat)] (w.drewN n) fun e w' => e = .returned (.int .i64 (L : Nat)) ∧ w' = w.drewN n) (g0 : decide (1970 ≤ y) = true) (g1 : decide (y ≤ 9999) = true) (g2 : decide (1 ≤ (m : Int)) = true) (g3 : decide (1 ≤ d) = true) (g4 : decide (d ≤ (L : Int)) = false) (w : World) : Calls Tryz.prog 133 #[.agg #[.int .i64 y, .int .i64 (m : Nat), .int .i64 d, .int .i64 h, .int .i64 i, .int .i64 s, .int .i64 0]] w fun e w' => e = .returned (.bool false) ∧ Below w.heap.size w w' := by
  have C := Lib.hid C; have hX := Blk.new w 165 #[.int .i64 y, .int .i64 (m : Nat), .int .i64 d, .int .i64 h, .int .i64 i, .int .i64 s, .int .i64 0]; have hb0 : Below w.heap.size w (w.alloc (.cells #[.int .i64 y, .int .i64 (m : Nat), .int .i64 d, .int .i64 h, .int .i64 i, .int .i64 s, .int .i64 0] 165)) := (Below.refl _ _).alloc (Nat.le_refl _) _; go_enter Tryz.func133, Tryz.ntmps133
  go_wp2_with fail; generalize w.alloc (.cells #[.int .i64 y, .int .i64 (m : Nat), .int .i64 d, .int .i64 h, .int .i64 i, .int .i64 s, .int .i64 0] 165) = w0 at *; obtain ⟨k0, k1, k2, k3, k4, k5, k6⟩ := hX.c7; go_quiet ((go_at_call 155; exact Calls.quiet_of_same (C.out _ _)))
  go_wp2; go_ret; exact ⟨rfl, below_drewN hb0 _⟩
theorem right_h1 (y : Int) (m : Nat) (d h i s : Int) (L : Nat) (C : ∀ (w : World) (n : Nat), Calls Tryz.prog 155 #[.int .i64 y, .int .i64 (m : Nat)] (w.drewN n) fun e w' => e = .returned (.int .i64 (L : Nat)) ∧ w' = w.drewN n) (g0 : decide (1970 ≤ y) = true) (g1 : decide (y ≤ 9999) = true) (g2 : decide (1 ≤ (m : Int)) = true) (g3 : decide (1 ≤ d) = true) (g4 : decide (d ≤ (L : Int)) = true) (g5 : decide (0 ≤ h) = false) (w : World) : Calls Tryz.prog 133 #[.agg #[.int .i64 y, .int .i64 (m : Nat), .int .i64 d, .int .i64 h, .int .i64 i, .int .i64 s, .int .i64 0]] w fun e w' => e = .returned (.bool false) ∧ Below w.heap.size w w' := by
  have C := Lib.hid C; have hX := Blk.new w 165 #[.int .i64 y, .int .i64 (m : Nat), .int .i64 d, .int .i64 h, .int .i64 i, .int .i64 s, .int .i64 0]; have hb0 : Below w.heap.size w (w.alloc (.cells #[.int .i64 y, .int .i64 (m : Nat), .int .i64 d, .int .i64 h, .int .i64 i, .int .i64 s, .int .i64 0] 165)) := (Below.refl _ _).alloc (Nat.le_refl _) _; go_enter Tryz.func133, Tryz.ntmps133
  go_wp2_with fail; generalize w.alloc (.cells #[.int .i64 y, .int .i64 (m : Nat), .int .i64 d, .int .i64 h, .int .i64 i, .int .i64 s, .int .i64 0] 165) = w0 at *; obtain ⟨k0, k1, k2, k3, k4, k5, k6⟩ := hX.c7; go_quiet ((go_at_call 155; exact Calls.quiet_of_same (C.out _ _)))
  go_wp2; go_ret; exact ⟨rfl, below_drewN hb0 _⟩
theorem right_h2 (y : Int) (m : Nat) (d h i s : Int) (L : Nat) (C : ∀ (w : World) (n : Nat), Calls Tryz.prog 155 #[.int .i64 y, .int .i64 (m : Nat)] (w.drewN n) fun e w' => e = .returned (.int .i64 (L : Nat)) ∧ w' = w.drewN n) (g0 : decide (1970 ≤ y) = true) (g1 : decide (y ≤ 9999) = true) (g2 : decide (1 ≤ (m : Int)) = true) (g3 : decide (1 ≤ d) = true) (g4 : decide (d ≤ (L : Int)) = true) (g5 : decide (0 ≤ h) = true) (g6 : decide (h ≤ 23) = false) (w : World) : Calls Tryz.prog 133 #[.agg #[.int .i64 y, .int .i64 (m : Nat), .int .i64 d, .int .i64 h, .int .i64 i, .int .i64 s, .int .i64 0]] w fun e w' => e = .returned (.bool false) ∧ Below w.heap.size w w' := by
  have C := Lib.hid C; have hX := Blk.new w 165 #[.int .i64 y, .int .i64 (m : Nat), .int .i64 d, .int .i64 h, .int .i64 i, .int .i64 s, .int .i64 0]; have hb0 : Below w.heap.size w (w.alloc (.cells #[.int .i64 y, .int .i64 (m : Nat), .int .i64 d, .int .i64 h, .int .i64 i, .int .i64 s, .int .i64 0] 165)) := (Below.refl _ _).alloc (Nat.le_refl _) _; go_enter Tryz.func133, Tryz.ntmps133
  go_wp2_with fail; generalize w.alloc (.cells #[.int .i64 y, .int .i64 (m : Nat), .int .i64 d, .int .i64 h, .int .i64 i, .int .i64 s, .int .i64 0] 165) = w0 at *; obtain ⟨k0, k1, k2, k3, k4, k5, k6⟩ := hX.c7; go_quiet ((go_at_call 155; exact Calls.quiet_of_same (C.out _ _)))
  go_wp2; go_ret; exact ⟨rfl, below_drewN hb0 _⟩
theorem right_i1 (y : Int) (m : Nat) (d h i s : Int) (L : Nat) (C : ∀ (w : World) (n : Nat), Calls Tryz.prog 155 #[.int .i64 y, .int .i64 (m : Nat)] (w.drewN n) fun e w' => e = .returned (.int .i64 (L : Nat)) ∧ w' = w.drewN n) (g0 : decide (1970 ≤ y) = true) (g1 : decide (y ≤ 9999) = true) (g2 : decide (1 ≤ (m : Int)) = true) (g3 : decide (1 ≤ d) = true) (g4 : decide (d ≤ (L : Int)) = true) (g5 : decide (0 ≤ h) = true) (g6 : decide (h ≤ 23) = true) (g7 : decide (0 ≤ i) = false) (w : World) : Calls Tryz.prog 133 #[.agg #[.int .i64 y, .int .i64 (m : Nat), .int .i64 d, .int .i64 h, .int .i64 i, .int .i64 s, .int .i64 0]] w fun e w' => e = .returned (.bool false) ∧ Below w.heap.size w w' := by
  have C := Lib.hid C; have hX := Blk.new w 165 #[.int .i64 y, .int .i64 (m : Nat), .int .i64 d, .int .i64 h, .int .i64 i, .int .i64 s, .int .i64 0]; have hb0 : Below w.heap.size w (w.alloc (.cells #[.int .i64 y, .int .i64 (m : Nat), .int .i64 d, .int .i64 h, .int .i64 i, .int .i64 s, .int .i64 0] 165)) := (Below.refl _ _).alloc (Nat.le_refl _) _; go_enter Tryz.func133, Tryz.ntmps133
  go_wp2_with fail; generalize w.alloc (.cells #[.int .i64 y, .int .i64 (m : Nat), .int .i64 d, .int .i64 h, .int .i64 i, .int .i64 s, .int .i64 0] 165) = w0 at *; obtain ⟨k0, k1, k2, k3, k4, k5, k6⟩ := hX.c7; go_quiet ((go_at_call 155; exact Calls.quiet_of_same (C.out _ _)))
  go_wp2; go_ret; exact ⟨rfl, below_drewN hb0 _⟩
theorem right_i2 (y : Int) (m : Nat) (d h i s : Int) (L : Nat) (C : ∀ (w : World) (n : Nat), Calls Tryz.prog 155 #[.int .i64 y, .int .i64 (m : Nat)] (w.drewN n) fun e w' => e = .returned (.int .i64 (L : Nat)) ∧ w' = w.drewN n) (g0 : decide (1970 ≤ y) = true) (g1 : decide (y ≤ 9999) = true) (g2 : decide (1 ≤ (m : Int)) = true) (g3 : decide (1 ≤ d) = true) (g4 : decide (d ≤ (L : Int)) = true) (g5 : decide (0 ≤ h) = true) (g6 : decide (h ≤ 23) = true) (g7 : decide (0 ≤ i) = true) (g8 : decide (i ≤ 59) = false) (w : World) : Calls Tryz.prog 133 #[.agg #[.int .i64 y, .int .i64 (m : Nat), .int .i64 d, .int .i64 h, .int .i64 i, .int .i64 s, .int .i64 0]] w fun e w' => e = .returned (.bool false) ∧ Below w.heap.size w w' := by
  have C := Lib.hid C; have hX := Blk.new w 165 #[.int .i64 y, .int .i64 (m : Nat), .int .i64 d, .int .i64 h, .int .i64 i, .int .i64 s, .int .i64 0]; have hb0 : Below w.heap.size w (w.alloc (.cells #[.int .i64 y, .int .i64 (m : Nat), .int .i64 d, .int .i64 h, .int .i64 i, .int .i64 s, .int .i64 0] 165)) := (Below.refl _ _).alloc (Nat.le_refl _) _; go_enter Tryz.func133, Tryz.ntmps133
  go_wp2_with fail; generalize w.alloc (.cells #[.int .i64 y, .int .i64 (m : Nat), .int .i64 d, .int .i64 h, .int .i64 i, .int .i64 s, .int .i64 0] 165) = w0 at *; obtain ⟨k0, k1, k2, k3, k4, k5, k6⟩ := hX.c7; go_quiet ((go_at_call 155; exact Calls.quiet_of_same (C.out _ _)))
  go_wp2; go_ret; exact ⟨rfl, below_drewN hb0 _⟩
theorem right_s1 (y : Int) (m : Nat) (d h i s : Int) (L : Nat) (C : ∀ (w : World) (n : Nat), Calls Tryz.prog 155 #[.int .i64 y, .int .i64 (m : Nat)] (w.drewN n) fun e w' => e = .returned (.int .i64 (L : Nat)) ∧ w' = w.drewN n) (g0 : decide (1970 ≤ y) = true) (g1 : decide (y ≤ 9999) = true) (g2 : decide (1 ≤ (m : Int)) = true) (g3 : decide (1 ≤ d) = true) (g4 : decide (d ≤ (L : Int)) = true) (g5 : decide (0 ≤ h) = true) (g6 : decide (h ≤ 23) = true) (g7 : decide (0 ≤ i) = true) (g8 : decide (i ≤ 59) = true) (g9 : decide (0 ≤ s) = false) (w : World) : Calls Tryz.prog 133 #[.agg #[.int .i64 y, .int .i64 (m : Nat), .int .i64 d, .int .i64 h, .int .i64 i, .int .i64 s, .int .i64 0]] w fun e w' => e = .returned (.bool false) ∧ Below w.heap.size w w' := by
  have C := Lib.hid C; have hX := Blk.new w 165 #[.int .i64 y, .int .i64 (m : Nat), .int .i64 d, .int .i64 h, .int .i64 i, .int .i64 s, .int .i64 0]; have hb0 : Below w.heap.size w (w.alloc (.cells #[.int .i64 y, .int .i64 (m : Nat), .int .i64 d, .int .i64 h, .int .i64 i, .int .i64 s, .int .i64 0] 165)) := (Below.refl _ _).alloc (Nat.le_refl _) _; go_enter Tryz.func133, Tryz.ntmps133
  go_wp2_with fail; generalize w.alloc (.cells #[.int .i64 y, .int .i64 (m : Nat), .int .i64 d, .int .i64 h, .int .i64 i, .int .i64 s, .int .i64 0] 165) = w0 at *; obtain ⟨k0, k1, k2, k3, k4, k5, k6⟩ := hX.c7; go_quiet ((go_at_call 155; exact Calls.quiet_of_same (C.out _ _)))
  go_wp2; go_ret; exact ⟨rfl, below_drewN hb0 _⟩
theorem right_s2 (y : Int) (m : Nat) (d h i s : Int) (L : Nat) (C : ∀ (w : World) (n : Nat), Calls Tryz.prog 155 #[.int .i64 y, .int .i64 (m : Nat)] (w.drewN n) fun e w' => e = .returned (.int .i64 (L : Nat)) ∧ w' = w.drewN n) (g0 : decide (1970 ≤ y) = true) (g1 : decide (y ≤ 9999) = true) (g2 : decide (1 ≤ (m : Int)) = true) (g3 : decide (1 ≤ d) = true) (g4 : decide (d ≤ (L : Int)) = true) (g5 : decide (0 ≤ h) = true) (g6 : decide (h ≤ 23) = true) (g7 : decide (0 ≤ i) = true) (g8 : decide (i ≤ 59) = true) (g9 : decide (0 ≤ s) = true) (g10 : decide (s ≤ 59) = false) (w : World) : Calls Tryz.prog 133 #[.agg #[.int .i64 y, .int .i64 (m : Nat), .int .i64 d, .int .i64 h, .int .i64 i, .int .i64 s, .int .i64 0]] w fun e w' => e = .returned (.bool false) ∧ Below w.heap.size w w' := by
  have C := Lib.hid C; have hX := Blk.new w 165 #[.int .i64 y, .int .i64 (m : Nat), .int .i64 d, .int .i64 h, .int .i64 i, .int .i64 s, .int .i64 0]; have hb0 : Below w.heap.size w (w.alloc (.cells #[.int .i64 y, .int .i64 (m : Nat), .int .i64 d, .int .i64 h, .int .i64 i, .int .i64 s, .int .i64 0] 165)) := (Below.refl _ _).alloc (Nat.le_refl _) _; go_enter Tryz.func133, Tryz.ntmps133
  go_wp2_with fail; generalize w.alloc (.cells #[.int .i64 y, .int .i64 (m : Nat), .int .i64 d, .int .i64 h, .int .i64 i, .int .i64 s, .int .i64 0] 165) = w0 at *; obtain ⟨k0, k1, k2, k3, k4, k5, k6⟩ := hX.c7; go_quiet ((go_at_call 155; exact Calls.quiet_of_same (C.out _ _)))
  go_wp2; go_ret; exact ⟨rfl, below_drewN hb0 _⟩
theorem right_all (y : Int) (m : Nat) (d h i s : Int) (L : Nat) (C : ∀ (w : World) (n : Nat), Calls Tryz.prog 155 #[.int .i64 y, .int .i64 (m : Nat)] (w.drewN n) fun e w' => e = .returned (.int .i64 (L : Nat)) ∧ w' = w.drewN n) (g0 : decide (1970 ≤ y) = true) (g1 : decide (y ≤ 9999) = true) (g2 : decide (1 ≤ (m : Int)) = true) (g3 : decide (1 ≤ d) = true) (g4 : decide (d ≤ (L : Int)) = true) (g5 : decide (0 ≤ h) = true) (g6 : decide (h ≤ 23) = true) (g7 : decide (0 ≤ i) = true) (g8 : decide (i ≤ 59) = true) (g9 : decide (0 ≤ s) = true) (g10 : decide (s ≤ 59) = true) (w : World) : Calls Tryz.prog 133 #[.agg #[.int .i64 y, .int .i64 (m : Nat), .int .i64 d, .int .i64 h, .int .i64 i, .int .i64 s, .int .i64 0]] w fun e w' => e = .returned (.bool true) ∧ Below w.heap.size w w' := by
  have C := Lib.hid C; have hX := Blk.new w 165 #[.int .i64 y, .int .i64 (m : Nat), .int .i64 d, .int .i64 h, .int .i64 i, .int .i64 s, .int .i64 0]; have hb0 : Below w.heap.size w (w.alloc (.cells #[.int .i64 y, .int .i64 (m : Nat), .int .i64 d, .int .i64 h, .int .i64 i, .int .i64 s, .int .i64 0] 165)) := (Below.refl _ _).alloc (Nat.le_refl _) _; go_enter Tryz.func133, Tryz.ntmps133
  go_wp2_with fail; generalize w.alloc (.cells #[.int .i64 y, .int .i64 (m : Nat), .int .i64 d, .int .i64 h, .int .i64 i, .int .i64 s, .int .i64 0] 165) = w0 at *; obtain ⟨k0, k1, k2, k3, k4, k5, k6⟩ := hX.c7; go_quiet ((go_at_call 155; exact Calls.quiet_of_same (C.out _ _)))
  go_wp2; go_ret; exact ⟨rfl, below_drewN hb0 _⟩
theorem right_any (g : Gs) (hm : g.month ≤ 12) (w : World) : Calls Tryz.prog 133 #[.agg #[.int .i64 g.year, .int .i64 (g.month : Nat), .int .i64 g.day, .int .i64 g.hour, .int .i64 g.min, .int .i64 g.sec, .int .i64 0]] w fun e w' => e = .returned (.bool (rightG g)) ∧ Below w.heap.size w w' := by
  obtain ⟨y, m, d, h, i, s⟩ := g; simp only at hm ⊢; have no : (¬ (1970 ≤ y ∧ y ≤ 9999 ∧ 1 ≤ m ∧ 1 ≤ d ∧ d ≤ (mLen y.toNat (m - 1) : Nat) ∧ 0 ≤ h ∧ h ≤ 23 ∧ 0 ≤ i ∧ i ≤ 59 ∧ 0 ≤ s ∧ s ≤ 59)) → rightG ⟨y, m, d, h, i, s⟩ = false := fun e => by simp only [rightG, decide_eq_false_iff_not]; exact e
  by_cases e0 : 1970 ≤ y
  case neg =>
    rw [no (by intro e; exact e0 e.1)]; exact right_y1 y m d h i s (by simp; omega) w
  by_cases e1 : y ≤ 9999
  case neg =>
    rw [no (by intro e; exact e1 e.2.1)]; exact right_y2 y m d h i s (by simp; omega) (by simp; omega) w
  by_cases e2 : 1 ≤ m
  case neg =>
    rw [no (by intro e; exact e2 e.2.2.1)]; exact right_m1 y m d h i s (by simp; omega) (by simp; omega) (by simp; omega) w
  by_cases e3 : 1 ≤ d
  case neg =>
    rw [no (by intro e; exact e3 e.2.2.2.1)]; exact right_d1 y m d h i s (by simp; omega) (by simp; omega) (by simp; omega) (by simp; omega) w
  have C : ∀ (w : World) (n : Nat), Calls Tryz.prog 155 #[.int .i64 y, .int .i64 (m : Nat)] (w.drewN n) fun e w' => e = .returned (.int .i64 (mLen y.toNat (m - 1) : Nat)) ∧ w' = w.drewN n := fun w n => by
    have := refDays_any y.toNat (m - 1) (m : Int) (w.drewN n) (by omega) (by omega) (by omega)
    rw [show ((y.toNat : Nat) : Int) = y by omega] at this; exact this.mono fun _ _ ⟨h1, h2⟩ => ⟨h1, h2.symm⟩
  by_cases e4 : d ≤ (mLen y.toNat (m - 1) : Nat)
  case neg =>
    rw [no (by intro e; exact e4 e.2.2.2.2.1)]; exact right_dL y m d h i s (mLen y.toNat (m - 1)) C (by simp; omega) (by simp; omega) (by simp; omega) (by simp; omega) (by simp; omega) w
  by_cases e5 : 0 ≤ h
  case neg =>
    rw [no (by intro e; exact e5 e.2.2.2.2.2.1)]; exact right_h1 y m d h i s (mLen y.toNat (m - 1)) C (by simp; omega) (by simp; omega) (by simp; omega) (by simp; omega) (by simp; omega) (by simp; omega) w
  by_cases e6 : h ≤ 23
  case neg =>
    rw [no (by intro e; exact e6 e.2.2.2.2.2.2.1)]; exact right_h2 y m d h i s (mLen y.toNat (m - 1)) C (by simp; omega) (by simp; omega) (by simp; omega) (by simp; omega) (by simp; omega) (by simp; omega) (by simp; omega) w
  by_cases e7 : 0 ≤ i
  case neg =>
    rw [no (by intro e; exact e7 e.2.2.2.2.2.2.2.1)]; exact right_i1 y m d h i s (mLen y.toNat (m - 1)) C (by simp; omega) (by simp; omega) (by simp; omega) (by simp; omega) (by simp; omega) (by simp; omega) (by simp; omega) (by simp; omega) w
  by_cases e8 : i ≤ 59
  case neg =>
    rw [no (by intro e; exact e8 e.2.2.2.2.2.2.2.2.1)]; exact right_i2 y m d h i s (mLen y.toNat (m - 1)) C (by simp; omega) (by simp; omega) (by simp; omega) (by simp; omega) (by simp; omega) (by simp; omega) (by simp; omega) (by simp; omega) (by simp; omega) w
  by_cases e9 : 0 ≤ s
  case neg =>
    rw [no (by intro e; exact e9 e.2.2.2.2.2.2.2.2.2.1)]; exact right_s1 y m d h i s (mLen y.toNat (m - 1)) C (by simp; omega) (by simp; omega) (by simp; omega) (by simp; omega) (by simp; omega) (by simp; omega) (by simp; omega) (by simp; omega) (by simp; omega) (by simp; omega) w
  by_cases e10 : s ≤ 59
  case neg =>
    rw [no (by intro e; exact e10 e.2.2.2.2.2.2.2.2.2.2)]; exact right_s2 y m d h i s (mLen y.toNat (m - 1)) C (by simp; omega) (by simp; omega) (by simp; omega) (by simp; omega) (by simp; omega) (by simp; omega) (by simp; omega) (by simp; omega) (by simp; omega) (by simp; omega) (by simp; omega) w
  rw [show rightG ⟨y, m, d, h, i, s⟩ = true by simp only [rightG, decide_eq_true_iff]; exact ⟨e0, e1, e2, e3, e4, e5, e6, e7, e8, e9, e10⟩]; exact right_all y m d h i s (mLen y.toNat (m - 1)) C (by simp; omega) (by simp; omega) (by simp; omega) (by simp; omega) (by simp; omega) (by simp; omega) (by simp; omega) (by simp; omega) (by simp; omega) (by simp; omega) (by simp; omega) w
open Go.RowKit Go.Dr
theorem refAt_any (y m n h mi s : Nat) (wk : Int) (w : World) (h1 : 1970 ≤ y) (h2 : y ≤ 9999) (h3 : m < 12) (h4 : 1 ≤ n) (h5 : n ≤ 31) (h6 : h ≤ 23) (h7 : mi ≤ 59) (h8 : s ≤ 59) :
    Calls Tryz.prog 134 #[.agg #[.int .i64 y, .int .i64 ((m : Int) + 1), .int .i64 n, .int .i64 h, .int .i64 mi, .int .i64 s, .int .i64 wk]] w fun e w' => e = .returned (.int .i64 ((dayOf y m n * 86400 + (3600 * h + 60 * mi + s) : Nat) : Int)) ∧ Below w.heap.size w w' := by
  have hB := begY_low y h1; have hA := aheadM_le y m; have HD : Hid (dayOf y m n = begY y + n - 1 + aheadM y m) := rfl; have hdy : dayOf y m n ≤ 10000000 := (by unfold dayOf; omega); generalize dayOf y m n = dd at *; have hX := Blk.new w 165 #[.int .i64 y, .int .i64 ((m : Int) + 1), .int .i64 n, .int .i64 h, .int .i64 mi, .int .i64 s, .int .i64 wk]; have hb0 : Below w.heap.size w (w.alloc (.cells #[.int .i64 y, .int .i64 ((m : Int) + 1), .int .i64 n, .int .i64 h, .int .i64 mi, .int .i64 s, .int .i64 wk] 165)) := (Below.refl _ _).alloc (Nat.le_refl _) _; go_enter Tryz.func134, Tryz.ntmps134
  go_wp2; generalize w.alloc (.cells #[.int .i64 y, .int .i64 ((m : Int) + 1), .int .i64 n, .int .i64 h, .int .i64 mi, .int .i64 s, .int .i64 wk] 165) = w0 at *; obtain ⟨k0, k1, k2, k3, k4, k5, k6⟩ := hX.c7
  go_loopw [3, 4] (fun d j wr => ∃ b k : Nat, d = .int .i64 b ∧ j = .int .i64 k ∧ Hid (b = begY k) ∧ b ≤ 3000000 ∧ 1970 ≤ k ∧ k ≤ y ∧ wr = w0) (fun _ j _ => y - (intOf j).toNat)
  case atStart => exact ⟨0, 1970, rfl, rfl, begY_1970.symm, by omega, Nat.le_refl _, h1, rfl⟩
  case round =>
    obtain ⟨b, k, rfl, rfl, HB, hb, hk, hky, hwe⟩ := hrel; obtain rfl : w0 = wr := hwe.symm; by_cases hlt : k < y
    · have hlp := refLeap_any k w0 (by omega)
      have HS := Lib.hid (begY_step k hk); have hlow := begY_low (k + 1) (by omega)
      cases hl : leapY k with
      | true =>
        rw [hl] at HS hlp; have HN : Hid (b + 366 = begY (k + 1)) := (by show _ = _; have e1 := HS.out; have e2 := HB.out; simp at e1; omega); have hb2 : b + 366 ≤ 3000000 := (by have := HN.out; omega); clear HS hl hlow HB; go_wp2_with fail; refine hlp.mono ?_; rintro e w1 ⟨rfl, rfl⟩; go_wp2
        go_roundw
        case rel => exact ⟨b + 366, k + 1, by go_num, by go_num, HN, hb2, by omega, by omega, trivial⟩
        case measure => simp [intOf]; omega
      | false =>
        rw [hl] at HS hlp; have HN : Hid (b + 365 = begY (k + 1)) := (by show _ = _; have e1 := HS.out; have e2 := HB.out; simp at e1; omega); have hb2 : b + 365 ≤ 3000000 := (by have := HN.out; omega); clear HS hl hlow HB; go_wp2_with fail; refine hlp.mono ?_; rintro e w1 ⟨rfl, rfl⟩; go_wp2
        go_roundw
        case rel => exact ⟨b + 365, k + 1, by go_num, by go_num, HN, hb2, by omega, by omega, trivial⟩
        case measure => simp [intOf]; omega
    · obtain rfl : k = y := by omega
      clear hlt; go_wp2
      go_loopw [3, 5] (fun d j wr => ∃ a i : Nat, d = .int .i64 a ∧ j = .int .i64 ((i : Int) + 1) ∧ Hid (a = b + aheadM k i) ∧ a ≤ 3000372 ∧ i ≤ m ∧ wr = w0) (fun _ j _ => m + 1 - (intOf j).toNat)
      case atStart => exact ⟨b, 0, rfl, rfl, rfl, by omega, Nat.zero_le _, rfl⟩
      case round =>
        obtain ⟨a, i, rfl, rfl, HA, ha, hi, hwe⟩ := hrel; obtain rfl : w0 = wr := hwe.symm; by_cases hlt : i < m
        · have hdc := refDays_any k i ((i : Int) + 1) w0 rfl (by omega) (by omega)
          have HS : Hid (aheadM k (i + 1) = aheadM k i + mLen k i) := rfl; have hle := aheadM_le k (i + 1); have HN : Hid (a + mLen k i = b + aheadM k (i + 1)) := (by show _ = _; have e1 := HS.out; have e2 := HA.out; omega); have hb2 : a + mLen k i ≤ 3000372 := (by have := HN.out; omega); clear HS HA hle; generalize mLen k i = L at *; go_wp2_with fail; refine hdc.mono ?_; rintro e w1 ⟨rfl, rfl⟩; go_wp2
          go_roundw
          case rel => exact ⟨a + L, i + 1, by go_num, by go_num, HN, hb2, by omega, trivial⟩
          case measure => simp [intOf]; omega
        · obtain rfl : i = m := by omega
          have HF : Hid ((a : Int) + (n : Int) - 1 = (dd : Int)) := (by show _ = _; have e1 := HD.out; have e2 := HA.out; have e3 := HB.out; omega); clear HD HA HB hlt; go_wp2; go_ret; exact ⟨ret_int (by have := HF.out; push_cast; omega), hb0⟩
end Go.Proofs.YtahapblgmehngaaGreatDoor
namespace Go.Dr
theorem IsDt.year_of {v : Nat} {x : Dt} (h : IsDt v x) : x.year = yearOf (v / 86400) := by
  obtain ⟨x1, x2, x3, x4, x5, x6, x7, x8, x9⟩ := h; have hd : v / 86400 = x.days := (by rw [x9]; unfold Dt.at; omega); have h1 := aheadM_mono x.year (x.month + 1) (12 - (x.month + 1)); rw [show x.month + 1 + (12 - (x.month + 1)) = 12 by omega, aheadM_12] at h1; have h2 := begY_step x.year x1; have h3 : aheadM x.year (x.month + 1) = aheadM x.year x.month + mLen x.year x.month := rfl; rw [hd]; refine yearOf_eq x.days x.year x1 ?_ ?_
  · unfold Dt.days dayOf; omega
  · unfold Dt.days dayOf; omega
theorem refY_hit (s : Bytes) (y k : Nat) (hk : k < 3) (hj : ∀ j, j < k → (refF s j y).2 = false) (h : (refF s k y).2 = true) : refY s y = ((refF s k y).1, 0) := by
  unfold refY
  match k, hk with
  | 0, _ => rw [if_pos h]
  | 1, _ => rw [if_neg (by rw [hj 0 (by omega)]; simp), if_pos h]
  | 2, _ => rw [if_neg (by rw [hj 0 (by omega)]; simp), if_neg (by rw [hj 1 (by omega)]; simp), if_pos h]
theorem refY_none (s : Bytes) (y : Nat) (hj : ∀ j, j < 3 → (refF s j y).2 = false) : refY s y = (0, 10) := by
  unfold refY; rw [if_neg (by rw [hj 0 (by omega)]; simp), if_neg (by rw [hj 1 (by omega)]; simp), if_neg (by rw [hj 2 (by omega)]; simp)]
theorem not_yet {P : Nat → Prop} {k : Nat} (h : ∀ j, j < k → P j) (hk : P k) : ∀ j, j < k + 1 → P j := fun j hj => by
  by_cases e : j = k
  · subst e; exact hk
  · exact h j (by omega)
theorem refF_no {s : Bytes} {k y : Nat} (h : rightG (guessF s k y) = false) : (refF s k y).2 = false := by unfold refF; rw [if_neg (by rw [h]; simp)]
theorem refF_yes {s : Bytes} {k y : Nat} (h : rightG (guessF s k y) = true) (b : Bool) (hb : ((guessF s k y).dt.text k == s) = b) : refF s k y = ((guessF s k y).dt.at, b) := by
  unfold refF; rw [if_pos h]
  congr 1
  rw [← hb, Bool.eq_iff_iff]; simp
end Go.Dr
namespace Go.Proofs.YtahapblgmehngaaGreatDoor
open Go.RowKit Go.Dr
theorem run_year (y : Int) (a1 a2 a3 a4 a5 a6 : Value) (w : World) : (Instr.field 165 (.agg #[.int .i64 y, a1, a2, a3, a4, a5, a6]) 0).run Tryz.prog w = .ok (.int .i64 y) w := by kernel_rfl
theorem texts_any (x : Dt) (hx : x.Right) (w : World) : Calls Tryz.prog 135 #[x.val] w (RetSs 9 w [x.text 0, x.text 1, x.text 2]) := by
  obtain ⟨s1, s2, s3, s4, s5, s6, s7⟩ := hx.small
  have hl : (longF x.week).take 3 = dayF x.week := by
    match hw : x.week, s7 with
    | 0, _ | 1, _ | 2, _ | 3, _ | 4, _ | 5, _ | 6, _ => rfl
  refine texts_raw x.year x.month x.day x.hour x.min x.sec x.week (by have := hx.1; omega) s1 s2 s3 s4 s5 s6 s7 _ rfl _ rfl _ _ _ ?_ ?_ ?_ w
  · rw [padF_2 _ s3, padF_2 _ s4, padF_2 _ s5, padF_2 _ s6, padF_4 _ (by have := hx.1; omega) s1]
    simp only [Dt.text, Dt.clockT, commaT, gmtT, List.append_assoc, hl]
  · rw [padF_2 _ s3, padF_2 _ s4, padF_2 _ s5, padF_2 _ s6, padF_2 (x.year % 100) (by omega)]
    simp only [Dt.text, Dt.clockT, commaT, gmtT, List.append_assoc]
  · rw [padF_2 _ s3, padF_2 _ s4, padF_2 _ s5, padF_2 _ s6, padF_4 _ (by have := hx.1; omega) s1]
    have e : (if x.day < 10 then [32] ++ (pad2 x.day).drop 1 else pad2 x.day) = lowDay x.day := (by unfold lowDay pad2; split <;> rfl); rw [e]; simp only [Dt.text, Dt.clockT, List.append_assoc, hl]
theorem refAt_g (g : Gs) (h : rightG g = true) (hm : g.month ≤ 12) (w : World) : Calls Tryz.prog 134 #[.agg #[.int .i64 g.year, .int .i64 (g.month : Nat), .int .i64 g.day, .int .i64 g.hour, .int .i64 g.min, .int .i64 g.sec, .int .i64 0]] w fun e w' => e = .returned (.int .i64 (g.dt.at : Nat)) ∧ Below w.heap.size w w' := by
  obtain ⟨hR, hg⟩ := rightG_dt h hm; generalize g.dt = d at *; subst hg; obtain ⟨r1, r2, r3, r4, r5, r6, r7, r8, r9⟩ := hR; have := mLen_le d.year d.month
  have e := refAt_any d.year d.month d.day d.hour d.min d.sec 0 w r1 r2 r3 r4 (by omega) r6 r7 r8; have hm1 : ((d.gs.month : Nat) : Int) = (d.month : Int) + 1 := (by show (((d.month + 1 : Nat)) : Int) = _; omega); rw [hm1]; exact e
theorem refOf_year (c : Nat) (hc : c ≤ 253402300799) (y : Nat) (hy : yearOf (c / 86400) = y) (w : World) : Calls Tryz.prog 132 #[.int .i64 c] w fun e w' => ∃ x : Dt, x.year = y ∧ e = .returned x.val ∧ Below w.heap.size w w' :=
  (refOf_any c w (by omega)).mono fun _ _ ⟨x, h1, h2, h3⟩ => ⟨x, by rw [← hy]; exact h1.year_of, h2, h3⟩
theorem refOf_dt (d : Dt) (hd : d.Right) (w : World) : Calls Tryz.prog 132 #[.int .i64 (d.at : Nat)] w fun e w' => e = .returned d.val ∧ Below w.heap.size w w' := by
  have hb : d.at ≤ 900000000000 := by
    have := dayOf_le d.year d.month d.day hd.1 (by have := hd.2.1; omega) hd.2.2.1 (by have := hd.2.2.2.2.1; have := mLen_le d.year d.month; omega)
    obtain ⟨r1, r2, r3, r4, r5, r6, r7, r8, r9⟩ := hd; unfold Dt.at Dt.days; omega
  refine (refOf_any d.at w hb).mono ?_; rintro e w' ⟨x, h1, rfl, h3⟩; exact ⟨by rw [IsDt.unique h1 hd.is], h3⟩
theorem refParse_any (s : Bytes) (now : Int) (w : World) (hs : s.length ≤ 1099511627776) : Calls Tryz.prog 112 #[S s, .int .i64 now] w fun e w' => e = .returned (.tuple #[.int .i64 ((parseF s now).1 : Nat), .int .i64 ((parseF s now).2 : Nat)]) ∧ Below w.heap.size w w' := by
  have hy := yearOf_clamp now; have hc := clampD_le now; have HP : Hid (parseF s now = refY s (yearOf (clampD now / 86400))) := Lib.hid (by rw [refY_eq _ _ hy.1 hy.2]; rfl); have hcl : (now < 0 ∧ clampD now = 0) ∨ (253402300799 < now ∧ clampD now = 253402300799) ∨ (0 ≤ now ∧ now ≤ 253402300799 ∧ now = (clampD now : Nat)) := (by unfold clampD; omega); have O := fun w => refOf_year (clampD now) hc _ rfl w
  generalize yearOf (clampD now / 86400) = y at *; generalize clampD now = c at *; generalize parseF s now = r at *
  rcases hcl with ⟨h0, rfl⟩ | ⟨h0, rfl⟩ | ⟨h0, h1, rfl⟩
  case' inl =>
    have O : Hid (∀ w, Calls Tryz.prog 132 #[.int .i64 0] w fun e w' => ∃ x : Dt, x.year = y ∧ e = .returned x.val ∧ Below w.heap.size w w') := O
  case' inr.inl =>
    have h1 : ¬ now < 0 := (by omega); have O : Hid (∀ w, Calls Tryz.prog 132 #[.int .i64 253402300799] w fun e w' => ∃ x : Dt, x.year = y ∧ e = .returned x.val ∧ Below w.heap.size w w') := O
  case' inr.inr =>
    have O := Lib.hid O
  all_goals
    go_enter Tryz.func112, Tryz.ntmps112
    go_wp2_with fail
    go_loopw [6] (fun i wr => ∃ k : Nat, i = .int .i64 k ∧ k ≤ 3 ∧ (∀ j, j < k → (refF s j y).2 = false) ∧ Below w.heap.size w wr) (fun i _ => 3 - (intOf i).toNat)
    case atStart => exact ⟨0, rfl, by omega, fun j hj => by omega, Below.refl _ _⟩
    case round =>
      obtain ⟨k, rfl, hk, hj, hbel⟩ := hrel; have HJ := Lib.hid hj; clear hj; by_cases hlt : k < 3
      · obtain ⟨wo, rfl⟩ : ∃ wo : World, wo = wr := ⟨_, rfl⟩
        go_wp2_with fail; refine (O.out _).mono ?_; rintro e w1 ⟨x, hx, rfl, hb1⟩; obtain ⟨yy, mo, dd, hh, mi, ss, wk⟩ := x; obtain rfl : y = yy := hx.symm; simp only [Dt.val]; have hw1 := Bl.on hbel hbel.size hb1; have hfd : ∀ w' : World, (Instr.field 165 (.agg #[.int .i64 (y : Int), .int .i64 ((mo : Int) + 1), .int .i64 dd, .int .i64 hh, .int .i64 mi, .int .i64 ss, .int .i64 wk]) 0).run Tryz.prog w' = .ok (.int .i64 (y : Int)) w' := fun w' => run_year _ _ _ _ _ _ _ w'
        go_wp2_with fail; clear hfd; refine (guess_any s k y hlt _ hs (by omega)).mono ?_; rintro e w2 ⟨rfl, hb2⟩; have hw2 := Bl.tr hw1 hb2; have hgm := guess_month s k y; have HN := Lib.hid (fun h => refF_no (s := s) (k := k) (y := y) h); have HY := Lib.hid (fun h b hb => refF_yes (s := s) (k := k) (y := y) h b hb); generalize guessF s k y = g at *; have hX := Blk.new w2 165 #[.int .i64 g.year, .int .i64 (g.month : Nat), .int .i64 g.day, .int .i64 g.hour, .int .i64 g.min, .int .i64 g.sec, .int .i64 0]; have hw3 := hw2.alloc hw2.size (.cells #[.int .i64 g.year, .int .i64 (g.month : Nat), .int .i64 g.day, .int .i64 g.hour, .int .i64 g.min, .int .i64 g.sec, .int .i64 0] 165); go_wp2_with fail; generalize w2.alloc (.cells #[.int .i64 g.year, .int .i64 (g.month : Nat), .int .i64 g.day, .int .i64 g.hour, .int .i64 g.min, .int .i64 g.sec, .int .i64 0] 165) = w3 at *; refine (right_any g hgm _).mono ?_; rintro e w4 ⟨rfl, hb4⟩; have hw4 := Bl.tr hw3 hb4; have hX4 := hX.on hb4; clear hw1 hw2 hw3 hX hb1 hb2 hb4
        cases hr : rightG g with
        | false =>
          have HN := Lib.hid (HN.out hr); clear hr; go_wp2
          go_roundw
          case rel => exact ⟨k + 1, by go_num, by omega, not_yet HJ.out HN.out, hw4⟩
          case measure => simp [intOf]; omega
        | true =>
          have HA := Lib.hid (fun w => refAt_g g hr hgm w); have HD := Lib.hid (rightG_dt hr hgm).1; have HY := Lib.hid (HY.out hr); clear hr HN; obtain ⟨x0, x1, x2, x3, x4, x5, x6⟩ := hX4.c7; go_wp2_with fail; refine (HA.out _).mono ?_; rintro e w5 ⟨rfl, hb5⟩; have hw5 := Bl.tr hw4 hb5; generalize g.dt = d at *; clear x0 x1 x2 x3 x4 x5 x6 hX4 hw4 hb5 HA; go_wp2_with fail; refine (refOf_dt d HD.out _).mono ?_; rintro e w6 ⟨rfl, hb6⟩; have hw6 := Bl.tr hw5 hb6; go_wp2_with fail; refine (texts_any d HD.out _).mono ?_; rintro e w7 ⟨v7, rfl, ho7, hb7⟩; have hw7 := Bl.tr hw6 hb7; have r7 : Ss w7.heap.size w7 v7 [d.text 0, d.text 1, d.text 2] := Ss.own ho7; obtain ⟨p7, c7, rfl, -⟩ := r7.form
          have hgt : [d.text 0, d.text 1, d.text 2][k]? = some (d.text k) := by
            match k, hlt with
            | 0, _ => rfl
            | 1, _ => rfl
            | 2, _ => rfl
          obtain ⟨b7, o7, rfl, hl7, t7⟩ := r7.get k _ hgt; have hlk : k < [d.text 0, d.text 1, d.text 2].length := hlt; clear hw5 hw6 hb6 hb7 ho7 r7 hgt; generalize [d.text 0, d.text 1, d.text 2].length = n3 at *; generalize hT : d.text k = T at *
          cases hq : (T == s) with
          | true =>
            have HR := Lib.hid (refY_hit s y k hlt HJ.out (by rw [HY.out true hq])); have HV := Lib.hid (HY.out true hq); clear hT; go_wp2; go_ret2; exact ⟨by rw [HP.out, HR.out, HV.out]; rfl, hw7⟩
          | false =>
            have HV := Lib.hid (HY.out false hq); clear hT; go_wp2
            go_roundw
            case rel => exact ⟨k + 1, by go_num, by omega, not_yet HJ.out (by rw [HV.out]), hw7⟩
            case measure => simp [intOf]; omega
      · have HR := Lib.hid (refY_none s y (fun j hj => HJ.out j (by omega)))
        go_wp2; go_ret2; exact ⟨by rw [HP.out, HR.out]; rfl, hbel⟩
end Go.Proofs.YtahapblgmehngaaGreatDoor

