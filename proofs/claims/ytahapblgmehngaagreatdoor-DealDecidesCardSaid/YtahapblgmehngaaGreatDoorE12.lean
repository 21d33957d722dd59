/- Parts of the proof of DealDecides_holds: the texts Rdt4 Rdt2 Rdt9 Rf18 RfP. -/
import Derived.Test.YtahapblgmehngaaGreatDoorE11
set_option linter.unusedSimpArgs false
set_option linter.unusedVariables false
set_option linter.unnecessarySimpa false
set_option maxRecDepth 100000
set_option maxHeartbeats 64000000
namespace Go.Proofs.YtahapblgmehngaaGreatDoor
open Go.RowKit Go.Dr
theorem right_y1 (y : Int) (m : Nat) (d h i s : Int) (g0 : decide (1970 ≤ y) = false) (w : World) : Calls Tryz.prog 133 #[.agg #[.int .i64 y, .int .i64 (m : Nat), .int .i64 d, .int .i64 h, .int .i64 i, .int .i64 s, .int .i64 0]] w fun e w' => e = .returned (.bool false) ∧ Below w.heap.size w w' := by
 have hX := Blk.new w 165 #[.int .i64 y, .int .i64 (m : Nat), .int .i64 d, .int .i64 h, .int .i64 i, .int .i64 s, .int .i64 0];have hb0 : Below w.heap.size w (w.alloc (.cells #[.int .i64 y, .int .i64 (m : Nat), .int .i64 d, .int .i64 h, .int .i64 i, .int .i64 s, .int .i64 0] 165)) := (Below.refl _ _).alloc (Nat.le_refl _) _;go_enter Tryz.func133, Tryz.ntmps133
 go_wp2_with fail;generalize w.alloc (.cells #[.int .i64 y, .int .i64 (m : Nat), .int .i64 d, .int .i64 h, .int .i64 i, .int .i64 s, .int .i64 0] 165) = w0 at *;obtain ⟨k0, k1, k2, k3, k4, k5, k6⟩ := hX.c7;go_quiet (fail)
 go_wp2;go_ret;exact ⟨rfl, below_drewN hb0 _⟩
theorem right_y2 (y : Int) (m : Nat) (d h i s : Int) (g0 : decide (1970 ≤ y) = true) (g1 : decide (y ≤ 9999) = false) (w : World) : Calls Tryz.prog 133 #[.agg #[.int .i64 y, .int .i64 (m : Nat), .int .i64 d, .int .i64 h, .int .i64 i, .int .i64 s, .int .i64 0]] w fun e w' => e = .returned (.bool false) ∧ Below w.heap.size w w' := by
 have hX := Blk.new w 165 #[.int .i64 y, .int .i64 (m : Nat), .int .i64 d, .int .i64 h, .int .i64 i, .int .i64 s, .int .i64 0];have hb0 : Below w.heap.size w (w.alloc (.cells #[.int .i64 y, .int .i64 (m : Nat), .int .i64 d, .int .i64 h, .int .i64 i, .int .i64 s, .int .i64 0] 165)) := (Below.refl _ _).alloc (Nat.le_refl _) _;go_enter Tryz.func133, Tryz.ntmps133
 go_wp2_with fail;generalize w.alloc (.cells #[.int .i64 y, .int .i64 (m : Nat), .int .i64 d, .int .i64 h, .int .i64 i, .int .i64 s, .int .i64 0] 165) = w0 at *;obtain ⟨k0, k1, k2, k3, k4, k5, k6⟩ := hX.c7;go_quiet (fail)
 go_wp2;go_ret;exact ⟨rfl, below_drewN hb0 _⟩
theorem right_m1 (y : Int) (m : Nat) (d h i s : Int) (g0 : decide (1970 ≤ y) = true) (g1 : decide (y ≤ 9999) = true) (g2 : decide (1 ≤ (m : Int)) = false) (w : World) : Calls Tryz.prog 133 #[.agg #[.int .i64 y, .int .i64 (m : Nat), .int .i64 d, .int .i64 h, .int .i64 i, .int .i64 s, .int .i64 0]] w fun e w' => e = .returned (.bool false) ∧ Below w.heap.size w w' := by
 have hX := Blk.new w 165 #[.int .i64 y, .int .i64 (m : Nat), .int .i64 d, .int .i64 h, .int .i64 i, .int .i64 s, .int .i64 0];have hb0 : Below w.heap.size w (w.alloc (.cells #[.int .i64 y, .int .i64 (m : Nat), .int .i64 d, .int .i64 h, .int .i64 i, .int .i64 s, .int .i64 0] 165)) := (Below.refl _ _).alloc (Nat.le_refl _) _;go_enter Tryz.func133, Tryz.ntmps133
 go_wp2_with fail;generalize w.alloc (.cells #[.int .i64 y, .int .i64 (m : Nat), .int .i64 d, .int .i64 h, .int .i64 i, .int .i64 s, .int .i64 0] 165) = w0 at *;obtain ⟨k0, k1, k2, k3, k4, k5, k6⟩ := hX.c7;go_quiet (fail)
 go_wp2;go_ret;exact ⟨rfl, below_drewN hb0 _⟩
theorem right_d1 (y : Int) (m : Nat) (d h i s : Int) (g0 : decide (1970 ≤ y) = true) (g1 : decide (y ≤ 9999) = true) (g2 : decide (1 ≤ (m : Int)) = true) (g3 : decide (1 ≤ d) = false) (w : World) : Calls Tryz.prog 133 #[.agg #[.int .i64 y, .int .i64 (m : Nat), .int .i64 d, .int .i64 h, .int .i64 i, .int .i64 s, .int .i64 0]] w fun e w' => e = .returned (.bool false) ∧ Below w.heap.size w w' := by
 have hX := Blk.new w 165 #[.int .i64 y, .int .i64 (m : Nat), .int .i64 d, .int .i64 h, .int .i64 i, .int .i64 s, .int .i64 0];have hb0 : Below w.heap.size w (w.alloc (.cells #[.int .i64 y, .int .i64 (m : Nat), .int .i64 d, .int .i64 h, .int .i64 i, .int .i64 s, .int .i64 0] 165)) := (Below.refl _ _).alloc (Nat.le_refl _) _;go_enter Tryz.func133, Tryz.ntmps133
 go_wp2_with fail;generalize w.alloc (.cells #[.int .i64 y, .int .i64 (m : Nat), .int .i64 d, .int .i64 h, .int .i64 i, .int .i64 s, .int .i64 0] 165) = w0 at *;obtain ⟨k0, k1, k2, k3, k4, k5, k6⟩ := hX.c7;go_quiet (fail)
 go_wp2;go_ret;exact ⟨rfl, below_drewN hb0 _⟩
theorem right_dL (y : Int) (m : Nat) (d h i s : Int) (L : Nat) (C : ∀ (w : World) (n : Nat), Calls Tryz.prog 155 #[.int .i64 y, .int .i64 (m : Nat)] (w.drewN n) fun e w' => e = .returned (.int .i64 (L : Nat)) ∧ w' = w.drewN n) (g0 : decide (1970 ≤ y) = true) (g1 : decide (y ≤ 9999) = true) (g2 : decide (1 ≤ (m : Int)) = true) (g3 : decide (1 ≤ d) = true) (g4 : decide (d ≤ (L : Int)) = false) (w : World) : Calls Tryz.prog 133 #[.agg #[.int .i64 y, .int .i64 (m : Nat), .int .i64 d, .int .i64 h, .int .i64 i, .int .i64 s, .int .i64 0]] w fun e w' => e = .returned (.bool false) ∧ Below w.heap.size w w' := by
 have C := Lib.hid C;have hX := Blk.new w 165 #[.int .i64 y, .int .i64 (m : Nat), .int .i64 d, .int .i64 h, .int .i64 i, .int .i64 s, .int .i64 0];have hb0 : Below w.heap.size w (w.alloc (.cells #[.int .i64 y, .int .i64 (m : Nat), .int .i64 d, .int .i64 h, .int .i64 i, .int .i64 s, .int .i64 0] 165)) := (Below.refl _ _).alloc (Nat.le_refl _) _;go_enter Tryz.func133, Tryz.ntmps133
 go_wp2_with fail;generalize w.alloc (.cells #[.int .i64 y, .int .i64 (m : Nat), .int .i64 d, .int .i64 h, .int .i64 i, .int .i64 s, .int .i64 0] 165) = w0 at *;obtain ⟨k0, k1, k2, k3, k4, k5, k6⟩ := hX.c7;go_quiet ((go_at_call 155;exact Calls.quiet_of_same (C.out _ _)))
 go_wp2;go_ret;exact ⟨rfl, below_drewN hb0 _⟩
theorem right_h1 (y : Int) (m : Nat) (d h i s : Int) (L : Nat) (C : ∀ (w : World) (n : Nat), Calls Tryz.prog 155 #[.int .i64 y, .int .i64 (m : Nat)] (w.drewN n) fun e w' => e = .returned (.int .i64 (L : Nat)) ∧ w' = w.drewN n) (g0 : decide (1970 ≤ y) = true) (g1 : decide (y ≤ 9999) = true) (g2 : decide (1 ≤ (m : Int)) = true) (g3 : decide (1 ≤ d) = true) (g4 : decide (d ≤ (L : Int)) = true) (g5 : decide (0 ≤ h) = false) (w : World) : Calls Tryz.prog 133 #[.agg #[.int .i64 y, .int .i64 (m : Nat), .int .i64 d, .int .i64 h, .int .i64 i, .int .i64 s, .int .i64 0]] w fun e w' => e = .returned (.bool false) ∧ Below w.heap.size w w' := by
 have C := Lib.hid C;have hX := Blk.new w 165 #[.int .i64 y, .int .i64 (m : Nat), .int .i64 d, .int .i64 h, .int .i64 i, .int .i64 s, .int .i64 0];have hb0 : Below w.heap.size w (w.alloc (.cells #[.int .i64 y, .int .i64 (m : Nat), .int .i64 d, .int .i64 h, .int .i64 i, .int .i64 s, .int .i64 0] 165)) := (Below.refl _ _).alloc (Nat.le_refl _) _;go_enter Tryz.func133, Tryz.ntmps133
 go_wp2_with fail;generalize w.alloc (.cells #[.int .i64 y, .int .i64 (m : Nat), .int .i64 d, .int .i64 h, .int .i64 i, .int .i64 s, .int .i64 0] 165) = w0 at *;obtain ⟨k0, k1, k2, k3, k4, k5, k6⟩ := hX.c7;go_quiet ((go_at_call 155;exact Calls.quiet_of_same (C.out _ _)))
 go_wp2;go_ret;exact ⟨rfl, below_drewN hb0 _⟩
theorem right_h2 (y : Int) (m : Nat) (d h i s : Int) (L : Nat) (C : ∀ (w : World) (n : Nat), Calls Tryz.prog 155 #[.int .i64 y, .int .i64 (m : Nat)] (w.drewN n) fun e w' => e = .returned (.int .i64 (L : Nat)) ∧ w' = w.drewN n) (g0 : decide (1970 ≤ y) = true) (g1 : decide (y ≤ 9999) = true) (g2 : decide (1 ≤ (m : Int)) = true) (g3 : decide (1 ≤ d) = true) (g4 : decide (d ≤ (L : Int)) = true) (g5 : decide (0 ≤ h) = true) (g6 : decide (h ≤ 23) = false) (w : World) : Calls Tryz.prog 133 #[.agg #[.int .i64 y, .int .i64 (m : Nat), .int .i64 d, .int .i64 h, .int .i64 i, .int .i64 s, .int .i64 0]] w fun e w' => e = .returned (.bool false) ∧ Below w.heap.size w w' := by
 have C := Lib.hid C;have hX := Blk.new w 165 #[.int .i64 y, .int .i64 (m : Nat), .int .i64 d, .int .i64 h, .int .i64 i, .int .i64 s, .int .i64 0];have hb0 : Below w.heap.size w (w.alloc (.cells #[.int .i64 y, .int .i64 (m : Nat), .int .i64 d, .int .i64 h, .int .i64 i, .int .i64 s, .int .i64 0] 165)) := (Below.refl _ _).alloc (Nat.le_refl _) _;go_enter Tryz.func133, Tryz.ntmps133
 go_wp2_with fail;generalize w.alloc (.cells #[.int .i64 y, .int .i64 (m : Nat), .int .i64 d, .int .i64 h, .int .i64 i, .int .i64 s, .int .i64 0] 165) = w0 at *;obtain ⟨k0, k1, k2, k3, k4, k5, k6⟩ := hX.c7;go_quiet ((go_at_call 155;exact Calls.quiet_of_same (C.out _ _)))
 go_wp2;go_ret;exact ⟨rfl, below_drewN hb0 _⟩
theorem right_i1 (y : Int) (m : Nat) (d h i s : Int) (L : Nat) (C : ∀ (w : World) (n : Nat), Calls Tryz.prog 155 #[.int .i64 y, .int .i64 (m : Nat)] (w.drewN n) fun e w' => e = .returned (.int .i64 (L : Nat)) ∧ w' = w.drewN n) (g0 : decide (1970 ≤ y) = true) (g1 : decide (y ≤ 9999) = true) (g2 : decide (1 ≤ (m : Int)) = true) (g3 : decide (1 ≤ d) = true) (g4 : decide (d ≤ (L : Int)) = true) (g5 : decide (0 ≤ h) = true) (g6 : decide (h ≤ 23) = true) (g7 : decide (0 ≤ i) = false) (w : World) : Calls Tryz.prog 133 #[.agg #[.int .i64 y, .int .i64 (m : Nat), .int .i64 d, .int .i64 h, .int .i64 i, .int .i64 s, .int .i64 0]] w fun e w' => e = .returned (.bool false) ∧ Below w.heap.size w w' := by
 have C := Lib.hid C;have hX := Blk.new w 165 #[.int .i64 y, .int .i64 (m : Nat), .int .i64 d, .int .i64 h, .int .i64 i, .int .i64 s, .int .i64 0];have hb0 : Below w.heap.size w (w.alloc (.cells #[.int .i64 y, .int .i64 (m : Nat), .int .i64 d, .int .i64 h, .int .i64 i, .int .i64 s, .int .i64 0] 165)) := (Below.refl _ _).alloc (Nat.le_refl _) _;go_enter Tryz.func133, Tryz.ntmps133
 go_wp2_with fail;generalize w.alloc (.cells #[.int .i64 y, .int .i64 (m : Nat), .int .i64 d, .int .i64 h, .int .i64 i, .int .i64 s, .int .i64 0] 165) = w0 at *;obtain ⟨k0, k1, k2, k3, k4, k5, k6⟩ := hX.c7;go_quiet ((go_at_call 155;exact Calls.quiet_of_same (C.out _ _)))
 go_wp2;go_ret;exact ⟨rfl, below_drewN hb0 _⟩
theorem right_i2 (y : Int) (m : Nat) (d h i s : Int) (L : Nat) (C : ∀ (w : World) (n : Nat), Calls Tryz.prog 155 #[.int .i64 y, .int .i64 (m : Nat)] (w.drewN n) fun e w' => e = .returned (.int .i64 (L : Nat)) ∧ w' = w.drewN n) (g0 : decide (1970 ≤ y) = true) (g1 : decide (y ≤ 9999) = true) (g2 : decide (1 ≤ (m : Int)) = true) (g3 : decide (1 ≤ d) = true) (g4 : decide (d ≤ (L : Int)) = true) (g5 : decide (0 ≤ h) = true) (g6 : decide (h ≤ 23) = true) (g7 : decide (0 ≤ i) = true) (g8 : decide (i ≤ 59) = false) (w : World) : Calls Tryz.prog 133 #[.agg #[.int .i64 y, .int .i64 (m : Nat), .int .i64 d, .int .i64 h, .int .i64 i, .int .i64 s, .int .i64 0]] w fun e w' => e = .returned (.bool false) ∧ Below w.heap.size w w' := by
 have C := Lib.hid C;have hX := Blk.new w 165 #[.int .i64 y, .int .i64 (m : Nat), .int .i64 d, .int .i64 h, .int .i64 i, .int .i64 s, .int .i64 0];have hb0 : Below w.heap.size w (w.alloc (.cells #[.int .i64 y, .int .i64 (m : Nat), .int .i64 d, .int .i64 h, .int .i64 i, .int .i64 s, .int .i64 0] 165)) := (Below.refl _ _).alloc (Nat.le_refl _) _;go_enter Tryz.func133, Tryz.ntmps133
 go_wp2_with fail;generalize w.alloc (.cells #[.int .i64 y, .int .i64 (m : Nat), .int .i64 d, .int .i64 h, .int .i64 i, .int .i64 s, .int .i64 0] 165) = w0 at *;obtain ⟨k0, k1, k2, k3, k4, k5, k6⟩ := hX.c7;go_quiet ((go_at_call 155;exact Calls.quiet_of_same (C.out _ _)))
 go_wp2;go_ret;exact ⟨rfl, below_drewN hb0 _⟩
theorem right_s1 (y : Int) (m : Nat) (d h i s : Int) (L : Nat) (C : ∀ (w : World) (n : Nat), Calls Tryz.prog 155 #[.int .i64 y, .int .i64 (m : Nat)] (w.drewN n) fun e w' => e = .returned (.int .i64 (L : Nat)) ∧ w' = w.drewN n) (g0 : decide (1970 ≤ y) = true) (g1 : decide (y ≤ 9999) = true) (g2 : decide (1 ≤ (m : Int)) = true) (g3 : decide (1 ≤ d) = true) (g4 : decide (d ≤ (L : Int)) = true) (g5 : decide (0 ≤ h) = true) (g6 : decide (h ≤ 23) = true) (g7 : decide (0 ≤ i) = true) (g8 : decide (i ≤ 59) = true) (g9 : decide (0 ≤ s) = false) (w : World) : Calls Tryz.prog 133 #[.agg #[.int .i64 y, .int .i64 (m : Nat), .int .i64 d, .int .i64 h, .int .i64 i, .int .i64 s, .int .i64 0]] w fun e w' => e = .returned (.bool false) ∧ Below w.heap.size w w' := by
 have C := Lib.hid C;have hX := Blk.new w 165 #[.int .i64 y, .int .i64 (m : Nat), .int .i64 d, .int .i64 h, .int .i64 i, .int .i64 s, .int .i64 0];have hb0 : Below w.heap.size w (w.alloc (.cells #[.int .i64 y, .int .i64 (m : Nat), .int .i64 d, .int .i64 h, .int .i64 i, .int .i64 s, .int .i64 0] 165)) := (Below.refl _ _).alloc (Nat.le_refl _) _;go_enter Tryz.func133, Tryz.ntmps133
 go_wp2_with fail;generalize w.alloc (.cells #[.int .i64 y, .int .i64 (m : Nat), .int .i64 d, .int .i64 h, .int .i64 i, .int .i64 s, .int .i64 0] 165) = w0 at *;obtain ⟨k0, k1, k2, k3, k4, k5, k6⟩ := hX.c7;go_quiet ((go_at_call 155;exact Calls.quiet_of_same (C.out _ _)))
 go_wp2;go_ret;exact ⟨rfl, below_drewN hb0 _⟩
theorem right_s2 (y : Int) (m : Nat) (d h i s : Int) (L : Nat) (C : ∀ (w : World) (n : Nat), Calls Tryz.prog 155 #[.int .i64 y, .int .i64 (m : Nat)] (w.drewN n) fun e w' => e = .returned (.int .i64 (L : Nat)) ∧ w' = w.drewN n) (g0 : decide (1970 ≤ y) = true) (g1 : decide (y ≤ 9999) = true) (g2 : decide (1 ≤ (m : Int)) = true) (g3 : decide (1 ≤ d) = true) (g4 : decide (d ≤ (L : Int)) = true) (g5 : decide (0 ≤ h) = true) (g6 : decide (h ≤ 23) = true) (g7 : decide (0 ≤ i) = true) (g8 : decide (i ≤ 59) = true) (g9 : decide (0 ≤ s) = true) (g10 : decide (s ≤ 59) = false) (w : World) : Calls Tryz.prog 133 #[.agg #[.int .i64 y, .int .i64 (m : Nat), .int .i64 d, .int .i64 h, .int .i64 i, .int .i64 s, .int .i64 0]] w fun e w' => e = .returned (.bool false) ∧ Below w.heap.size w w' := by
 have C := Lib.hid C;have hX := Blk.new w 165 #[.int .i64 y, .int .i64 (m : Nat), .int .i64 d, .int .i64 h, .int .i64 i, .int .i64 s, .int .i64 0];have hb0 : Below w.heap.size w (w.alloc (.cells #[.int .i64 y, .int .i64 (m : Nat), .int .i64 d, .int .i64 h, .int .i64 i, .int .i64 s, .int .i64 0] 165)) := (Below.refl _ _).alloc (Nat.le_refl _) _;go_enter Tryz.func133, Tryz.ntmps133
 go_wp2_with fail;generalize w.alloc (.cells #[.int .i64 y, .int .i64 (m : Nat), .int .i64 d, .int .i64 h, .int .i64 i, .int .i64 s, .int .i64 0] 165) = w0 at *;obtain ⟨k0, k1, k2, k3, k4, k5, k6⟩ := hX.c7;go_quiet ((go_at_call 155;exact Calls.quiet_of_same (C.out _ _)))
 go_wp2;go_ret;exact ⟨rfl, below_drewN hb0 _⟩
theorem right_all (y : Int) (m : Nat) (d h i s : Int) (L : Nat) (C : ∀ (w : World) (n : Nat), Calls Tryz.prog 155 #[.int .i64 y, .int .i64 (m : Nat)] (w.drewN n) fun e w' => e = .returned (.int .i64 (L : Nat)) ∧ w' = w.drewN n) (g0 : decide (1970 ≤ y) = true) (g1 : decide (y ≤ 9999) = true) (g2 : decide (1 ≤ (m : Int)) = true) (g3 : decide (1 ≤ d) = true) (g4 : decide (d ≤ (L : Int)) = true) (g5 : decide (0 ≤ h) = true) (g6 : decide (h ≤ 23) = true) (g7 : decide (0 ≤ i) = true) (g8 : decide (i ≤ 59) = true) (g9 : decide (0 ≤ s) = true) (g10 : decide (s ≤ 59) = true) (w : World) : Calls Tryz.prog 133 #[.agg #[.int .i64 y, .int .i64 (m : Nat), .int .i64 d, .int .i64 h, .int .i64 i, .int .i64 s, .int .i64 0]] w fun e w' => e = .returned (.bool true) ∧ Below w.heap.size w w' := by
 have C := Lib.hid C;have hX := Blk.new w 165 #[.int .i64 y, .int .i64 (m : Nat), .int .i64 d, .int .i64 h, .int .i64 i, .int .i64 s, .int .i64 0];have hb0 : Below w.heap.size w (w.alloc (.cells #[.int .i64 y, .int .i64 (m : Nat), .int .i64 d, .int .i64 h, .int .i64 i, .int .i64 s, .int .i64 0] 165)) := (Below.refl _ _).alloc (Nat.le_refl _) _;go_enter Tryz.func133, Tryz.ntmps133
 go_wp2_with fail;generalize w.alloc (.cells #[.int .i64 y, .int .i64 (m : Nat), .int .i64 d, .int .i64 h, .int .i64 i, .int .i64 s, .int .i64 0] 165) = w0 at *;obtain ⟨k0, k1, k2, k3, k4, k5, k6⟩ := hX.c7;go_quiet ((go_at_call 155;exact Calls.quiet_of_same (C.out _ _)))
 go_wp2;go_ret;exact ⟨rfl, below_drewN hb0 _⟩
theorem right_any (g : Gs) (hm : g.month ≤ 12) (w : World) : Calls Tryz.prog 133 #[.agg #[.int .i64 g.year, .int .i64 (g.month : Nat), .int .i64 g.day, .int .i64 g.hour, .int .i64 g.min, .int .i64 g.sec, .int .i64 0]] w fun e w' => e = .returned (.bool (rightG g)) ∧ Below w.heap.size w w' := by
 obtain ⟨y, m, d, h, i, s⟩ := g;simp only at hm ⊢;have no : (¬ (1970 ≤ y ∧ y ≤ 9999 ∧ 1 ≤ m ∧ 1 ≤ d ∧ d ≤ (mLen y.toNat (m - 1) : Nat) ∧ 0 ≤ h ∧ h ≤ 23 ∧ 0 ≤ i ∧ i ≤ 59 ∧ 0 ≤ s ∧ s ≤ 59)) → rightG ⟨y, m, d, h, i, s⟩ = false := fun e => by simp only [rightG, decide_eq_false_iff_not];exact e
 by_cases e0 : 1970 ≤ y
 case neg =>
  rw [no (by intro e;exact e0 e.1)];exact right_y1 y m d h i s (by simp;omega) w
 by_cases e1 : y ≤ 9999
 case neg =>
  rw [no (by intro e;exact e1 e.2.1)];exact right_y2 y m d h i s (by simp;omega) (by simp;omega) w
 by_cases e2 : 1 ≤ m
 case neg =>
  rw [no (by intro e;exact e2 e.2.2.1)];exact right_m1 y m d h i s (by simp;omega) (by simp;omega) (by simp;omega) w
 by_cases e3 : 1 ≤ d
 case neg =>
  rw [no (by intro e;exact e3 e.2.2.2.1)];exact right_d1 y m d h i s (by simp;omega) (by simp;omega) (by simp;omega) (by simp;omega) w
 have C : ∀ (w : World) (n : Nat), Calls Tryz.prog 155 #[.int .i64 y, .int .i64 (m : Nat)] (w.drewN n) fun e w' => e = .returned (.int .i64 (mLen y.toNat (m - 1) : Nat)) ∧ w' = w.drewN n := fun w n => by
  have := refDays_any y.toNat (m - 1) (m : Int) (w.drewN n) (by omega) (by omega) (by omega)
  rw [show ((y.toNat : Nat) : Int) = y by omega] at this;exact this.mono fun _ _ ⟨h1, h2⟩ => ⟨h1, h2.symm⟩
 by_cases e4 : d ≤ (mLen y.toNat (m - 1) : Nat)
 case neg =>
  rw [no (by intro e;exact e4 e.2.2.2.2.1)];exact right_dL y m d h i s (mLen y.toNat (m - 1)) C (by simp;omega) (by simp;omega) (by simp;omega) (by simp;omega) (by simp;omega) w
 by_cases e5 : 0 ≤ h
 case neg =>
  rw [no (by intro e;exact e5 e.2.2.2.2.2.1)];exact right_h1 y m d h i s (mLen y.toNat (m - 1)) C (by simp;omega) (by simp;omega) (by simp;omega) (by simp;omega) (by simp;omega) (by simp;omega) w
 by_cases e6 : h ≤ 23
 case neg =>
  rw [no (by intro e;exact e6 e.2.2.2.2.2.2.1)];exact right_h2 y m d h i s (mLen y.toNat (m - 1)) C (by simp;omega) (by simp;omega) (by simp;omega) (by simp;omega) (by simp;omega) (by simp;omega) (by simp;omega) w
 by_cases e7 : 0 ≤ i
 case neg =>
  rw [no (by intro e;exact e7 e.2.2.2.2.2.2.2.1)];exact right_i1 y m d h i s (mLen y.toNat (m - 1)) C (by simp;omega) (by simp;omega) (by simp;omega) (by simp;omega) (by simp;omega) (by simp;omega) (by simp;omega) (by simp;omega) w
 by_cases e8 : i ≤ 59
 case neg =>
  rw [no (by intro e;exact e8 e.2.2.2.2.2.2.2.2.1)];exact right_i2 y m d h i s (mLen y.toNat (m - 1)) C (by simp;omega) (by simp;omega) (by simp;omega) (by simp;omega) (by simp;omega) (by simp;omega) (by simp;omega) (by simp;omega) (by simp;omega) w
 by_cases e9 : 0 ≤ s
 case neg =>
  rw [no (by intro e;exact e9 e.2.2.2.2.2.2.2.2.2.1)];exact right_s1 y m d h i s (mLen y.toNat (m - 1)) C (by simp;omega) (by simp;omega) (by simp;omega) (by simp;omega) (by simp;omega) (by simp;omega) (by simp;omega) (by simp;omega) (by simp;omega) (by simp;omega) w
 by_cases e10 : s ≤ 59
 case neg =>
  rw [no (by intro e;exact e10 e.2.2.2.2.2.2.2.2.2.2)];exact right_s2 y m d h i s (mLen y.toNat (m - 1)) C (by simp;omega) (by simp;omega) (by simp;omega) (by simp;omega) (by simp;omega) (by simp;omega) (by simp;omega) (by simp;omega) (by simp;omega) (by simp;omega) (by simp;omega) w
 rw [show rightG ⟨y, m, d, h, i, s⟩ = true by simp only [rightG, decide_eq_true_iff];exact ⟨e0, e1, e2, e3, e4, e5, e6, e7, e8, e9, e10⟩];exact right_all y m d h i s (mLen y.toNat (m - 1)) C (by simp;omega) (by simp;omega) (by simp;omega) (by simp;omega) (by simp;omega) (by simp;omega) (by simp;omega) (by simp;omega) (by simp;omega) (by simp;omega) (by simp;omega) w
open Go.RowKit Go.Dr
theorem refAt_any (y m n h mi s : Nat) (wk : Int) (w : World) (h1 : 1970 ≤ y) (h2 : y ≤ 9999) (h3 : m < 12) (h4 : 1 ≤ n) (h5 : n ≤ 31) (h6 : h ≤ 23) (h7 : mi ≤ 59) (h8 : s ≤ 59) :
  Calls Tryz.prog 134 #[.agg #[.int .i64 y, .int .i64 ((m : Int) + 1), .int .i64 n, .int .i64 h, .int .i64 mi, .int .i64 s, .int .i64 wk]] w fun e w' => e = .returned (.int .i64 ((dayOf y m n * 86400 + (3600 * h + 60 * mi + s) : Nat) : Int)) ∧ Below w.heap.size w w' := by
 have hB := begY_low y h1;have hA := aheadM_le y m;have HD : Hid (dayOf y m n = begY y + n - 1 + aheadM y m) := rfl;have hdy : dayOf y m n ≤ 10000000 := (by unfold dayOf;omega);generalize dayOf y m n = dd at *;have hX := Blk.new w 165 #[.int .i64 y, .int .i64 ((m : Int) + 1), .int .i64 n, .int .i64 h, .int .i64 mi, .int .i64 s, .int .i64 wk];have hb0 : Below w.heap.size w (w.alloc (.cells #[.int .i64 y, .int .i64 ((m : Int) + 1), .int .i64 n, .int .i64 h, .int .i64 mi, .int .i64 s, .int .i64 wk] 165)) := (Below.refl _ _).alloc (Nat.le_refl _) _;go_enter Tryz.func134, Tryz.ntmps134
 go_wp2;generalize w.alloc (.cells #[.int .i64 y, .int .i64 ((m : Int) + 1), .int .i64 n, .int .i64 h, .int .i64 mi, .int .i64 s, .int .i64 wk] 165) = w0 at *;obtain ⟨k0, k1, k2, k3, k4, k5, k6⟩ := hX.c7
 go_loopw [3, 4] (fun d j wr => ∃ b k : Nat, d = .int .i64 b ∧ j = .int .i64 k ∧ Hid (b = begY k) ∧ b ≤ 3000000 ∧ 1970 ≤ k ∧ k ≤ y ∧ wr = w0) (fun _ j _ => y - (intOf j).toNat)
 case atStart => exact ⟨0, 1970, rfl, rfl, begY_1970.symm, by omega, Nat.le_refl _, h1, rfl⟩
 case round =>
  obtain ⟨b, k, rfl, rfl, HB, hb, hk, hky, hwe⟩ := hrel;obtain rfl : w0 = wr := hwe.symm;by_cases hlt : k < y
  ·have hlp := refLeap_any k w0 (by omega)
   have HS := Lib.hid (begY_step k hk);have hlow := begY_low (k + 1) (by omega)
   cases hl : leapY k with
   | true =>
    rw [hl] at HS hlp;have HN : Hid (b + 366 = begY (k + 1)) := (by show _ = _;have e1 := HS.out;have e2 := HB.out;simp at e1;omega);have hb2 : b + 366 ≤ 3000000 := (by have := HN.out;omega);clear HS hl hlow HB;go_wp2_with fail;refine hlp.mono ?_;rintro e w1 ⟨rfl, rfl⟩;go_wp2
    go_roundw
    case rel => exact ⟨b + 366, k + 1, by go_num, by go_num, HN, hb2, by omega, by omega, trivial⟩
    case measure => simp [intOf];omega
   | false =>
    rw [hl] at HS hlp;have HN : Hid (b + 365 = begY (k + 1)) := (by show _ = _;have e1 := HS.out;have e2 := HB.out;simp at e1;omega);have hb2 : b + 365 ≤ 3000000 := (by have := HN.out;omega);clear HS hl hlow HB;go_wp2_with fail;refine hlp.mono ?_;rintro e w1 ⟨rfl, rfl⟩;go_wp2
    go_roundw
    case rel => exact ⟨b + 365, k + 1, by go_num, by go_num, HN, hb2, by omega, by omega, trivial⟩
    case measure => simp [intOf];omega
  ·obtain rfl : k = y := by omega
   clear hlt;go_wp2
   go_loopw [3, 5] (fun d j wr => ∃ a i : Nat, d = .int .i64 a ∧ j = .int .i64 ((i : Int) + 1) ∧ Hid (a = b + aheadM k i) ∧ a ≤ 3000372 ∧ i ≤ m ∧ wr = w0) (fun _ j _ => m + 1 - (intOf j).toNat)
   case atStart => exact ⟨b, 0, rfl, rfl, rfl, by omega, Nat.zero_le _, rfl⟩
   case round =>
    obtain ⟨a, i, rfl, rfl, HA, ha, hi, hwe⟩ := hrel;obtain rfl : w0 = wr := hwe.symm;by_cases hlt : i < m
    ·have hdc := refDays_any k i ((i : Int) + 1) w0 rfl (by omega) (by omega)
     have HS : Hid (aheadM k (i + 1) = aheadM k i + mLen k i) := rfl;have hle := aheadM_le k (i + 1);have HN : Hid (a + mLen k i = b + aheadM k (i + 1)) := (by show _ = _;have e1 := HS.out;have e2 := HA.out;omega);have hb2 : a + mLen k i ≤ 3000372 := (by have := HN.out;omega);clear HS HA hle;generalize mLen k i = L at *;go_wp2_with fail;refine hdc.mono ?_;rintro e w1 ⟨rfl, rfl⟩;go_wp2
     go_roundw
     case rel => exact ⟨a + L, i + 1, by go_num, by go_num, HN, hb2, by omega, trivial⟩
     case measure => simp [intOf];omega
    ·obtain rfl : i = m := by omega
     have HF : Hid ((a : Int) + (n : Int) - 1 = (dd : Int)) := (by show _ = _;have e1 := HD.out;have e2 := HA.out;have e3 := HB.out;omega);clear HD HA HB hlt;go_wp2;go_ret;exact ⟨ret_int (by have := HF.out;push_cast;omega), hb0⟩
end Go.Proofs.YtahapblgmehngaaGreatDoor
namespace Go.Dr
theorem IsDt.year_of {v : Nat} {x : Dt} (h : IsDt v x) : x.year = yearOf (v / 86400) := by
 obtain ⟨x1, x2, x3, x4, x5, x6, x7, x8, x9⟩ := h;have hd : v / 86400 = x.days := (by rw [x9];unfold Dt.at;omega);have h1 := aheadM_mono x.year (x.month + 1) (12 - (x.month + 1));rw [show x.month + 1 + (12 - (x.month + 1)) = 12 by omega, aheadM_12] at h1;have h2 := begY_step x.year x1;have h3 : aheadM x.year (x.month + 1) = aheadM x.year x.month + mLen x.year x.month := rfl;rw [hd];refine yearOf_eq x.days x.year x1 ?_ ?_
 ·unfold Dt.days dayOf;omega
 ·unfold Dt.days dayOf;omega
theorem refY_hit (s : Bytes) (y k : Nat) (hk : k < 3) (hj : ∀ j, j < k → (refF s j y).2 = false) (h : (refF s k y).2 = true) : refY s y = ((refF s k y).1, 0) := by
 unfold refY
 match k, hk with
 | 0, _ => rw [if_pos h]
 | 1, _ => rw [if_neg (by rw [hj 0 (by omega)];simp), if_pos h]
 | 2, _ => rw [if_neg (by rw [hj 0 (by omega)];simp), if_neg (by rw [hj 1 (by omega)];simp), if_pos h]
theorem refY_none (s : Bytes) (y : Nat) (hj : ∀ j, j < 3 → (refF s j y).2 = false) : refY s y = (0, 10) := by
 unfold refY;rw [if_neg (by rw [hj 0 (by omega)];simp), if_neg (by rw [hj 1 (by omega)];simp), if_neg (by rw [hj 2 (by omega)];simp)]
theorem not_yet {P : Nat → Prop} {k : Nat} (h : ∀ j, j < k → P j) (hk : P k) : ∀ j, j < k + 1 → P j := fun j hj => by
 by_cases e : j = k
 ·subst e;exact hk
 ·exact h j (by omega)
theorem refF_no {s : Bytes} {k y : Nat} (h : rightG (guessF s k y) = false) : (refF s k y).2 = false := by unfold refF;rw [if_neg (by rw [h];simp)]
theorem refF_yes {s : Bytes} {k y : Nat} (h : rightG (guessF s k y) = true) (b : Bool) (hb : ((guessF s k y).dt.text k == s) = b) : refF s k y = ((guessF s k y).dt.at, b) := by
 unfold refF;rw [if_pos h]
 congr 1
 rw [← hb, Bool.eq_iff_iff];simp
end Go.Dr
namespace Go.Proofs.YtahapblgmehngaaGreatDoor
open Go.RowKit Go.Dr
theorem run_year (y : Int) (a1 a2 a3 a4 a5 a6 : Value) (w : World) : (Instr.field 165 (.agg #[.int .i64 y, a1, a2, a3, a4, a5, a6]) 0).run Tryz.prog w = .ok (.int .i64 y) w := by kernel_rfl
theorem texts_any (x : Dt) (hx : x.Right) (w : World) : Calls Tryz.prog 135 #[x.val] w (RetSs 9 w [x.text 0, x.text 1, x.text 2]) := by
 obtain ⟨s1, s2, s3, s4, s5, s6, s7⟩ := hx.small
 have hl : (longF x.week).take 3 = dayF x.week := by
  match hw : x.week, s7 with
  | 0, _ | 1, _ | 2, _ | 3, _ | 4, _ | 5, _ | 6, _ => rfl
 refine texts_raw x.year x.month x.day x.hour x.min x.sec x.week (by have := hx.1;omega) s1 s2 s3 s4 s5 s6 s7 _ rfl _ rfl _ _ _ ?_ ?_ ?_ w
 ·rw [padF_2 _ s3, padF_2 _ s4, padF_2 _ s5, padF_2 _ s6, padF_4 _ (by have := hx.1;omega) s1]
  simp only [Dt.text, Dt.clockT, commaT, gmtT, List.append_assoc, hl]
 ·rw [padF_2 _ s3, padF_2 _ s4, padF_2 _ s5, padF_2 _ s6, padF_2 (x.year % 100) (by omega)]
  simp only [Dt.text, Dt.clockT, commaT, gmtT, List.append_assoc]
 ·rw [padF_2 _ s3, padF_2 _ s4, padF_2 _ s5, padF_2 _ s6, padF_4 _ (by have := hx.1;omega) s1]
  have e : (if x.day < 10 then [32] ++ (pad2 x.day).drop 1 else pad2 x.day) = lowDay x.day := (by unfold lowDay pad2;split <;> rfl);rw [e];simp only [Dt.text, Dt.clockT, List.append_assoc, hl]
theorem refAt_g (g : Gs) (h : rightG g = true) (hm : g.month ≤ 12) (w : World) : Calls Tryz.prog 134 #[.agg #[.int .i64 g.year, .int .i64 (g.month : Nat), .int .i64 g.day, .int .i64 g.hour, .int .i64 g.min, .int .i64 g.sec, .int .i64 0]] w fun e w' => e = .returned (.int .i64 (g.dt.at : Nat)) ∧ Below w.heap.size w w' := by
 obtain ⟨hR, hg⟩ := rightG_dt h hm;generalize g.dt = d at *;subst hg;obtain ⟨r1, r2, r3, r4, r5, r6, r7, r8, r9⟩ := hR;have := mLen_le d.year d.month
 have e := refAt_any d.year d.month d.day d.hour d.min d.sec 0 w r1 r2 r3 r4 (by omega) r6 r7 r8;have hm1 : ((d.gs.month : Nat) : Int) = (d.month : Int) + 1 := (by show (((d.month + 1 : Nat)) : Int) = _;omega);rw [hm1];exact e
theorem refOf_year (c : Nat) (hc : c ≤ 253402300799) (y : Nat) (hy : yearOf (c / 86400) = y) (w : World) : Calls Tryz.prog 132 #[.int .i64 c] w fun e w' => ∃ x : Dt, x.year = y ∧ e = .returned x.val ∧ Below w.heap.size w w' :=
 (refOf_any c w (by omega)).mono fun _ _ ⟨x, h1, h2, h3⟩ => ⟨x, by rw [← hy];exact h1.year_of, h2, h3⟩
theorem refOf_dt (d : Dt) (hd : d.Right) (w : World) : Calls Tryz.prog 132 #[.int .i64 (d.at : Nat)] w fun e w' => e = .returned d.val ∧ Below w.heap.size w w' := by
 have hb : d.at ≤ 900000000000 := by
  have := dayOf_le d.year d.month d.day hd.1 (by have := hd.2.1;omega) hd.2.2.1 (by have := hd.2.2.2.2.1;have := mLen_le d.year d.month;omega)
  obtain ⟨r1, r2, r3, r4, r5, r6, r7, r8, r9⟩ := hd;unfold Dt.at Dt.days;omega
 refine (refOf_any d.at w hb).mono ?_;rintro e w' ⟨x, h1, rfl, h3⟩;exact ⟨by rw [IsDt.unique h1 hd.is], h3⟩
theorem refParse_any (s : Bytes) (now : Int) (w : World) (hs : s.length ≤ 1099511627776) : Calls Tryz.prog 112 #[S s, .int .i64 now] w fun e w' => e = .returned (.tuple #[.int .i64 ((parseF s now).1 : Nat), .int .i64 ((parseF s now).2 : Nat)]) ∧ Below w.heap.size w w' := by
 have hy := yearOf_clamp now;have hc := clampD_le now;have HP : Hid (parseF s now = refY s (yearOf (clampD now / 86400))) := Lib.hid (by rw [refY_eq _ _ hy.1 hy.2];rfl);have hcl : (now < 0 ∧ clampD now = 0) ∨ (253402300799 < now ∧ clampD now = 253402300799) ∨ (0 ≤ now ∧ now ≤ 253402300799 ∧ now = (clampD now : Nat)) := (by unfold clampD;omega);have O := fun w => refOf_year (clampD now) hc _ rfl w
 generalize yearOf (clampD now / 86400) = y at *;generalize clampD now = c at *;generalize parseF s now = r at *
 rcases hcl with ⟨h0, rfl⟩ | ⟨h0, rfl⟩ | ⟨h0, h1, rfl⟩
 case' inl =>
  have O : Hid (∀ w, Calls Tryz.prog 132 #[.int .i64 0] w fun e w' => ∃ x : Dt, x.year = y ∧ e = .returned x.val ∧ Below w.heap.size w w') := O
 case' inr.inl =>
  have h1 : ¬ now < 0 := (by omega);have O : Hid (∀ w, Calls Tryz.prog 132 #[.int .i64 253402300799] w fun e w' => ∃ x : Dt, x.year = y ∧ e = .returned x.val ∧ Below w.heap.size w w') := O
 case' inr.inr =>
  have O := Lib.hid O
 all_goals
  go_enter Tryz.func112, Tryz.ntmps112
  go_wp2_with fail
  go_loopw [6] (fun i wr => ∃ k : Nat, i = .int .i64 k ∧ k ≤ 3 ∧ (∀ j, j < k → (refF s j y).2 = false) ∧ Below w.heap.size w wr) (fun i _ => 3 - (intOf i).toNat)
  case atStart => exact ⟨0, rfl, by omega, fun j hj => by omega, Below.refl _ _⟩
  case round =>
   obtain ⟨k, rfl, hk, hj, hbel⟩ := hrel;have HJ := Lib.hid hj;clear hj;by_cases hlt : k < 3
   ·obtain ⟨wo, rfl⟩ : ∃ wo : World, wo = wr := ⟨_, rfl⟩
    go_wp2_with fail;refine (O.out _).mono ?_;rintro e w1 ⟨x, hx, rfl, hb1⟩;obtain ⟨yy, mo, dd, hh, mi, ss, wk⟩ := x;obtain rfl : y = yy := hx.symm;simp only [Dt.val];have hw1 := Bl.on hbel hbel.size hb1;have hfd : ∀ w' : World, (Instr.field 165 (.agg #[.int .i64 (y : Int), .int .i64 ((mo : Int) + 1), .int .i64 dd, .int .i64 hh, .int .i64 mi, .int .i64 ss, .int .i64 wk]) 0).run Tryz.prog w' = .ok (.int .i64 (y : Int)) w' := fun w' => run_year _ _ _ _ _ _ _ w'
    go_wp2_with fail;clear hfd;refine (guess_any s k y hlt _ hs (by omega)).mono ?_;rintro e w2 ⟨rfl, hb2⟩;have hw2 := Bl.tr hw1 hb2;have hgm := guess_month s k y;have HN := Lib.hid (fun h => refF_no (s := s) (k := k) (y := y) h);have HY := Lib.hid (fun h b hb => refF_yes (s := s) (k := k) (y := y) h b hb);generalize guessF s k y = g at *;have hX := Blk.new w2 165 #[.int .i64 g.year, .int .i64 (g.month : Nat), .int .i64 g.day, .int .i64 g.hour, .int .i64 g.min, .int .i64 g.sec, .int .i64 0];have hw3 := hw2.alloc hw2.size (.cells #[.int .i64 g.year, .int .i64 (g.month : Nat), .int .i64 g.day, .int .i64 g.hour, .int .i64 g.min, .int .i64 g.sec, .int .i64 0] 165);go_wp2_with fail;generalize w2.alloc (.cells #[.int .i64 g.year, .int .i64 (g.month : Nat), .int .i64 g.day, .int .i64 g.hour, .int .i64 g.min, .int .i64 g.sec, .int .i64 0] 165) = w3 at *;refine (right_any g hgm _).mono ?_;rintro e w4 ⟨rfl, hb4⟩;have hw4 := Bl.tr hw3 hb4;have hX4 := hX.on hb4;clear hw1 hw2 hw3 hX hb1 hb2 hb4
    cases hr : rightG g with
    | false =>
     have HN := Lib.hid (HN.out hr);clear hr;go_wp2
     go_roundw
     case rel => exact ⟨k + 1, by go_num, by omega, not_yet HJ.out HN.out, hw4⟩
     case measure => simp [intOf];omega
    | true =>
     have HA := Lib.hid (fun w => refAt_g g hr hgm w);have HD := Lib.hid (rightG_dt hr hgm).1;have HY := Lib.hid (HY.out hr);clear hr HN;obtain ⟨x0, x1, x2, x3, x4, x5, x6⟩ := hX4.c7;go_wp2_with fail;refine (HA.out _).mono ?_;rintro e w5 ⟨rfl, hb5⟩;have hw5 := Bl.tr hw4 hb5;generalize g.dt = d at *;clear x0 x1 x2 x3 x4 x5 x6 hX4 hw4 hb5 HA;go_wp2_with fail;refine (refOf_dt d HD.out _).mono ?_;rintro e w6 ⟨rfl, hb6⟩;have hw6 := Bl.tr hw5 hb6;go_wp2_with fail;refine (texts_any d HD.out _).mono ?_;rintro e w7 ⟨v7, rfl, ho7, hb7⟩;have hw7 := Bl.tr hw6 hb7;have r7 : Ss w7.heap.size w7 v7 [d.text 0, d.text 1, d.text 2] := Ss.own ho7;obtain ⟨p7, c7, rfl, -⟩ := r7.form
     have hgt : [d.text 0, d.text 1, d.text 2][k]? = some (d.text k) := by
      match k, hlt with
      | 0, _ => rfl
      | 1, _ => rfl
      | 2, _ => rfl
     obtain ⟨b7, o7, rfl, hl7, t7⟩ := r7.get k _ hgt;have hlk : k < [d.text 0, d.text 1, d.text 2].length := hlt;clear hw5 hw6 hb6 hb7 ho7 r7 hgt;generalize [d.text 0, d.text 1, d.text 2].length = n3 at *;generalize hT : d.text k = T at *
     cases hq : (T == s) with
     | true =>
      have HR := Lib.hid (refY_hit s y k hlt HJ.out (by rw [HY.out true hq]));have HV := Lib.hid (HY.out true hq);clear hT;go_wp2;go_ret2;exact ⟨by rw [HP.out, HR.out, HV.out];rfl, hw7⟩
     | false =>
      have HV := Lib.hid (HY.out false hq);clear hT;go_wp2
      go_roundw
      case rel => exact ⟨k + 1, by go_num, by omega, not_yet HJ.out (by rw [HV.out]), hw7⟩
      case measure => simp [intOf];omega
   ·have HR := Lib.hid (refY_none s y (fun j hj => HJ.out j (by omega)))
    go_wp2;go_ret2;exact ⟨by rw [HP.out, HR.out];rfl, hbel⟩
end Go.Proofs.YtahapblgmehngaaGreatDoor
namespace Go.Dr
def dateI (l : List F) (name : Bytes) (came : Int) : Int := if momB l name came = true then (momV l name came : Nat) else -1
def worthN (c : UInt8) : Nat := if digitN c = 16 then 99 else digitN c
theorem worth_dig (c : UInt8) (h : isDig c = true) : (c.toNat : Int) - 48 = (worthN c : Nat) := by
 simp only [isDig, decide_eq_true_iff] at h;have e : digitN c = c.toNat - 48 := (by unfold digitN;rw [if_pos h]);unfold worthN;rw [e, if_neg (by omega)];omega
theorem worth_low (c : UInt8) (h : isDig c = false) (h1 : 97 ≤ c.toNat) (h2 : c.toNat ≤ 102) : (c.toNat : Int) - 87 = (worthN c : Nat) := by
 simp only [isDig, decide_eq_false_iff_not] at h;have e : digitN c = c.toNat - 87 := (by unfold digitN;rw [if_neg h, if_pos ⟨h1, h2⟩]);unfold worthN;rw [e, if_neg (by omega)];omega
theorem worth_up (c : UInt8) (h : isDig c = false) (h0 : ¬ (97 ≤ c.toNat ∧ c.toNat ≤ 102)) (h1 : 65 ≤ c.toNat) (h2 : c.toNat ≤ 70) : (c.toNat : Int) - 55 = (worthN c : Nat) := by
 simp only [isDig, decide_eq_false_iff_not] at h;have e : digitN c = c.toNat - 55 := (by unfold digitN;rw [if_neg h, if_neg h0, if_pos ⟨h1, h2⟩]);unfold worthN;rw [e, if_neg (by omega)];omega
theorem worth_no (c : UInt8) (h : isDig c = false) (h0 : ¬ (97 ≤ c.toNat ∧ c.toNat ≤ 102)) (h1 : ¬ (65 ≤ c.toNat ∧ c.toNat ≤ 70)) : (99 : Int) = (worthN c : Nat) := by
 simp only [isDig, decide_eq_false_iff_not] at h;have e : digitN c = 16 := (by unfold digitN;rw [if_neg h, if_neg h0, if_neg h1]);unfold worthN;rw [e, if_pos rfl];rfl
theorem worth_lt (c : UInt8) : worthN c < 10 ↔ digitN c < 10 := by
 unfold worthN;split <;> omega
theorem worth_eq (c : UInt8) (h : worthN c < 10) : worthN c = digitN c := by
 unfold worthN at h ⊢;split
 ·rw [if_pos ‹_›] at h;omega
 ·rfl
def NumTo (l : Bytes) (k n : Nat) : Prop := (l.take k).all (fun c => decide (digitN c < 10)) = true ∧ ((n = numTo 10 (l.take k) ∧ n ≤ 10995116277775) ∨ (1099511627776 < n ∧ n ≤ 10995116277775 ∧ 1099511627776 < numTo 10 (l.take k)))
theorem NumTo.zero (l : Bytes) : NumTo l 0 0 := ⟨by simp, .inl ⟨by simp [numTo], by decide⟩⟩
theorem NumTo.le {l : Bytes} {k n : Nat} (h : NumTo l k n) : n ≤ 10995116277775 := by rcases h.2 with h | h <;> omega
theorem NumTo.all_snoc {l : Bytes} {k n : Nat} (h : NumTo l k n) (hk : k < l.length) (hc : worthN l[k] < 10) : (l.take (k + 1)).all (fun c => decide (digitN c < 10)) = true := by
 rw [take_snoc l k hk, List.all_append, h.1];simp [(worth_lt _).1 hc]
theorem NumTo.small {l : Bytes} {k n : Nat} (h : NumTo l k n) (hk : k < l.length) (hc : worthN l[k] < 10) (hn : n ≤ 1099511627776) : NumTo l (k + 1) (n * 10 + worthN l[k]) := by
 refine ⟨h.all_snoc hk hc, .inl ⟨?_, by omega⟩⟩;rw [numTo_snoc 10 l k hk, worth_eq _ hc]
 rcases h.2 with e | e
 ·rw [e.1]
 ·omega
theorem NumTo.big {l : Bytes} {k n : Nat} (h : NumTo l k n) (hk : k < l.length) (hc : worthN l[k] < 10) (hn : ¬ n ≤ 1099511627776) : NumTo l (k + 1) n := by
 refine ⟨h.all_snoc hk hc, .inr ⟨by omega, h.le, ?_⟩⟩;rw [numTo_snoc 10 l k hk]
 rcases h.2 with e | e
 ·rw [← e.1];omega
 ·omega
theorem number_bad {l : Bytes} {k : Nat} (hk : k < l.length) (hc : ¬ worthN l[k] < 10) : number 10 l = (0, 10) := by
 have : ¬ digitN l[k] < 10 := fun e => hc ((worth_lt _).2 e)
 unfold number;rw [if_pos];simp only [Bool.or_eq_true, Bool.not_eq_true', List.all_eq_false, decide_eq_true_iff];exact .inr ⟨l[k], List.getElem_mem hk, this⟩
theorem number_nil : number 10 [] = (0, 10) := by decide
theorem number_end {l : Bytes} {n : Nat} (h : NumTo l l.length n) (hl : 0 < l.length) : number 10 l = if n ≤ 1099511627776 then (n, 0) else (0, 11) := by
 have h1 := h.1;rw [List.take_length] at h1;have h2 := h.2;rw [List.take_length] at h2;unfold number greatest;rw [if_neg (by rw [h1];simp;intro e;subst e;simp at hl)]
 rcases h2 with e | e
 ·rw [← e.1]
 ·rw [if_neg (by omega), if_neg (by omega)]
end Go.Dr
namespace Go.Proofs.YtahapblgmehngaaGreatDoor
open Go.RowKit Go.Dr
theorem refWorth_any (c : UInt8) (w : World) : Calls Tryz.prog 136 #[B8 c] w fun e w' => e = .returned (.int .i64 (worthN c : Nat)) ∧ w = w' := by
 have D := Lib.hid (fun w => refDigit_any c w);have hc := c.toNat_lt
 cases hd : isDig c with
 | true =>
  have H := Lib.hid (worth_dig c hd);rw [hd] at D;clear hd;go_enter Tryz.func136, Tryz.ntmps136
  go_wp2_with fail;refine (D.out _).mono ?_;rintro e w1 ⟨rfl, rfl⟩;go_wp2;go_ret;exact ⟨ret_int H.out, rfl⟩
 | false =>
  have H1 := Lib.hid (worth_low c hd);have H2 := Lib.hid (worth_up c hd);have H3 := Lib.hid (worth_no c hd);rw [hd] at D;clear hd;go_enter Tryz.func136, Tryz.ntmps136
  go_wp2_with fail;refine (D.out _).mono ?_;rintro e w1 ⟨rfl, rfl⟩;go_wp2
  all_goals go_ret
  all_goals exact ⟨ret_int (by first | exact H1.out (by omega) (by omega) | exact H2.out (by omega) (by omega) (by omega) | exact H3.out (by omega) (by omega)), rfl⟩
theorem refNumber_any (l : Bytes) (w : World) (hl : l.length ≤ maxLen) : Calls Tryz.prog 113 #[S l, .int .i64 10] w fun e w' => e = .returned (.tuple #[.int .i64 ((number 10 l).1 : Nat), .int .i64 ((number 10 l).2 : Nat)]) ∧ w = w' := by
 unfold maxLen at hl;have HB := fun k (hk : k < l.length) hc => number_bad (l := l) hk hc
 have HE := fun n h hl => number_end (l := l) (n := n) h hl
 have HN : l = [] → number 10 l = (0, 10) := fun e => by rw [e];exact number_nil
 generalize number 10 l = r at *;have HB := Lib.hid HB;have HE := Lib.hid HE;have HN := Lib.hid HN;go_enter Tryz.func113, Tryz.ntmps113
 go_wp2
 go_loop [6, 7] (fun n i => ∃ k m : Nat, i = .int .i64 k ∧ n = .int .i64 m ∧ k ≤ l.length ∧ NumTo l k m) (fun _ i => l.length - (intOf i).toNat)
 case atStart => exact ⟨0, 0, rfl, rfl, by omega, NumTo.zero l⟩
 case round =>
  obtain ⟨k, m, rfl, rfl, hk, hm⟩ := hrel;have hml := hm.le;have HM := Lib.hid hm;clear hm;by_cases hlt : k < l.length
  ·have W := Lib.hid (fun w => refWorth_any l[k] w)
   have hw9 : worthN l[k] ≤ 99 := (by unfold worthN;have := digitN_le l[k];split <;> omega);have HB := Lib.hid (HB.out k hlt);have HS := Lib.hid (fun h1 h2 => HM.out.small hlt h1 h2);have HG := Lib.hid (fun h1 h2 => HM.out.big hlt h1 h2);go_wp2_with fail;refine (W.out _).mono ?_;rintro e w1 ⟨rfl, rfl⟩;generalize worthN l[k] = x at *;by_cases hx : x < 10
   ·have g1 : decide ((10 : Int) ≤ (x : Int)) = false := by rw [decide_eq_false_iff_not];omega
    by_cases hm2 : m ≤ 1099511627776
    ·have g2 : decide ((m : Int) ≤ 1099511627776) = true := by rw [decide_eq_true_iff];omega
     go_wp2;go_round
     case rel => exact ⟨k + 1, m * 10 + x, by go_num, by go_num, by omega, HS.out hx hm2⟩
     case measure => simp [intOf];omega
    ·have g2 : decide ((m : Int) ≤ 1099511627776) = false := by rw [decide_eq_false_iff_not];omega
     go_wp2;go_round
     case rel => exact ⟨k + 1, m, by go_num, rfl, by omega, HG.out hx hm2⟩
     case measure => simp [intOf];omega
   ·have g1 : decide ((10 : Int) ≤ (x : Int)) = true := by rw [decide_eq_true_iff];omega
    have HR := Lib.hid (HB.out hx);go_wp2;go_ret2;exact ⟨by rw [HR.out];rfl, rfl⟩
  ·have hkl : k = l.length := by omega
   subst hkl;by_cases h0 : l.length = 0
   ·have HR := Lib.hid (HN.out (List.eq_nil_of_length_eq_zero h0))
    have g0 : ((l.length : Int) == 0) = true := (by simp;exact List.eq_nil_of_length_eq_zero h0);go_wp2;go_ret2;exact ⟨by rw [HR.out];rfl, rfl⟩
   ·have HR := Lib.hid (HE.out m HM.out (by omega))
    have g0 : ((l.length : Int) == 0) = false := (by rw [beq_eq_false_iff_ne];omega);by_cases hm2 : m ≤ 1099511627776
    ·have g2 : decide ((1099511627776 : Int) < (m : Int)) = false := by rw [decide_eq_false_iff_not];omega
     have HQ : Hid (r = (m, 0)) := (by show _ = _;rw [HR.out, if_pos hm2]);go_wp2;go_ret2;exact ⟨by rw [HQ.out];rfl, rfl⟩
    ·have g2 : decide ((1099511627776 : Int) < (m : Int)) = true := by rw [decide_eq_true_iff];omega
     have HQ : Hid (r = (0, 11)) := (by show _ = _;rw [HR.out, if_neg hm2]);go_wp2;go_ret2;exact ⟨by rw [HQ.out];rfl, rfl⟩
theorem refDecimal_any (l : Bytes) (w : World) (hl : l.length ≤ maxLen) : Calls Tryz.prog 80 #[S l] w fun e w' => e = .returned (.tuple #[.int .i64 ((number 10 l).1 : Nat), .int .i64 ((number 10 l).2 : Nat)]) ∧ w = w' := by
 have C := Lib.hid (fun w => refNumber_any l w hl);generalize number 10 l = r at *;go_enter Tryz.func80, Tryz.ntmps80
 go_wp2_with fail;refine (C.out w).mono ?_;rintro e w1 ⟨rfl, rfl⟩;go_wp2;go_ret2;exact ⟨rfl, rfl⟩
theorem refTime_any (t : Int) (w : World) : Calls Tryz.prog 77 #[.int .i64 t] w fun e w' => e = .returned (.int .i64 (clampT t : Nat)) ∧ w = w' := by
 have H : (t < 0 → (0 : Int) = (clampT t : Nat)) ∧ (1099511627776 < t → (1099511627776 : Int) = (clampT t : Nat)) ∧ (0 ≤ t → t ≤ 1099511627776 → t = (clampT t : Nat)) := (by unfold clampT;omega);generalize clampT t = c at *;have H := Lib.hid H;by_cases h0 : t < 0
 ·go_enter Tryz.func77, Tryz.ntmps77
  go_wp2;go_ret;exact ⟨ret_int (H.out.1 h0), rfl⟩
 ·by_cases h1 : 1099511627776 < t
  ·have g1 : decide ((1099511627776 : Int) < t) = true := by rw [decide_eq_true_iff];exact h1
   go_enter Tryz.func77, Tryz.ntmps77
   go_wp2;go_ret;exact ⟨ret_int (H.out.2.1 h1), rfl⟩
  ·have g1 : decide ((1099511627776 : Int) < t) = false := by rw [decide_eq_false_iff_not];exact h1
   go_enter Tryz.func77, Tryz.ntmps77
   go_wp2;go_ret;exact ⟨ret_int (H.out.2.2 (by omega) (by omega)), rfl⟩
theorem refTimeB_any (t : Int) (w : World) : Calls Tryz.prog 77 #[.int .i64 t] w fun e w' => e = .returned (.int .i64 (clampT t : Nat)) ∧ Below w.heap.size w w' :=
 (refTime_any t w).mono fun _ _ ⟨h1, h2⟩ => ⟨h1, by subst h2;exact Below.refl _ _⟩
theorem date_one {l : List F} {name x : Bytes} {came : Int} (h : values l name = [x]) : dateI l name came = if parseB x (clampT came : Nat) = true then ((parseF x (clampT came : Nat)).1 : Int) else -1 := by
 unfold dateI;rw [momB_one h, momV_one h]
theorem date_none {l : List F} {name : Bytes} {came : Int} (h : (values l name).length ≠ 1) : dateI l name came = -1 := by
 have e : momB l name came = false := by
  unfold momB
  split
  ·rename_i x e;rw [e] at h;simp at h
  ·rfl
 unfold dateI;rw [e, if_neg (by simp)]
theorem refDate_any (q : En) (l : List F) (name : Bytes) (w : World) (h : Fs w.heap.size w q.vf l) (hl : fsum l ≤ 1099511627776) (hn : name.length ≤ 1099511627776) :
  Calls Tryz.prog 76 #[q.val, S name] w fun e w' => e = .returned (.int .i64 (dateI l name q.came)) ∧ Below w.heap.size w w' := by
 obtain ⟨pf, cf, hfv, -⟩ := h.form;obtain ⟨key, vp, st, vf, body, asked, came⟩ := q;simp only at hfv h ⊢;subst hfv;have hQ := Blk.new w 36 (En.cells ⟨key, vp, st, .slice pf l.length cf, body, asked, came⟩);have hbx : Below w.heap.size w (w.alloc (.cells (En.cells ⟨key, vp, st, .slice pf l.length cf, body, asked, came⟩) 36)) := (Below.refl _ _).alloc (Nat.le_refl _) _;have h1 := (h.below hbx).mono hbx.size;have HS := ssum_values l name;have HO := Lib.hid (fun x h => date_one (l := l) (name := name) (came := came) (x := x) h);have HN := Lib.hid (fun h => date_none (l := l) (name := name) (came := came) h);generalize dateI l name came = D at *;unfold En.val;go_enter Tryz.func76, Tryz.ntmps76
 go_wp2_with fail;refine (refValues_any l name _ _ h1 hl hn).mono ?_;rintro e w1 ⟨vv, rfl, hvv, hb1⟩;have hr : Ss w1.heap.size w1 vv (values l name) := Ss.own hvv;generalize values l name = vs at *;obtain ⟨pa, ca, rfl, hm⟩ := hr.form;have hw1 := Bl.tr hbx hb1;have hQ1 := hQ.on hb1;clear hvv h1 hQ hbx hb1 h;by_cases hlen : vs.length = 1
 ·obtain ⟨x, rfl⟩ : ∃ x, vs = [x] := List.length_eq_one_iff.1 hlen
  have HV := Lib.hid (HO.out x rfl);obtain ⟨b, off, rfl, hbb, c0⟩ := hr.at 0 (by simp);simp at c0
  have hx : x.length ≤ 1099511627776 := (by simp [ssum] at HS;omega);have hpl := parseF_le x (clampT came : Nat) hx;have HI := Lib.hid (parseB_int x (clampT came : Nat));have C := Lib.hid (fun w => refParse_any x (clampT came : Nat) w hx);generalize parseB x (clampT came : Nat) = pb at *;generalize parseF x (clampT came : Nat) = pr at *;have c6 : w1.cell? ⟨w.heap.size, 6, none⟩ = some (.int .i64 came) := hQ1.cell 6;clear HS hm HO HN hlen;go_wp2_with fail
  go_region_held3 (fun w' => w'.cell? ⟨w.heap.size, 6, none⟩ = some (.int .i64 came) ∧ w'.cell? ⟨b, off, none⟩ = some (S x))
   (first | go_keep)
   (first
    | (go_at_call 77;refine (refTimeB_any came _).mono ?_;rintro e w2 ⟨rfl, hb2⟩;replace hb2 := Bl.undrew hb2;have hr2 := (hr.below hb2).mono hb2.size;have hQ2 := hQ1.on hb2;have hww2 := Bl.tr hw1 hb2;have c62 : w2.cell? ⟨w.heap.size, 6, none⟩ = some (.int .i64 came) := hQ2.cell 6;have c02 : w2.cell? ⟨b, off, none⟩ = some (S x) := by (rw [hb2.cell (p := ⟨b, off, none⟩) hbb];exact c0);skip)
    | (go_at_call 112;refine (C.out _).mono ?_;rintro e w3 ⟨rfl, hb3⟩;have hww3 := Bl.tr hww2 hb3;have hQ3 := hQ2.on hb3;have c63 : w3.cell? ⟨w.heap.size, 6, none⟩ = some (.int .i64 came) := hQ3.cell 6;have c03 : w3.cell? ⟨b, off, none⟩ = some (S x) := by (rw [hb3.cell (p := ⟨b, off, none⟩) (Nat.lt_of_lt_of_le hbb hb2.size)];exact c02)))
  cases pb with
  | true =>
   have g : ((pr.2 : Int) != 0) = false := (by rw [bne, HI.out];rfl);have HV : Hid (D = (pr.1 : Int)) := (by show _ = _;rw [HV.out, if_pos rfl]);go_wp2;go_ret;exact ⟨ret_int HV.out.symm, hww3⟩
  | false =>
   have g : ((pr.2 : Int) != 0) = true := (by rw [bne, HI.out];rfl);have HV : Hid (D = -1) := (by show _ = _;rw [HV.out, if_neg (by simp)]);go_wp2;go_ret;exact ⟨ret_int HV.out.symm, hww3⟩
 ·have HV := Lib.hid (HN.out hlen)
  have g : ((vs.length : Int) == 1) = false := (by rw [beq_eq_false_iff_ne];omega);have g2 : ((vs.length : Int) != 1) = true := (by rw [bne, g];rfl);clear HS HO HN hlen;generalize vs.length = n at *;go_wp2;go_ret;exact ⟨ret_int HV.out.symm, hw1⟩
end Go.Proofs.YtahapblgmehngaaGreatDoor
namespace Go.Dr
def isDir (name s : Bytes) : Bool := (directive s).2.2 && ((directive s).1 == name)
def dirNum (bare : Nat) (s : Bytes) : Nat := if (directive s).2.1 = [] then bare else numArg (directive s).2.1
def numsF (all : List Bytes) (name : Bytes) (bare : Nat) : List Nat := (all.filter (isDir name)).map (dirNum bare)
def endStep (g : Bool) (n : Int) (x : Nat) : Int := if n < 0 ∨ g = decide (n < (x : Int)) then (x : Int) else n
def endF (l : List Nat) (g : Bool) : Int := l.foldl (endStep g) (-1)
def namedF (all : List Bytes) (name : Bytes) : Bool := decide (0 < (numsF all name 0).length)
theorem numsF_snoc (all : List Bytes) (name : Bytes) (bare k : Nat) (h : k < all.length) : numsF (all.take (k + 1)) name bare = numsF (all.take k) name bare ++ (if isDir name all[k] = true then [dirNum bare all[k]] else []) := by
 unfold numsF;rw [take_snoc all k h, List.filter_append, List.map_append]
 congr 1
 by_cases hs : isDir name all[k] = true <;> simp [hs]
theorem numsF_length (all : List Bytes) (name : Bytes) (bare : Nat) : (numsF all name bare).length ≤ all.length := by
 unfold numsF;rw [List.length_map];exact List.length_filter_le _ _
theorem dirNum_le (bare : Nat) (s : Bytes) (h : bare ≤ 1099511627776) : dirNum bare s ≤ 1099511627776 := by
 unfold dirNum;split
 ·exact h
 ·exact numArg_le _
theorem numsF_le {all : List Bytes} {name : Bytes} {bare : Nat} (hb : bare ≤ 1099511627776) : ∀ x ∈ numsF all name bare, x ≤ 1099511627776 := by
 intro x hx;unfold numsF at hx;rw [List.mem_map] at hx;obtain ⟨s, _, rfl⟩ := hx;exact dirNum_le bare s hb
theorem endF_snoc (l : List Nat) (g : Bool) (k : Nat) (h : k < l.length) : endF (l.take (k + 1)) g = endStep g (endF (l.take k) g) l[k] := by
 rw [take_snoc l k h];simp only [endF, List.foldl_append, List.foldl_cons, List.foldl_nil]
theorem endF_bound (l : List Nat) (g : Bool) (h : ∀ x ∈ l, x ≤ 1099511627776) : ∀ k, -1 ≤ endF (l.take k) g ∧ endF (l.take k) g ≤ 1099511627776 := by
 intro k
 induction k with
 | zero => simp [endF]
 | succ k ih =>
  by_cases hk : k < l.length
  ·rw [endF_snoc l g k hk]
   have := h _ (List.getElem_mem hk)
   unfold endStep
   split <;> omega
  ·rw [List.take_of_length_le (by omega)] at ih ⊢;exact ih
theorem says_part (n a : Bytes) : (ctlSays n a).ns = (n == noStore) ∧ (ctlSays n a).nc = (n == noCache) ∧ (ctlSays n a).nt = (n == noTransform) ∧ (ctlSays n a).pu = (n == pubName) ∧ (ctlSays n a).pr = (n == privName) ∧ (ctlSays n a).mr = (n == mustRe) ∧ (ctlSays n a).px = (n == proxyRe) ∧ (ctlSays n a).oi = (n == onlyIf)
  ∧ (ctlSays n a).ma = (if n = maxAge then (numArg a : Int) else -1) ∧ (ctlSays n a).sm = (if n = sMaxage then (numArg a : Int) else -1) ∧ (ctlSays n a).mf = (if n = minFresh then (numArg a : Int) else -1) ∧ (ctlSays n a).ms = (if n = maxStale then ((if a = [] then greatest else numArg a : Nat) : Int) else -1) := by
 by_cases h1 : n = noStore
 ·subst h1;unfold ctlSays;rw [if_pos rfl];exact ⟨by decide, by decide, by decide, by decide, by decide, by decide, by decide, by decide, by rw [if_neg (by decide)];rfl, by rw [if_neg (by decide)];rfl, by rw [if_neg (by decide)];rfl, by rw [if_neg (by decide)];rfl⟩
 by_cases h2 : n = noCache
 ·subst h2;unfold ctlSays;rw [if_neg h1, if_pos rfl];exact ⟨by decide, by decide, by decide, by decide, by decide, by decide, by decide, by decide, by rw [if_neg (by decide)];rfl, by rw [if_neg (by decide)];rfl, by rw [if_neg (by decide)];rfl, by rw [if_neg (by decide)];rfl⟩
 by_cases h3 : n = noTransform
 ·subst h3;unfold ctlSays;rw [if_neg h1, if_neg h2, if_pos rfl];exact ⟨by decide, by decide, by decide, by decide, by decide, by decide, by decide, by decide, by rw [if_neg (by decide)];rfl, by rw [if_neg (by decide)];rfl, by rw [if_neg (by decide)];rfl, by rw [if_neg (by decide)];rfl⟩
 by_cases h4 : n = pubName
 ·subst h4;unfold ctlSays;rw [if_neg h1, if_neg h2, if_neg h3, if_pos rfl];exact ⟨by decide, by decide, by decide, by decide, by decide, by decide, by decide, by decide, by rw [if_neg (by decide)];rfl, by rw [if_neg (by decide)];rfl, by rw [if_neg (by decide)];rfl, by rw [if_neg (by decide)];rfl⟩
 by_cases h5 : n = privName
 ·subst h5;unfold ctlSays;rw [if_neg h1, if_neg h2, if_neg h3, if_neg h4, if_pos rfl];exact ⟨by decide, by decide, by decide, by decide, by decide, by decide, by decide, by decide, by rw [if_neg (by decide)];rfl, by rw [if_neg (by decide)];rfl, by rw [if_neg (by decide)];rfl, by rw [if_neg (by decide)];rfl⟩
 by_cases h6 : n = mustRe
 ·subst h6;unfold ctlSays;rw [if_neg h1, if_neg h2, if_neg h3, if_neg h4, if_neg h5, if_pos rfl];exact ⟨by decide, by decide, by decide, by decide, by decide, by decide, by decide, by decide, by rw [if_neg (by decide)];rfl, by rw [if_neg (by decide)];rfl, by rw [if_neg (by decide)];rfl, by rw [if_neg (by decide)];rfl⟩
 by_cases h7 : n = proxyRe
 ·subst h7;unfold ctlSays;rw [if_neg h1, if_neg h2, if_neg h3, if_neg h4, if_neg h5, if_neg h6, if_pos rfl];exact ⟨by decide, by decide, by decide, by decide, by decide, by decide, by decide, by decide, by rw [if_neg (by decide)];rfl, by rw [if_neg (by decide)];rfl, by rw [if_neg (by decide)];rfl, by rw [if_neg (by decide)];rfl⟩
 by_cases h8 : n = onlyIf
 ·subst h8;unfold ctlSays;rw [if_neg h1, if_neg h2, if_neg h3, if_neg h4, if_neg h5, if_neg h6, if_neg h7, if_pos rfl];exact ⟨by decide, by decide, by decide, by decide, by decide, by decide, by decide, by decide, by rw [if_neg (by decide)];rfl, by rw [if_neg (by decide)];rfl, by rw [if_neg (by decide)];rfl, by rw [if_neg (by decide)];rfl⟩
 have b1 : (n == noStore) = false := (by simpa using h1);have b2 : (n == noCache) = false := (by simpa using h2);have b3 : (n == noTransform) = false := (by simpa using h3);have b4 : (n == pubName) = false := (by simpa using h4);have b5 : (n == privName) = false := (by simpa using h5);have b6 : (n == mustRe) = false := (by simpa using h6);have b7 : (n == proxyRe) = false := (by simpa using h7);have b8 : (n == onlyIf) = false := (by simpa using h8);unfold ctlSays;rw [if_neg h1, if_neg h2, if_neg h3, if_neg h4, if_neg h5, if_neg h6, if_neg h7, if_neg h8, b1, b2, b3, b4, b5, b6, b7, b8];by_cases h9 : n = maxAge
 ·subst h9
  rw [if_pos rfl, if_pos rfl, if_neg (show ¬ maxAge = sMaxage by decide), if_neg (show ¬ maxAge = minFresh by decide), if_neg (show ¬ maxAge = maxStale by decide)];exact ⟨rfl, rfl, rfl, rfl, rfl, rfl, rfl, rfl, rfl, rfl, rfl, rfl⟩
 by_cases h10 : n = sMaxage
 ·subst h10
  rw [if_neg h9, if_neg h9, if_pos rfl, if_pos rfl, if_neg (show ¬ sMaxage = minFresh by decide), if_neg (show ¬ sMaxage = maxStale by decide)];exact ⟨rfl, rfl, rfl, rfl, rfl, rfl, rfl, rfl, rfl, rfl, rfl, rfl⟩
 by_cases h11 : n = minFresh
 ·subst h11
  rw [if_neg h9, if_neg h9, if_neg h10, if_neg h10, if_pos rfl, if_pos rfl, if_neg (show ¬ minFresh = maxStale by decide)];exact ⟨rfl, rfl, rfl, rfl, rfl, rfl, rfl, rfl, rfl, rfl, rfl, rfl⟩
 by_cases h12 : n = maxStale
 ·subst h12
  rw [if_neg h9, if_neg h9, if_neg h10, if_neg h10, if_neg h11, if_neg h11, if_pos rfl, if_pos rfl];exact ⟨rfl, rfl, rfl, rfl, rfl, rfl, rfl, rfl, rfl, rfl, rfl, by show (if a = [] then (greatest : Int) else (numArg a : Int)) = _;split <;> rfl⟩
 rw [if_neg h9, if_neg h9, if_neg h10, if_neg h10, if_neg h11, if_neg h11, if_neg h12, if_neg h12];exact ⟨rfl, rfl, rfl, rfl, rfl, rfl, rfl, rfl, rfl, rfl, rfl, rfl⟩
theorem numArg_nil : numArg [] = 0 := by decide
theorem dirNum_zero (s : Bytes) : dirNum 0 s = numArg (directive s).2.1 := by
 unfold dirNum;split
 ·rename_i h;rw [h, numArg_nil]
 ·rfl
theorem dirNum_great (s : Bytes) : dirNum 1099511627776 s = (if (directive s).2.1 = [] then greatest else numArg (directive s).2.1 : Nat) := rfl
theorem of_part (s : Bytes) : (ctlOf s).ns = isDir noStore s ∧ (ctlOf s).nc = isDir noCache s ∧ (ctlOf s).nt = isDir noTransform s ∧ (ctlOf s).pu = isDir pubName s ∧ (ctlOf s).pr = isDir privName s ∧ (ctlOf s).mr = isDir mustRe s ∧ (ctlOf s).px = isDir proxyRe s ∧ (ctlOf s).oi = isDir onlyIf s
  ∧ (ctlOf s).ma = (if isDir maxAge s = true then (dirNum 0 s : Int) else -1) ∧ (ctlOf s).sm = (if isDir sMaxage s = true then (dirNum 0 s : Int) else -1) ∧ (ctlOf s).mf = (if isDir minFresh s = true then (dirNum 0 s : Int) else -1) ∧ (ctlOf s).ms = (if isDir maxStale s = true then (dirNum 1099511627776 s : Int) else -1) := by
 rw [dirNum_zero, dirNum_great];unfold ctlOf isDir
 cases h : (directive s).2.2
 ·simp [Ctl.none]
 ·simp only [if_true, Bool.true_and, beq_iff_eq]
  exact says_part _ _
theorem fold_flag (P : Bytes → Bool) (get : Ctl → Bool) (hj : ∀ a b : Ctl, get (a.join b) = (get a || get b)) (h0 : get Ctl.none = false) (hs : ∀ s, get (ctlOf s) = P s) (l : List Bytes) : get (ctlAll l) = l.any P := by
 have : ∀ (l : List Bytes) (c : Ctl), get (l.foldl (fun c s => c.join (ctlOf s)) c) = (get c || l.any P) := by
  intro l
  induction l with
  | nil => intro c;simp
  | cons s l ih => intro c;rw [List.foldl_cons, ih, hj, hs, List.any_cons, Bool.or_assoc]
 have := this l Ctl.none
 rw [h0, Bool.false_or] at this;exact this
theorem any_named (l : List Bytes) (name : Bytes) : l.any (isDir name) = namedF l name := by
 unfold namedF numsF;rw [List.length_map, Bool.eq_iff_iff, List.any_eq_true, decide_eq_true_iff, List.length_pos_iff_exists_mem]
 constructor
 ·rintro ⟨x, h1, h2⟩;exact ⟨x, List.mem_filter.2 ⟨h1, h2⟩⟩
 ·rintro ⟨x, h⟩;exact ⟨x, (List.mem_filter.1 h).1, (List.mem_filter.1 h).2⟩
theorem endStep_least (n : Int) (x : Nat) : endStep false n x = least n (x : Int) := by
 unfold endStep least;by_cases h : n < 0
 ·rw [if_pos (.inl h), if_pos h]
 ·rw [if_neg h, if_neg (by omega : ¬ (x : Int) < 0)]
  by_cases h2 : n ≤ (x : Int)
  ·rw [if_pos h2]
   by_cases h3 : n < (x : Int)
   ·rw [if_neg (by simp [h, h3])]
   ·rw [if_pos (.inr (by simp [h3]))];omega
  ·rw [if_neg h2, if_pos (.inr (by simp;omega))]
theorem endStep_most (n : Int) (x : Nat) : endStep true n x = most n (x : Int) := by
 unfold endStep most;by_cases h2 : n ≤ (x : Int)
 ·rw [if_pos h2]
  by_cases h : n < 0
  ·rw [if_pos (.inl h)]
  ·by_cases h3 : n < (x : Int)
   ·rw [if_pos (.inr (by simp [h3]))]
   ·rw [if_neg (by simp [h, h3])];omega
 ·rw [if_neg h2, if_neg (by simp;omega)]
theorem fold_num (name : Bytes) (bare : Nat) (g : Bool) (get : Ctl → Int) (J : Int → Int → Int) (hJ : ∀ n (x : Nat), endStep g n x = J n x) (hJ0 : ∀ n, -1 ≤ n → J n (-1) = n) (hj : ∀ a b : Ctl, get (a.join b) = J (get a) (get b)) (h0 : get Ctl.none = -1) (hb : bare ≤ 1099511627776)
  (hs : ∀ s, get (ctlOf s) = if isDir name s = true then (dirNum bare s : Int) else -1) (l : List Bytes) : get (ctlAll l) = endF (numsF l name bare) g := by
 have key : ∀ (l : List Bytes) (c : Ctl), -1 ≤ get c → get (l.foldl (fun c s => c.join (ctlOf s)) c) = (numsF l name bare).foldl (endStep g) (get c) := by
  intro l
  induction l with
  | nil => intro c _;rfl
  | cons s l ih =>
   intro c hc;rw [List.foldl_cons];by_cases h : isDir name s = true
   ·have e : get (c.join (ctlOf s)) = endStep g (get c) (dirNum bare s) := by rw [hj, hs, if_pos h, hJ]
    have e2 : numsF (s :: l) name bare = dirNum bare s :: numsF l name bare := (by simp [numsF, h]);rw [ih _ (by rw [e];unfold endStep;split <;> omega), e, e2, List.foldl_cons]
   ·have e : get (c.join (ctlOf s)) = get c := by rw [hj, hs, if_neg h, hJ0 _ hc]
    have e2 : numsF (s :: l) name bare = numsF l name bare := (by simp [numsF, h]);rw [ih _ (by rw [e];exact hc), e, e2]
 have := key l Ctl.none (by rw [h0];omega)
 rw [h0] at this;exact this
def readR (all : List Bytes) : Ctl :=
 ⟨namedF all noStore, namedF all noCache, namedF all noTransform, namedF all pubName, namedF all privName, namedF all mustRe, namedF all proxyRe, namedF all onlyIf,
  endF (numsF all maxAge 0) false, endF (numsF all sMaxage 0) false, endF (numsF all minFresh 0) true, endF (numsF all maxStale 1099511627776) false⟩
theorem readR_eq (all : List Bytes) : readR all = ctlAll all := by
 have f1 := fold_flag (isDir noStore) Ctl.ns (fun _ _ => rfl) rfl (fun s => (of_part s).1) all;have f2 := fold_flag (isDir noCache) Ctl.nc (fun _ _ => rfl) rfl (fun s => (of_part s).2.1) all;have f3 := fold_flag (isDir noTransform) Ctl.nt (fun _ _ => rfl) rfl (fun s => (of_part s).2.2.1) all;have f4 := fold_flag (isDir pubName) Ctl.pu (fun _ _ => rfl) rfl (fun s => (of_part s).2.2.2.1) all;have f5 := fold_flag (isDir privName) Ctl.pr (fun _ _ => rfl) rfl (fun s => (of_part s).2.2.2.2.1) all;have f6 := fold_flag (isDir mustRe) Ctl.mr (fun _ _ => rfl) rfl (fun s => (of_part s).2.2.2.2.2.1) all;have f7 := fold_flag (isDir proxyRe) Ctl.px (fun _ _ => rfl) rfl (fun s => (of_part s).2.2.2.2.2.2.1) all;have f8 := fold_flag (isDir onlyIf) Ctl.oi (fun _ _ => rfl) rfl (fun s => (of_part s).2.2.2.2.2.2.2.1) all;have n1 := fold_num maxAge 0 false Ctl.ma least endStep_least (fun n h => least_none' n h) (fun _ _ => rfl) rfl (by decide) (fun s => (of_part s).2.2.2.2.2.2.2.2.1) all;have n2 := fold_num sMaxage 0 false Ctl.sm least endStep_least (fun n h => least_none' n h) (fun _ _ => rfl) rfl (by decide) (fun s => (of_part s).2.2.2.2.2.2.2.2.2.1) all;have n3 := fold_num minFresh 0 true Ctl.mf most endStep_most (fun n h => most_none n h) (fun _ _ => rfl) rfl (by decide) (fun s => (of_part s).2.2.2.2.2.2.2.2.2.2.1) all;have n4 := fold_num maxStale 1099511627776 false Ctl.ms least endStep_least (fun n h => least_none' n h) (fun _ _ => rfl) rfl (by decide) (fun s => (of_part s).2.2.2.2.2.2.2.2.2.2.2) all;rw [any_named] at f1 f2 f3 f4 f5 f6 f7 f8;unfold readR;rw [← f1, ← f2, ← f3, ← f4, ← f5, ← f6, ← f7, ← f8, ← n1, ← n2, ← n3, ← n4]
end Go.Dr
