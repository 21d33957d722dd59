
/- The walk of the reference's dates: may a date's parts be (printed by rightgen.py). -/
import Derived.Test.YtghggooaaefdcaaGreatDoorRdt1
import Derived.BigQuiet
namespace Go.Proofs.YtghggooaaefdcaaGreatDoor
open Go.RowKit Go.Dr

set_option maxRecDepth 100000 in
set_option maxHeartbeats 2000000 in
theorem right_y1 (y : Int) (m : Nat) (d h i s : Int) (g0 : decide (1970 ≤ y) = false) (w : World) : Calls Tryz.prog 96 #[.agg #[.int .i64 y, .int .i64 (m : Nat), .int .i64 d, .int .i64 h, .int .i64 i, .int .i64 s, .int .i64 0]] w fun e w' => e = .returned (.bool false) ∧ Below w.heap.size w w' := by
  have hX := Blk.new w 106 #[.int .i64 y, .int .i64 (m : Nat), .int .i64 d, .int .i64 h, .int .i64 i, .int .i64 s, .int .i64 0]
  have hb0 : Below w.heap.size w (w.alloc (.cells #[.int .i64 y, .int .i64 (m : Nat), .int .i64 d, .int .i64 h, .int .i64 i, .int .i64 s, .int .i64 0] 106)) := (Below.refl _ _).alloc (Nat.le_refl _) _
  go_enter Tryz.func96, Tryz.ntmps96
  go_wp2_with fail
  generalize w.alloc (.cells #[.int .i64 y, .int .i64 (m : Nat), .int .i64 d, .int .i64 h, .int .i64 i, .int .i64 s, .int .i64 0] 106) = w0 at *
  (have k0 : w0.cell? ⟨w.heap.size, 0, none⟩ = some (.int .i64 y) := hX.cell 0; have k1 : w0.cell? ⟨w.heap.size, 1, none⟩ = some (.int .i64 (m : Nat)) := hX.cell 1; have k2 : w0.cell? ⟨w.heap.size, 2, none⟩ = some (.int .i64 d) := hX.cell 2; have k3 : w0.cell? ⟨w.heap.size, 3, none⟩ = some (.int .i64 h) := hX.cell 3; have k4 : w0.cell? ⟨w.heap.size, 4, none⟩ = some (.int .i64 i) := hX.cell 4; have k5 : w0.cell? ⟨w.heap.size, 5, none⟩ = some (.int .i64 s) := hX.cell 5; have k6 : w0.cell? ⟨w.heap.size, 6, none⟩ = some (.int .i64 0) := hX.cell 6)
  go_quiet (fail)
  go_wp2
  go_ret
  exact ⟨rfl, below_drewN hb0 _⟩

set_option maxRecDepth 100000 in
set_option maxHeartbeats 2000000 in
theorem right_y2 (y : Int) (m : Nat) (d h i s : Int) (g0 : decide (1970 ≤ y) = true) (g1 : decide (y ≤ 9999) = false) (w : World) : Calls Tryz.prog 96 #[.agg #[.int .i64 y, .int .i64 (m : Nat), .int .i64 d, .int .i64 h, .int .i64 i, .int .i64 s, .int .i64 0]] w fun e w' => e = .returned (.bool false) ∧ Below w.heap.size w w' := by
  have hX := Blk.new w 106 #[.int .i64 y, .int .i64 (m : Nat), .int .i64 d, .int .i64 h, .int .i64 i, .int .i64 s, .int .i64 0]
  have hb0 : Below w.heap.size w (w.alloc (.cells #[.int .i64 y, .int .i64 (m : Nat), .int .i64 d, .int .i64 h, .int .i64 i, .int .i64 s, .int .i64 0] 106)) := (Below.refl _ _).alloc (Nat.le_refl _) _
  go_enter Tryz.func96, Tryz.ntmps96
  go_wp2_with fail
  generalize w.alloc (.cells #[.int .i64 y, .int .i64 (m : Nat), .int .i64 d, .int .i64 h, .int .i64 i, .int .i64 s, .int .i64 0] 106) = w0 at *
  (have k0 : w0.cell? ⟨w.heap.size, 0, none⟩ = some (.int .i64 y) := hX.cell 0; have k1 : w0.cell? ⟨w.heap.size, 1, none⟩ = some (.int .i64 (m : Nat)) := hX.cell 1; have k2 : w0.cell? ⟨w.heap.size, 2, none⟩ = some (.int .i64 d) := hX.cell 2; have k3 : w0.cell? ⟨w.heap.size, 3, none⟩ = some (.int .i64 h) := hX.cell 3; have k4 : w0.cell? ⟨w.heap.size, 4, none⟩ = some (.int .i64 i) := hX.cell 4; have k5 : w0.cell? ⟨w.heap.size, 5, none⟩ = some (.int .i64 s) := hX.cell 5; have k6 : w0.cell? ⟨w.heap.size, 6, none⟩ = some (.int .i64 0) := hX.cell 6)
  go_quiet (fail)
  go_wp2
  go_ret
  exact ⟨rfl, below_drewN hb0 _⟩

set_option maxRecDepth 100000 in
set_option maxHeartbeats 2000000 in
theorem right_m1 (y : Int) (m : Nat) (d h i s : Int) (g0 : decide (1970 ≤ y) = true) (g1 : decide (y ≤ 9999) = true) (g2 : decide (1 ≤ (m : Int)) = false) (w : World) : Calls Tryz.prog 96 #[.agg #[.int .i64 y, .int .i64 (m : Nat), .int .i64 d, .int .i64 h, .int .i64 i, .int .i64 s, .int .i64 0]] w fun e w' => e = .returned (.bool false) ∧ Below w.heap.size w w' := by
  have hX := Blk.new w 106 #[.int .i64 y, .int .i64 (m : Nat), .int .i64 d, .int .i64 h, .int .i64 i, .int .i64 s, .int .i64 0]
  have hb0 : Below w.heap.size w (w.alloc (.cells #[.int .i64 y, .int .i64 (m : Nat), .int .i64 d, .int .i64 h, .int .i64 i, .int .i64 s, .int .i64 0] 106)) := (Below.refl _ _).alloc (Nat.le_refl _) _
  go_enter Tryz.func96, Tryz.ntmps96
  go_wp2_with fail
  generalize w.alloc (.cells #[.int .i64 y, .int .i64 (m : Nat), .int .i64 d, .int .i64 h, .int .i64 i, .int .i64 s, .int .i64 0] 106) = w0 at *
  (have k0 : w0.cell? ⟨w.heap.size, 0, none⟩ = some (.int .i64 y) := hX.cell 0; have k1 : w0.cell? ⟨w.heap.size, 1, none⟩ = some (.int .i64 (m : Nat)) := hX.cell 1; have k2 : w0.cell? ⟨w.heap.size, 2, none⟩ = some (.int .i64 d) := hX.cell 2; have k3 : w0.cell? ⟨w.heap.size, 3, none⟩ = some (.int .i64 h) := hX.cell 3; have k4 : w0.cell? ⟨w.heap.size, 4, none⟩ = some (.int .i64 i) := hX.cell 4; have k5 : w0.cell? ⟨w.heap.size, 5, none⟩ = some (.int .i64 s) := hX.cell 5; have k6 : w0.cell? ⟨w.heap.size, 6, none⟩ = some (.int .i64 0) := hX.cell 6)
  go_quiet (fail)
  go_wp2
  go_ret
  exact ⟨rfl, below_drewN hb0 _⟩

set_option maxRecDepth 100000 in
set_option maxHeartbeats 2000000 in
theorem right_d1 (y : Int) (m : Nat) (d h i s : Int) (g0 : decide (1970 ≤ y) = true) (g1 : decide (y ≤ 9999) = true) (g2 : decide (1 ≤ (m : Int)) = true) (g3 : decide (1 ≤ d) = false) (w : World) : Calls Tryz.prog 96 #[.agg #[.int .i64 y, .int .i64 (m : Nat), .int .i64 d, .int .i64 h, .int .i64 i, .int .i64 s, .int .i64 0]] w fun e w' => e = .returned (.bool false) ∧ Below w.heap.size w w' := by
  have hX := Blk.new w 106 #[.int .i64 y, .int .i64 (m : Nat), .int .i64 d, .int .i64 h, .int .i64 i, .int .i64 s, .int .i64 0]
  have hb0 : Below w.heap.size w (w.alloc (.cells #[.int .i64 y, .int .i64 (m : Nat), .int .i64 d, .int .i64 h, .int .i64 i, .int .i64 s, .int .i64 0] 106)) := (Below.refl _ _).alloc (Nat.le_refl _) _
  go_enter Tryz.func96, Tryz.ntmps96
  go_wp2_with fail
  generalize w.alloc (.cells #[.int .i64 y, .int .i64 (m : Nat), .int .i64 d, .int .i64 h, .int .i64 i, .int .i64 s, .int .i64 0] 106) = w0 at *
  (have k0 : w0.cell? ⟨w.heap.size, 0, none⟩ = some (.int .i64 y) := hX.cell 0; have k1 : w0.cell? ⟨w.heap.size, 1, none⟩ = some (.int .i64 (m : Nat)) := hX.cell 1; have k2 : w0.cell? ⟨w.heap.size, 2, none⟩ = some (.int .i64 d) := hX.cell 2; have k3 : w0.cell? ⟨w.heap.size, 3, none⟩ = some (.int .i64 h) := hX.cell 3; have k4 : w0.cell? ⟨w.heap.size, 4, none⟩ = some (.int .i64 i) := hX.cell 4; have k5 : w0.cell? ⟨w.heap.size, 5, none⟩ = some (.int .i64 s) := hX.cell 5; have k6 : w0.cell? ⟨w.heap.size, 6, none⟩ = some (.int .i64 0) := hX.cell 6)
  go_quiet (fail)
  go_wp2
  go_ret
  exact ⟨rfl, below_drewN hb0 _⟩

set_option maxRecDepth 100000 in
set_option maxHeartbeats 2000000 in
theorem right_dL (y : Int) (m : Nat) (d h i s : Int) (L : Nat) (C : ∀ (w : World) (n : Nat), Calls Tryz.prog 121 #[.int .i64 y, .int .i64 (m : Nat)] (w.drewN n) fun e w' => e = .returned (.int .i64 (L : Nat)) ∧ w' = w.drewN n) (g0 : decide (1970 ≤ y) = true) (g1 : decide (y ≤ 9999) = true) (g2 : decide (1 ≤ (m : Int)) = true) (g3 : decide (1 ≤ d) = true) (g4 : decide (d ≤ (L : Int)) = false) (w : World) : Calls Tryz.prog 96 #[.agg #[.int .i64 y, .int .i64 (m : Nat), .int .i64 d, .int .i64 h, .int .i64 i, .int .i64 s, .int .i64 0]] w fun e w' => e = .returned (.bool false) ∧ Below w.heap.size w w' := by
  have C := Lib.hid C
  have hX := Blk.new w 106 #[.int .i64 y, .int .i64 (m : Nat), .int .i64 d, .int .i64 h, .int .i64 i, .int .i64 s, .int .i64 0]
  have hb0 : Below w.heap.size w (w.alloc (.cells #[.int .i64 y, .int .i64 (m : Nat), .int .i64 d, .int .i64 h, .int .i64 i, .int .i64 s, .int .i64 0] 106)) := (Below.refl _ _).alloc (Nat.le_refl _) _
  go_enter Tryz.func96, Tryz.ntmps96
  go_wp2_with fail
  generalize w.alloc (.cells #[.int .i64 y, .int .i64 (m : Nat), .int .i64 d, .int .i64 h, .int .i64 i, .int .i64 s, .int .i64 0] 106) = w0 at *
  (have k0 : w0.cell? ⟨w.heap.size, 0, none⟩ = some (.int .i64 y) := hX.cell 0; have k1 : w0.cell? ⟨w.heap.size, 1, none⟩ = some (.int .i64 (m : Nat)) := hX.cell 1; have k2 : w0.cell? ⟨w.heap.size, 2, none⟩ = some (.int .i64 d) := hX.cell 2; have k3 : w0.cell? ⟨w.heap.size, 3, none⟩ = some (.int .i64 h) := hX.cell 3; have k4 : w0.cell? ⟨w.heap.size, 4, none⟩ = some (.int .i64 i) := hX.cell 4; have k5 : w0.cell? ⟨w.heap.size, 5, none⟩ = some (.int .i64 s) := hX.cell 5; have k6 : w0.cell? ⟨w.heap.size, 6, none⟩ = some (.int .i64 0) := hX.cell 6)
  go_quiet ((go_at_call 121; exact Calls.quiet_of_same (C.out _ _)))
  go_wp2
  go_ret
  exact ⟨rfl, below_drewN hb0 _⟩

set_option maxRecDepth 100000 in
set_option maxHeartbeats 2000000 in
theorem right_h1 (y : Int) (m : Nat) (d h i s : Int) (L : Nat) (C : ∀ (w : World) (n : Nat), Calls Tryz.prog 121 #[.int .i64 y, .int .i64 (m : Nat)] (w.drewN n) fun e w' => e = .returned (.int .i64 (L : Nat)) ∧ w' = w.drewN n) (g0 : decide (1970 ≤ y) = true) (g1 : decide (y ≤ 9999) = true) (g2 : decide (1 ≤ (m : Int)) = true) (g3 : decide (1 ≤ d) = true) (g4 : decide (d ≤ (L : Int)) = true) (g5 : decide (0 ≤ h) = false) (w : World) : Calls Tryz.prog 96 #[.agg #[.int .i64 y, .int .i64 (m : Nat), .int .i64 d, .int .i64 h, .int .i64 i, .int .i64 s, .int .i64 0]] w fun e w' => e = .returned (.bool false) ∧ Below w.heap.size w w' := by
  have C := Lib.hid C
  have hX := Blk.new w 106 #[.int .i64 y, .int .i64 (m : Nat), .int .i64 d, .int .i64 h, .int .i64 i, .int .i64 s, .int .i64 0]
  have hb0 : Below w.heap.size w (w.alloc (.cells #[.int .i64 y, .int .i64 (m : Nat), .int .i64 d, .int .i64 h, .int .i64 i, .int .i64 s, .int .i64 0] 106)) := (Below.refl _ _).alloc (Nat.le_refl _) _
  go_enter Tryz.func96, Tryz.ntmps96
  go_wp2_with fail
  generalize w.alloc (.cells #[.int .i64 y, .int .i64 (m : Nat), .int .i64 d, .int .i64 h, .int .i64 i, .int .i64 s, .int .i64 0] 106) = w0 at *
  (have k0 : w0.cell? ⟨w.heap.size, 0, none⟩ = some (.int .i64 y) := hX.cell 0; have k1 : w0.cell? ⟨w.heap.size, 1, none⟩ = some (.int .i64 (m : Nat)) := hX.cell 1; have k2 : w0.cell? ⟨w.heap.size, 2, none⟩ = some (.int .i64 d) := hX.cell 2; have k3 : w0.cell? ⟨w.heap.size, 3, none⟩ = some (.int .i64 h) := hX.cell 3; have k4 : w0.cell? ⟨w.heap.size, 4, none⟩ = some (.int .i64 i) := hX.cell 4; have k5 : w0.cell? ⟨w.heap.size, 5, none⟩ = some (.int .i64 s) := hX.cell 5; have k6 : w0.cell? ⟨w.heap.size, 6, none⟩ = some (.int .i64 0) := hX.cell 6)
  go_quiet ((go_at_call 121; exact Calls.quiet_of_same (C.out _ _)))
  go_wp2
  go_ret
  exact ⟨rfl, below_drewN hb0 _⟩

set_option maxRecDepth 100000 in
set_option maxHeartbeats 2000000 in
theorem right_h2 (y : Int) (m : Nat) (d h i s : Int) (L : Nat) (C : ∀ (w : World) (n : Nat), Calls Tryz.prog 121 #[.int .i64 y, .int .i64 (m : Nat)] (w.drewN n) fun e w' => e = .returned (.int .i64 (L : Nat)) ∧ w' = w.drewN n) (g0 : decide (1970 ≤ y) = true) (g1 : decide (y ≤ 9999) = true) (g2 : decide (1 ≤ (m : Int)) = true) (g3 : decide (1 ≤ d) = true) (g4 : decide (d ≤ (L : Int)) = true) (g5 : decide (0 ≤ h) = true) (g6 : decide (h ≤ 23) = false) (w : World) : Calls Tryz.prog 96 #[.agg #[.int .i64 y, .int .i64 (m : Nat), .int .i64 d, .int .i64 h, .int .i64 i, .int .i64 s, .int .i64 0]] w fun e w' => e = .returned (.bool false) ∧ Below w.heap.size w w' := by
  have C := Lib.hid C
  have hX := Blk.new w 106 #[.int .i64 y, .int .i64 (m : Nat), .int .i64 d, .int .i64 h, .int .i64 i, .int .i64 s, .int .i64 0]
  have hb0 : Below w.heap.size w (w.alloc (.cells #[.int .i64 y, .int .i64 (m : Nat), .int .i64 d, .int .i64 h, .int .i64 i, .int .i64 s, .int .i64 0] 106)) := (Below.refl _ _).alloc (Nat.le_refl _) _
  go_enter Tryz.func96, Tryz.ntmps96
  go_wp2_with fail
  generalize w.alloc (.cells #[.int .i64 y, .int .i64 (m : Nat), .int .i64 d, .int .i64 h, .int .i64 i, .int .i64 s, .int .i64 0] 106) = w0 at *
  (have k0 : w0.cell? ⟨w.heap.size, 0, none⟩ = some (.int .i64 y) := hX.cell 0; have k1 : w0.cell? ⟨w.heap.size, 1, none⟩ = some (.int .i64 (m : Nat)) := hX.cell 1; have k2 : w0.cell? ⟨w.heap.size, 2, none⟩ = some (.int .i64 d) := hX.cell 2; have k3 : w0.cell? ⟨w.heap.size, 3, none⟩ = some (.int .i64 h) := hX.cell 3; have k4 : w0.cell? ⟨w.heap.size, 4, none⟩ = some (.int .i64 i) := hX.cell 4; have k5 : w0.cell? ⟨w.heap.size, 5, none⟩ = some (.int .i64 s) := hX.cell 5; have k6 : w0.cell? ⟨w.heap.size, 6, none⟩ = some (.int .i64 0) := hX.cell 6)
  go_quiet ((go_at_call 121; exact Calls.quiet_of_same (C.out _ _)))
  go_wp2
  go_ret
  exact ⟨rfl, below_drewN hb0 _⟩

set_option maxRecDepth 100000 in
set_option maxHeartbeats 2000000 in
theorem right_i1 (y : Int) (m : Nat) (d h i s : Int) (L : Nat) (C : ∀ (w : World) (n : Nat), Calls Tryz.prog 121 #[.int .i64 y, .int .i64 (m : Nat)] (w.drewN n) fun e w' => e = .returned (.int .i64 (L : Nat)) ∧ w' = w.drewN n) (g0 : decide (1970 ≤ y) = true) (g1 : decide (y ≤ 9999) = true) (g2 : decide (1 ≤ (m : Int)) = true) (g3 : decide (1 ≤ d) = true) (g4 : decide (d ≤ (L : Int)) = true) (g5 : decide (0 ≤ h) = true) (g6 : decide (h ≤ 23) = true) (g7 : decide (0 ≤ i) = false) (w : World) : Calls Tryz.prog 96 #[.agg #[.int .i64 y, .int .i64 (m : Nat), .int .i64 d, .int .i64 h, .int .i64 i, .int .i64 s, .int .i64 0]] w fun e w' => e = .returned (.bool false) ∧ Below w.heap.size w w' := by
  have C := Lib.hid C
  have hX := Blk.new w 106 #[.int .i64 y, .int .i64 (m : Nat), .int .i64 d, .int .i64 h, .int .i64 i, .int .i64 s, .int .i64 0]
  have hb0 : Below w.heap.size w (w.alloc (.cells #[.int .i64 y, .int .i64 (m : Nat), .int .i64 d, .int .i64 h, .int .i64 i, .int .i64 s, .int .i64 0] 106)) := (Below.refl _ _).alloc (Nat.le_refl _) _
  go_enter Tryz.func96, Tryz.ntmps96
  go_wp2_with fail
  generalize w.alloc (.cells #[.int .i64 y, .int .i64 (m : Nat), .int .i64 d, .int .i64 h, .int .i64 i, .int .i64 s, .int .i64 0] 106) = w0 at *
  (have k0 : w0.cell? ⟨w.heap.size, 0, none⟩ = some (.int .i64 y) := hX.cell 0; have k1 : w0.cell? ⟨w.heap.size, 1, none⟩ = some (.int .i64 (m : Nat)) := hX.cell 1; have k2 : w0.cell? ⟨w.heap.size, 2, none⟩ = some (.int .i64 d) := hX.cell 2; have k3 : w0.cell? ⟨w.heap.size, 3, none⟩ = some (.int .i64 h) := hX.cell 3; have k4 : w0.cell? ⟨w.heap.size, 4, none⟩ = some (.int .i64 i) := hX.cell 4; have k5 : w0.cell? ⟨w.heap.size, 5, none⟩ = some (.int .i64 s) := hX.cell 5; have k6 : w0.cell? ⟨w.heap.size, 6, none⟩ = some (.int .i64 0) := hX.cell 6)
  go_quiet ((go_at_call 121; exact Calls.quiet_of_same (C.out _ _)))
  go_wp2
  go_ret
  exact ⟨rfl, below_drewN hb0 _⟩

set_option maxRecDepth 100000 in
set_option maxHeartbeats 2000000 in
theorem right_i2 (y : Int) (m : Nat) (d h i s : Int) (L : Nat) (C : ∀ (w : World) (n : Nat), Calls Tryz.prog 121 #[.int .i64 y, .int .i64 (m : Nat)] (w.drewN n) fun e w' => e = .returned (.int .i64 (L : Nat)) ∧ w' = w.drewN n) (g0 : decide (1970 ≤ y) = true) (g1 : decide (y ≤ 9999) = true) (g2 : decide (1 ≤ (m : Int)) = true) (g3 : decide (1 ≤ d) = true) (g4 : decide (d ≤ (L : Int)) = true) (g5 : decide (0 ≤ h) = true) (g6 : decide (h ≤ 23) = true) (g7 : decide (0 ≤ i) = true) (g8 : decide (i ≤ 59) = false) (w : World) : Calls Tryz.prog 96 #[.agg #[.int .i64 y, .int .i64 (m : Nat), .int .i64 d, .int .i64 h, .int .i64 i, .int .i64 s, .int .i64 0]] w fun e w' => e = .returned (.bool false) ∧ Below w.heap.size w w' := by
  have C := Lib.hid C
  have hX := Blk.new w 106 #[.int .i64 y, .int .i64 (m : Nat), .int .i64 d, .int .i64 h, .int .i64 i, .int .i64 s, .int .i64 0]
  have hb0 : Below w.heap.size w (w.alloc (.cells #[.int .i64 y, .int .i64 (m : Nat), .int .i64 d, .int .i64 h, .int .i64 i, .int .i64 s, .int .i64 0] 106)) := (Below.refl _ _).alloc (Nat.le_refl _) _
  go_enter Tryz.func96, Tryz.ntmps96
  go_wp2_with fail
  generalize w.alloc (.cells #[.int .i64 y, .int .i64 (m : Nat), .int .i64 d, .int .i64 h, .int .i64 i, .int .i64 s, .int .i64 0] 106) = w0 at *
  (have k0 : w0.cell? ⟨w.heap.size, 0, none⟩ = some (.int .i64 y) := hX.cell 0; have k1 : w0.cell? ⟨w.heap.size, 1, none⟩ = some (.int .i64 (m : Nat)) := hX.cell 1; have k2 : w0.cell? ⟨w.heap.size, 2, none⟩ = some (.int .i64 d) := hX.cell 2; have k3 : w0.cell? ⟨w.heap.size, 3, none⟩ = some (.int .i64 h) := hX.cell 3; have k4 : w0.cell? ⟨w.heap.size, 4, none⟩ = some (.int .i64 i) := hX.cell 4; have k5 : w0.cell? ⟨w.heap.size, 5, none⟩ = some (.int .i64 s) := hX.cell 5; have k6 : w0.cell? ⟨w.heap.size, 6, none⟩ = some (.int .i64 0) := hX.cell 6)
  go_quiet ((go_at_call 121; exact Calls.quiet_of_same (C.out _ _)))
  go_wp2
  go_ret
  exact ⟨rfl, below_drewN hb0 _⟩

set_option maxRecDepth 100000 in
set_option maxHeartbeats 2000000 in
theorem right_s1 (y : Int) (m : Nat) (d h i s : Int) (L : Nat) (C : ∀ (w : World) (n : Nat), Calls Tryz.prog 121 #[.int .i64 y, .int .i64 (m : Nat)] (w.drewN n) fun e w' => e = .returned (.int .i64 (L : Nat)) ∧ w' = w.drewN n) (g0 : decide (1970 ≤ y) = true) (g1 : decide (y ≤ 9999) = true) (g2 : decide (1 ≤ (m : Int)) = true) (g3 : decide (1 ≤ d) = true) (g4 : decide (d ≤ (L : Int)) = true) (g5 : decide (0 ≤ h) = true) (g6 : decide (h ≤ 23) = true) (g7 : decide (0 ≤ i) = true) (g8 : decide (i ≤ 59) = true) (g9 : decide (0 ≤ s) = false) (w : World) : Calls Tryz.prog 96 #[.agg #[.int .i64 y, .int .i64 (m : Nat), .int .i64 d, .int .i64 h, .int .i64 i, .int .i64 s, .int .i64 0]] w fun e w' => e = .returned (.bool false) ∧ Below w.heap.size w w' := by
  have C := Lib.hid C
  have hX := Blk.new w 106 #[.int .i64 y, .int .i64 (m : Nat), .int .i64 d, .int .i64 h, .int .i64 i, .int .i64 s, .int .i64 0]
  have hb0 : Below w.heap.size w (w.alloc (.cells #[.int .i64 y, .int .i64 (m : Nat), .int .i64 d, .int .i64 h, .int .i64 i, .int .i64 s, .int .i64 0] 106)) := (Below.refl _ _).alloc (Nat.le_refl _) _
  go_enter Tryz.func96, Tryz.ntmps96
  go_wp2_with fail
  generalize w.alloc (.cells #[.int .i64 y, .int .i64 (m : Nat), .int .i64 d, .int .i64 h, .int .i64 i, .int .i64 s, .int .i64 0] 106) = w0 at *
  (have k0 : w0.cell? ⟨w.heap.size, 0, none⟩ = some (.int .i64 y) := hX.cell 0; have k1 : w0.cell? ⟨w.heap.size, 1, none⟩ = some (.int .i64 (m : Nat)) := hX.cell 1; have k2 : w0.cell? ⟨w.heap.size, 2, none⟩ = some (.int .i64 d) := hX.cell 2; have k3 : w0.cell? ⟨w.heap.size, 3, none⟩ = some (.int .i64 h) := hX.cell 3; have k4 : w0.cell? ⟨w.heap.size, 4, none⟩ = some (.int .i64 i) := hX.cell 4; have k5 : w0.cell? ⟨w.heap.size, 5, none⟩ = some (.int .i64 s) := hX.cell 5; have k6 : w0.cell? ⟨w.heap.size, 6, none⟩ = some (.int .i64 0) := hX.cell 6)
  go_quiet ((go_at_call 121; exact Calls.quiet_of_same (C.out _ _)))
  go_wp2
  go_ret
  exact ⟨rfl, below_drewN hb0 _⟩

set_option maxRecDepth 100000 in
set_option maxHeartbeats 2000000 in
theorem right_s2 (y : Int) (m : Nat) (d h i s : Int) (L : Nat) (C : ∀ (w : World) (n : Nat), Calls Tryz.prog 121 #[.int .i64 y, .int .i64 (m : Nat)] (w.drewN n) fun e w' => e = .returned (.int .i64 (L : Nat)) ∧ w' = w.drewN n) (g0 : decide (1970 ≤ y) = true) (g1 : decide (y ≤ 9999) = true) (g2 : decide (1 ≤ (m : Int)) = true) (g3 : decide (1 ≤ d) = true) (g4 : decide (d ≤ (L : Int)) = true) (g5 : decide (0 ≤ h) = true) (g6 : decide (h ≤ 23) = true) (g7 : decide (0 ≤ i) = true) (g8 : decide (i ≤ 59) = true) (g9 : decide (0 ≤ s) = true) (g10 : decide (s ≤ 59) = false) (w : World) : Calls Tryz.prog 96 #[.agg #[.int .i64 y, .int .i64 (m : Nat), .int .i64 d, .int .i64 h, .int .i64 i, .int .i64 s, .int .i64 0]] w fun e w' => e = .returned (.bool false) ∧ Below w.heap.size w w' := by
  have C := Lib.hid C
  have hX := Blk.new w 106 #[.int .i64 y, .int .i64 (m : Nat), .int .i64 d, .int .i64 h, .int .i64 i, .int .i64 s, .int .i64 0]
  have hb0 : Below w.heap.size w (w.alloc (.cells #[.int .i64 y, .int .i64 (m : Nat), .int .i64 d, .int .i64 h, .int .i64 i, .int .i64 s, .int .i64 0] 106)) := (Below.refl _ _).alloc (Nat.le_refl _) _
  go_enter Tryz.func96, Tryz.ntmps96
  go_wp2_with fail
  generalize w.alloc (.cells #[.int .i64 y, .int .i64 (m : Nat), .int .i64 d, .int .i64 h, .int .i64 i, .int .i64 s, .int .i64 0] 106) = w0 at *
  (have k0 : w0.cell? ⟨w.heap.size, 0, none⟩ = some (.int .i64 y) := hX.cell 0; have k1 : w0.cell? ⟨w.heap.size, 1, none⟩ = some (.int .i64 (m : Nat)) := hX.cell 1; have k2 : w0.cell? ⟨w.heap.size, 2, none⟩ = some (.int .i64 d) := hX.cell 2; have k3 : w0.cell? ⟨w.heap.size, 3, none⟩ = some (.int .i64 h) := hX.cell 3; have k4 : w0.cell? ⟨w.heap.size, 4, none⟩ = some (.int .i64 i) := hX.cell 4; have k5 : w0.cell? ⟨w.heap.size, 5, none⟩ = some (.int .i64 s) := hX.cell 5; have k6 : w0.cell? ⟨w.heap.size, 6, none⟩ = some (.int .i64 0) := hX.cell 6)
  go_quiet ((go_at_call 121; exact Calls.quiet_of_same (C.out _ _)))
  go_wp2
  go_ret
  exact ⟨rfl, below_drewN hb0 _⟩

set_option maxRecDepth 100000 in
set_option maxHeartbeats 2000000 in
theorem right_all (y : Int) (m : Nat) (d h i s : Int) (L : Nat) (C : ∀ (w : World) (n : Nat), Calls Tryz.prog 121 #[.int .i64 y, .int .i64 (m : Nat)] (w.drewN n) fun e w' => e = .returned (.int .i64 (L : Nat)) ∧ w' = w.drewN n) (g0 : decide (1970 ≤ y) = true) (g1 : decide (y ≤ 9999) = true) (g2 : decide (1 ≤ (m : Int)) = true) (g3 : decide (1 ≤ d) = true) (g4 : decide (d ≤ (L : Int)) = true) (g5 : decide (0 ≤ h) = true) (g6 : decide (h ≤ 23) = true) (g7 : decide (0 ≤ i) = true) (g8 : decide (i ≤ 59) = true) (g9 : decide (0 ≤ s) = true) (g10 : decide (s ≤ 59) = true) (w : World) : Calls Tryz.prog 96 #[.agg #[.int .i64 y, .int .i64 (m : Nat), .int .i64 d, .int .i64 h, .int .i64 i, .int .i64 s, .int .i64 0]] w fun e w' => e = .returned (.bool true) ∧ Below w.heap.size w w' := by
  have C := Lib.hid C
  have hX := Blk.new w 106 #[.int .i64 y, .int .i64 (m : Nat), .int .i64 d, .int .i64 h, .int .i64 i, .int .i64 s, .int .i64 0]
  have hb0 : Below w.heap.size w (w.alloc (.cells #[.int .i64 y, .int .i64 (m : Nat), .int .i64 d, .int .i64 h, .int .i64 i, .int .i64 s, .int .i64 0] 106)) := (Below.refl _ _).alloc (Nat.le_refl _) _
  go_enter Tryz.func96, Tryz.ntmps96
  go_wp2_with fail
  generalize w.alloc (.cells #[.int .i64 y, .int .i64 (m : Nat), .int .i64 d, .int .i64 h, .int .i64 i, .int .i64 s, .int .i64 0] 106) = w0 at *
  (have k0 : w0.cell? ⟨w.heap.size, 0, none⟩ = some (.int .i64 y) := hX.cell 0; have k1 : w0.cell? ⟨w.heap.size, 1, none⟩ = some (.int .i64 (m : Nat)) := hX.cell 1; have k2 : w0.cell? ⟨w.heap.size, 2, none⟩ = some (.int .i64 d) := hX.cell 2; have k3 : w0.cell? ⟨w.heap.size, 3, none⟩ = some (.int .i64 h) := hX.cell 3; have k4 : w0.cell? ⟨w.heap.size, 4, none⟩ = some (.int .i64 i) := hX.cell 4; have k5 : w0.cell? ⟨w.heap.size, 5, none⟩ = some (.int .i64 s) := hX.cell 5; have k6 : w0.cell? ⟨w.heap.size, 6, none⟩ = some (.int .i64 0) := hX.cell 6)
  go_quiet ((go_at_call 121; exact Calls.quiet_of_same (C.out _ _)))
  go_wp2
  go_ret
  exact ⟨rfl, below_drewN hb0 _⟩


theorem right_any (g : Gs) (hm : g.month ≤ 12) (w : World) : Calls Tryz.prog 96 #[.agg #[.int .i64 g.year, .int .i64 (g.month : Nat), .int .i64 g.day, .int .i64 g.hour, .int .i64 g.min, .int .i64 g.sec, .int .i64 0]] w fun e w' => e = .returned (.bool (rightG g)) ∧ Below w.heap.size w w' := by
  obtain ⟨y, m, d, h, i, s⟩ := g
  simp only at hm ⊢
  have no : (¬ (1970 ≤ y ∧ y ≤ 9999 ∧ 1 ≤ m ∧ 1 ≤ d ∧ d ≤ (mLen y.toNat (m - 1) : Nat) ∧ 0 ≤ h ∧ h ≤ 23 ∧ 0 ≤ i ∧ i ≤ 59 ∧ 0 ≤ s ∧ s ≤ 59)) → rightG ⟨y, m, d, h, i, s⟩ = false := fun e => by simp only [rightG, decide_eq_false_iff_not]; exact e
  by_cases e0 : 1970 ≤ y
  case neg =>
    rw [no (by intro e; exact e0 e.1)]
    exact right_y1 y m d h i s (by simp; omega) w
  by_cases e1 : y ≤ 9999
  case neg =>
    rw [no (by intro e; exact e1 e.2.1)]
    exact right_y2 y m d h i s (by simp; omega) (by simp; omega) w
  by_cases e2 : 1 ≤ m
  case neg =>
    rw [no (by intro e; exact e2 e.2.2.1)]
    exact right_m1 y m d h i s (by simp; omega) (by simp; omega) (by simp; omega) w
  by_cases e3 : 1 ≤ d
  case neg =>
    rw [no (by intro e; exact e3 e.2.2.2.1)]
    exact right_d1 y m d h i s (by simp; omega) (by simp; omega) (by simp; omega) (by simp; omega) w
  have C : ∀ (w : World) (n : Nat), Calls Tryz.prog 121 #[.int .i64 y, .int .i64 (m : Nat)] (w.drewN n) fun e w' => e = .returned (.int .i64 (mLen y.toNat (m - 1) : Nat)) ∧ w' = w.drewN n := fun w n => by
    have := refDays_any y.toNat (m - 1) (m : Int) (w.drewN n) (by omega) (by omega) (by omega)
    rw [show ((y.toNat : Nat) : Int) = y by omega] at this
    exact this.mono fun _ _ ⟨h1, h2⟩ => ⟨h1, h2.symm⟩
  by_cases e4 : d ≤ (mLen y.toNat (m - 1) : Nat)
  case neg =>
    rw [no (by intro e; exact e4 e.2.2.2.2.1)]
    exact right_dL y m d h i s (mLen y.toNat (m - 1)) C (by simp; omega) (by simp; omega) (by simp; omega) (by simp; omega) (by simp; omega) w
  by_cases e5 : 0 ≤ h
  case neg =>
    rw [no (by intro e; exact e5 e.2.2.2.2.2.1)]
    exact right_h1 y m d h i s (mLen y.toNat (m - 1)) C (by simp; omega) (by simp; omega) (by simp; omega) (by simp; omega) (by simp; omega) (by simp; omega) w
  by_cases e6 : h ≤ 23
  case neg =>
    rw [no (by intro e; exact e6 e.2.2.2.2.2.2.1)]
    exact right_h2 y m d h i s (mLen y.toNat (m - 1)) C (by simp; omega) (by simp; omega) (by simp; omega) (by simp; omega) (by simp; omega) (by simp; omega) (by simp; omega) w
  by_cases e7 : 0 ≤ i
  case neg =>
    rw [no (by intro e; exact e7 e.2.2.2.2.2.2.2.1)]
    exact right_i1 y m d h i s (mLen y.toNat (m - 1)) C (by simp; omega) (by simp; omega) (by simp; omega) (by simp; omega) (by simp; omega) (by simp; omega) (by simp; omega) (by simp; omega) w
  by_cases e8 : i ≤ 59
  case neg =>
    rw [no (by intro e; exact e8 e.2.2.2.2.2.2.2.2.1)]
    exact right_i2 y m d h i s (mLen y.toNat (m - 1)) C (by simp; omega) (by simp; omega) (by simp; omega) (by simp; omega) (by simp; omega) (by simp; omega) (by simp; omega) (by simp; omega) (by simp; omega) w
  by_cases e9 : 0 ≤ s
  case neg =>
    rw [no (by intro e; exact e9 e.2.2.2.2.2.2.2.2.2.1)]
    exact right_s1 y m d h i s (mLen y.toNat (m - 1)) C (by simp; omega) (by simp; omega) (by simp; omega) (by simp; omega) (by simp; omega) (by simp; omega) (by simp; omega) (by simp; omega) (by simp; omega) (by simp; omega) w
  by_cases e10 : s ≤ 59
  case neg =>
    rw [no (by intro e; exact e10 e.2.2.2.2.2.2.2.2.2.2)]
    exact right_s2 y m d h i s (mLen y.toNat (m - 1)) C (by simp; omega) (by simp; omega) (by simp; omega) (by simp; omega) (by simp; omega) (by simp; omega) (by simp; omega) (by simp; omega) (by simp; omega) (by simp; omega) (by simp; omega) w
  rw [show rightG ⟨y, m, d, h, i, s⟩ = true by simp only [rightG, decide_eq_true_iff]; exact ⟨e0, e1, e2, e3, e4, e5, e6, e7, e8, e9, e10⟩]
  exact right_all y m d h i s (mLen y.toNat (m - 1)) C (by simp; omega) (by simp; omega) (by simp; omega) (by simp; omega) (by simp; omega) (by simp; omega) (by simp; omega) (by simp; omega) (by simp; omega) (by simp; omega) (by simp; omega) w
end Go.Proofs.YtghggooaaefdcaaGreatDoor
