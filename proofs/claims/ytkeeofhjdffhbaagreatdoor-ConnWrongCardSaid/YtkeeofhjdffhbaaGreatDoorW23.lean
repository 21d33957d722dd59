/- Parts of the proof of wr_root: the texts Put4 Law22b Law22c Law22d Cnc1. -/
import Derived.Maps.RangeWalk
import Derived.Test.YtkeeofhjdffhbaaGreatDoorW22
set_option linter.unusedSimpArgs false
set_option linter.unusedVariables false
set_option linter.unnecessarySimpa false
namespace Go.Proofs.YtkeeofhjdffhbaaGreatDoor
open Go.RowKit Go.Dr
set_option maxRecDepth 100000 in
set_option maxHeartbeats 4000000 in
theorem ranges_Hd5 (l : Bytes) (hl : l.length ≤ 16384) (w : World) : Calls Tryz.prog 73 #[.agg #[.int .i64 1, .int .i64 5, .int .i64 1, S l, .int .i64 0, .slice none 0 0, .int .i64 0, .int .i64 0, .int .i64 0, .int .i64 0, .int .i64 0, .bool false]] w fun e w' => e = .returned (.bool true) ∧ Below w.heap.size w w' := by
 have hF : Blk (w.alloc (.cells #[.int .i64 1, .int .i64 5, .int .i64 1, S l, .int .i64 0, .slice none 0 0, .int .i64 0, .int .i64 0, .int .i64 0, .int .i64 0, .int .i64 0, .bool false] 34)) w.heap.size 34 #[.int .i64 1, .int .i64 5, .int .i64 1, S l, .int .i64 0, .slice none 0 0, .int .i64 0, .int .i64 0, .int .i64 0, .int .i64 0, .int .i64 0, .bool false] := Blk.new _ _ _
 (have g0 : (w.alloc (.cells #[.int .i64 1, .int .i64 5, .int .i64 1, S l, .int .i64 0, .slice none 0 0, .int .i64 0, .int .i64 0, .int .i64 0, .int .i64 0, .int .i64 0, .bool false] 34)).cell? ⟨w.heap.size, 0, none⟩ = some (.int .i64 1) := hF.cell 0;have g1 : (w.alloc (.cells #[.int .i64 1, .int .i64 5, .int .i64 1, S l, .int .i64 0, .slice none 0 0, .int .i64 0, .int .i64 0, .int .i64 0, .int .i64 0, .int .i64 0, .bool false] 34)).cell? ⟨w.heap.size, 1, none⟩ = some (.int .i64 5) := hF.cell 1;have g2 : (w.alloc (.cells #[.int .i64 1, .int .i64 5, .int .i64 1, S l, .int .i64 0, .slice none 0 0, .int .i64 0, .int .i64 0, .int .i64 0, .int .i64 0, .int .i64 0, .bool false] 34)).cell? ⟨w.heap.size, 2, none⟩ = some (.int .i64 1) := hF.cell 2;have g3 : (w.alloc (.cells #[.int .i64 1, .int .i64 5, .int .i64 1, S l, .int .i64 0, .slice none 0 0, .int .i64 0, .int .i64 0, .int .i64 0, .int .i64 0, .int .i64 0, .bool false] 34)).cell? ⟨w.heap.size, 3, none⟩ = some (S l) := hF.cell 3;have g4 : (w.alloc (.cells #[.int .i64 1, .int .i64 5, .int .i64 1, S l, .int .i64 0, .slice none 0 0, .int .i64 0, .int .i64 0, .int .i64 0, .int .i64 0, .int .i64 0, .bool false] 34)).cell? ⟨w.heap.size, 4, none⟩ = some (.int .i64 0) := hF.cell 4;have g5 : (w.alloc (.cells #[.int .i64 1, .int .i64 5, .int .i64 1, S l, .int .i64 0, .slice none 0 0, .int .i64 0, .int .i64 0, .int .i64 0, .int .i64 0, .int .i64 0, .bool false] 34)).cell? ⟨w.heap.size, 5, none⟩ = some (.slice none 0 0) := hF.cell 5;have g6 : (w.alloc (.cells #[.int .i64 1, .int .i64 5, .int .i64 1, S l, .int .i64 0, .slice none 0 0, .int .i64 0, .int .i64 0, .int .i64 0, .int .i64 0, .int .i64 0, .bool false] 34)).cell? ⟨w.heap.size, 6, none⟩ = some (.int .i64 0) := hF.cell 6;have g7 : (w.alloc (.cells #[.int .i64 1, .int .i64 5, .int .i64 1, S l, .int .i64 0, .slice none 0 0, .int .i64 0, .int .i64 0, .int .i64 0, .int .i64 0, .int .i64 0, .bool false] 34)).cell? ⟨w.heap.size, 7, none⟩ = some (.int .i64 0) := hF.cell 7;have g8 : (w.alloc (.cells #[.int .i64 1, .int .i64 5, .int .i64 1, S l, .int .i64 0, .slice none 0 0, .int .i64 0, .int .i64 0, .int .i64 0, .int .i64 0, .int .i64 0, .bool false] 34)).cell? ⟨w.heap.size, 8, none⟩ = some (.int .i64 0) := hF.cell 8;have g9 : (w.alloc (.cells #[.int .i64 1, .int .i64 5, .int .i64 1, S l, .int .i64 0, .slice none 0 0, .int .i64 0, .int .i64 0, .int .i64 0, .int .i64 0, .int .i64 0, .bool false] 34)).cell? ⟨w.heap.size, 9, none⟩ = some (.int .i64 0) := hF.cell 9;have g10 : (w.alloc (.cells #[.int .i64 1, .int .i64 5, .int .i64 1, S l, .int .i64 0, .slice none 0 0, .int .i64 0, .int .i64 0, .int .i64 0, .int .i64 0, .int .i64 0, .bool false] 34)).cell? ⟨w.heap.size, 10, none⟩ = some (.int .i64 0) := hF.cell 10;have g11 : (w.alloc (.cells #[.int .i64 1, .int .i64 5, .int .i64 1, S l, .int .i64 0, .slice none 0 0, .int .i64 0, .int .i64 0, .int .i64 0, .int .i64 0, .int .i64 0, .bool false] 34)).cell? ⟨w.heap.size, 11, none⟩ = some (.bool false) := hF.cell 11)
 go_enter Tryz.func73, Tryz.ntmps73
 go_wp2
 go_loopw [3] (fun x wr => x = .int .i64 0 ∧ wr = w.alloc (.cells #[.int .i64 1, .int .i64 5, .int .i64 1, S l, .int .i64 0, .slice none 0 0, .int .i64 0, .int .i64 0, .int .i64 0, .int .i64 0, .int .i64 0, .bool false] 34)) (fun _ _ => 0)
 case atStart => exact ⟨rfl, rfl⟩
 case round =>
  obtain ⟨rfl, rfl⟩ := hrel
  go_wp2
  go_ret
  exact ⟨rfl, (Below.refl _ _).alloc (Nat.le_refl _) _⟩
set_option maxRecDepth 100000 in
theorem has_Hd5_0 (w : World) : Calls Tryz.prog 74 #[.int .i64 1, .int .i64 5, .int .i64 0, .int .i64 8] w fun e w' => e = .returned (.bool false) ∧ w' = w := by
 go_enter Tryz.func74, Tryz.ntmps74
 go_wp2
 go_ret
 exact ⟨rfl, rfl⟩
set_option maxRecDepth 100000 in
theorem has_Hd5_1 (w : World) : Calls Tryz.prog 74 #[.int .i64 1, .int .i64 5, .int .i64 1, .int .i64 8] w fun e w' => e = .returned (.bool false) ∧ w' = w := by
 go_enter Tryz.func74, Tryz.ntmps74
 go_wp2
 go_ret
 exact ⟨rfl, rfl⟩
set_option maxRecDepth 100000 in
theorem has_Hd5_2 (w : World) : Calls Tryz.prog 74 #[.int .i64 1, .int .i64 5, .int .i64 1, .int .i64 32] w fun e w' => e = .returned (.bool false) ∧ w' = w := by
 go_enter Tryz.func74, Tryz.ntmps74
 go_wp2
 go_ret
 exact ⟨rfl, rfl⟩
set_option maxRecDepth 100000 in
set_option maxHeartbeats 4000000 in
theorem may_Hd5 (l : Bytes) (hl : l.length ≤ 16384) (w : World) : Calls Tryz.prog 36 #[.agg #[.int .i64 1, .int .i64 5, .int .i64 1, S l, .int .i64 0, .slice none 0 0, .int .i64 0, .int .i64 0, .int .i64 0, .int .i64 0, .int .i64 0, .bool false]] w fun e w' => e = .returned (.bool true) ∧ Below w.heap.size w w' := by
 have hF : Blk (w.alloc (.cells #[.int .i64 1, .int .i64 5, .int .i64 1, S l, .int .i64 0, .slice none 0 0, .int .i64 0, .int .i64 0, .int .i64 0, .int .i64 0, .int .i64 0, .bool false] 34)) w.heap.size 34 #[.int .i64 1, .int .i64 5, .int .i64 1, S l, .int .i64 0, .slice none 0 0, .int .i64 0, .int .i64 0, .int .i64 0, .int .i64 0, .int .i64 0, .bool false] := Blk.new _ _ _
 (have g0 : (w.alloc (.cells #[.int .i64 1, .int .i64 5, .int .i64 1, S l, .int .i64 0, .slice none 0 0, .int .i64 0, .int .i64 0, .int .i64 0, .int .i64 0, .int .i64 0, .bool false] 34)).cell? ⟨w.heap.size, 0, none⟩ = some (.int .i64 1) := hF.cell 0;have g1 : (w.alloc (.cells #[.int .i64 1, .int .i64 5, .int .i64 1, S l, .int .i64 0, .slice none 0 0, .int .i64 0, .int .i64 0, .int .i64 0, .int .i64 0, .int .i64 0, .bool false] 34)).cell? ⟨w.heap.size, 1, none⟩ = some (.int .i64 5) := hF.cell 1;have g2 : (w.alloc (.cells #[.int .i64 1, .int .i64 5, .int .i64 1, S l, .int .i64 0, .slice none 0 0, .int .i64 0, .int .i64 0, .int .i64 0, .int .i64 0, .int .i64 0, .bool false] 34)).cell? ⟨w.heap.size, 2, none⟩ = some (.int .i64 1) := hF.cell 2;have g3 : (w.alloc (.cells #[.int .i64 1, .int .i64 5, .int .i64 1, S l, .int .i64 0, .slice none 0 0, .int .i64 0, .int .i64 0, .int .i64 0, .int .i64 0, .int .i64 0, .bool false] 34)).cell? ⟨w.heap.size, 3, none⟩ = some (S l) := hF.cell 3;have g4 : (w.alloc (.cells #[.int .i64 1, .int .i64 5, .int .i64 1, S l, .int .i64 0, .slice none 0 0, .int .i64 0, .int .i64 0, .int .i64 0, .int .i64 0, .int .i64 0, .bool false] 34)).cell? ⟨w.heap.size, 4, none⟩ = some (.int .i64 0) := hF.cell 4;have g5 : (w.alloc (.cells #[.int .i64 1, .int .i64 5, .int .i64 1, S l, .int .i64 0, .slice none 0 0, .int .i64 0, .int .i64 0, .int .i64 0, .int .i64 0, .int .i64 0, .bool false] 34)).cell? ⟨w.heap.size, 5, none⟩ = some (.slice none 0 0) := hF.cell 5;have g6 : (w.alloc (.cells #[.int .i64 1, .int .i64 5, .int .i64 1, S l, .int .i64 0, .slice none 0 0, .int .i64 0, .int .i64 0, .int .i64 0, .int .i64 0, .int .i64 0, .bool false] 34)).cell? ⟨w.heap.size, 6, none⟩ = some (.int .i64 0) := hF.cell 6;have g7 : (w.alloc (.cells #[.int .i64 1, .int .i64 5, .int .i64 1, S l, .int .i64 0, .slice none 0 0, .int .i64 0, .int .i64 0, .int .i64 0, .int .i64 0, .int .i64 0, .bool false] 34)).cell? ⟨w.heap.size, 7, none⟩ = some (.int .i64 0) := hF.cell 7;have g8 : (w.alloc (.cells #[.int .i64 1, .int .i64 5, .int .i64 1, S l, .int .i64 0, .slice none 0 0, .int .i64 0, .int .i64 0, .int .i64 0, .int .i64 0, .int .i64 0, .bool false] 34)).cell? ⟨w.heap.size, 8, none⟩ = some (.int .i64 0) := hF.cell 8;have g9 : (w.alloc (.cells #[.int .i64 1, .int .i64 5, .int .i64 1, S l, .int .i64 0, .slice none 0 0, .int .i64 0, .int .i64 0, .int .i64 0, .int .i64 0, .int .i64 0, .bool false] 34)).cell? ⟨w.heap.size, 9, none⟩ = some (.int .i64 0) := hF.cell 9;have g10 : (w.alloc (.cells #[.int .i64 1, .int .i64 5, .int .i64 1, S l, .int .i64 0, .slice none 0 0, .int .i64 0, .int .i64 0, .int .i64 0, .int .i64 0, .int .i64 0, .bool false] 34)).cell? ⟨w.heap.size, 10, none⟩ = some (.int .i64 0) := hF.cell 10;have g11 : (w.alloc (.cells #[.int .i64 1, .int .i64 5, .int .i64 1, S l, .int .i64 0, .slice none 0 0, .int .i64 0, .int .i64 0, .int .i64 0, .int .i64 0, .int .i64 0, .bool false] 34)).cell? ⟨w.heap.size, 11, none⟩ = some (.bool false) := hF.cell 11)
 go_enter Tryz.func36, Tryz.ntmps36
 go_wp2_with first
  | (go_at_call 73;refine (ranges_Hd5 l hl _).mono ?_;rintro e w1 ⟨rfl, hb1⟩;have hF1 := hF.on hb1;have hbx := ((Below.refl w.heap.size w).alloc (Nat.le_refl _) (.cells #[.int .i64 1, .int .i64 5, .int .i64 1, S l, .int .i64 0, .slice none 0 0, .int .i64 0, .int .i64 0, .int .i64 0, .int .i64 0, .int .i64 0, .bool false] 34)).trans (hb1.mono (by simp));clear hb1;(have q0 : w1.cell? ⟨w.heap.size, 0, none⟩ = some (.int .i64 1) := hF1.cell 0;have q1 : w1.cell? ⟨w.heap.size, 1, none⟩ = some (.int .i64 5) := hF1.cell 1;have q2 : w1.cell? ⟨w.heap.size, 2, none⟩ = some (.int .i64 1) := hF1.cell 2;have q3 : w1.cell? ⟨w.heap.size, 3, none⟩ = some (S l) := hF1.cell 3;have q4 : w1.cell? ⟨w.heap.size, 4, none⟩ = some (.int .i64 0) := hF1.cell 4;have q5 : w1.cell? ⟨w.heap.size, 5, none⟩ = some (.slice none 0 0) := hF1.cell 5;have q6 : w1.cell? ⟨w.heap.size, 6, none⟩ = some (.int .i64 0) := hF1.cell 6;have q7 : w1.cell? ⟨w.heap.size, 7, none⟩ = some (.int .i64 0) := hF1.cell 7;have q8 : w1.cell? ⟨w.heap.size, 8, none⟩ = some (.int .i64 0) := hF1.cell 8;have q9 : w1.cell? ⟨w.heap.size, 9, none⟩ = some (.int .i64 0) := hF1.cell 9;have q10 : w1.cell? ⟨w.heap.size, 10, none⟩ = some (.int .i64 0) := hF1.cell 10;have q11 : w1.cell? ⟨w.heap.size, 11, none⟩ = some (.bool false) := hF1.cell 11))
  | (go_at_call 74;(first | (with_reducible refine (has_Hd5_0 _).mono ?_) | (with_reducible refine (has_Hd5_1 _).mono ?_) | (with_reducible refine (has_Hd5_2 _).mono ?_));rintro e w2 ⟨rfl, rfl⟩)
 all_goals (go_ret;exact ⟨rfl, hbx⟩)
set_option maxRecDepth 100000 in
theorem Has_Hd5_0 (l : Bytes) (hl : l.length ≤ 16384) (w : World) : Calls Tryz.prog 75 #[.agg #[.int .i64 1, .int .i64 5, .int .i64 1, S l, .int .i64 0, .slice none 0 0, .int .i64 0, .int .i64 0, .int .i64 0, .int .i64 0, .int .i64 0, .bool false], .int .i64 8] w fun e w' => e = .returned (.bool false) ∧ Below w.heap.size w w' := by
 have hF : Blk (w.alloc (.cells #[.int .i64 1, .int .i64 5, .int .i64 1, S l, .int .i64 0, .slice none 0 0, .int .i64 0, .int .i64 0, .int .i64 0, .int .i64 0, .int .i64 0, .bool false] 34)) w.heap.size 34 #[.int .i64 1, .int .i64 5, .int .i64 1, S l, .int .i64 0, .slice none 0 0, .int .i64 0, .int .i64 0, .int .i64 0, .int .i64 0, .int .i64 0, .bool false] := Blk.new _ _ _
 have g1 : (w.alloc (.cells #[.int .i64 1, .int .i64 5, .int .i64 1, S l, .int .i64 0, .slice none 0 0, .int .i64 0, .int .i64 0, .int .i64 0, .int .i64 0, .int .i64 0, .bool false] 34)).cell? ⟨w.heap.size, 1, none⟩ = some (.int .i64 5) := hF.cell 1
 go_enter Tryz.func75, Tryz.ntmps75
 go_wp2
 go_ret
 exact ⟨rfl, (Below.refl _ _).alloc (Nat.le_refl _) _⟩
set_option maxRecDepth 100000 in
theorem Has_Hd5_1 (l : Bytes) (hl : l.length ≤ 16384) (w : World) : Calls Tryz.prog 75 #[.agg #[.int .i64 1, .int .i64 5, .int .i64 1, S l, .int .i64 0, .slice none 0 0, .int .i64 0, .int .i64 0, .int .i64 0, .int .i64 0, .int .i64 0, .bool false], .int .i64 32] w fun e w' => e = .returned (.bool false) ∧ Below w.heap.size w w' := by
 have hF : Blk (w.alloc (.cells #[.int .i64 1, .int .i64 5, .int .i64 1, S l, .int .i64 0, .slice none 0 0, .int .i64 0, .int .i64 0, .int .i64 0, .int .i64 0, .int .i64 0, .bool false] 34)) w.heap.size 34 #[.int .i64 1, .int .i64 5, .int .i64 1, S l, .int .i64 0, .slice none 0 0, .int .i64 0, .int .i64 0, .int .i64 0, .int .i64 0, .int .i64 0, .bool false] := Blk.new _ _ _
 have g1 : (w.alloc (.cells #[.int .i64 1, .int .i64 5, .int .i64 1, S l, .int .i64 0, .slice none 0 0, .int .i64 0, .int .i64 0, .int .i64 0, .int .i64 0, .int .i64 0, .bool false] 34)).cell? ⟨w.heap.size, 1, none⟩ = some (.int .i64 5) := hF.cell 1
 go_enter Tryz.func75, Tryz.ntmps75
 go_wp2
 go_ret
 exact ⟨rfl, (Below.refl _ _).alloc (Nat.le_refl _) _⟩
set_option maxRecDepth 100000 in
set_option maxHeartbeats 4000000 in
theorem pay_Hd5 (l : Bytes) (hl : l.length ≤ 16384) (w : World) : Calls Tryz.prog 37 #[.agg #[.int .i64 1, .int .i64 5, .int .i64 1, S l, .int .i64 0, .slice none 0 0, .int .i64 0, .int .i64 0, .int .i64 0, .int .i64 0, .int .i64 0, .bool false]] w fun e w' => ∃ v, e = .returned v ∧ w'.ownsRow w.heap.size 5 1 v (l.length) ((l).map B8) ∧ Below w.heap.size w w' := by
 have hF : Blk (w.alloc (.cells #[.int .i64 1, .int .i64 5, .int .i64 1, S l, .int .i64 0, .slice none 0 0, .int .i64 0, .int .i64 0, .int .i64 0, .int .i64 0, .int .i64 0, .bool false] 34)) w.heap.size 34 #[.int .i64 1, .int .i64 5, .int .i64 1, S l, .int .i64 0, .slice none 0 0, .int .i64 0, .int .i64 0, .int .i64 0, .int .i64 0, .int .i64 0, .bool false] := Blk.new _ _ _
 have hbx : Below w.heap.size w (w.alloc (.cells #[.int .i64 1, .int .i64 5, .int .i64 1, S l, .int .i64 0, .slice none 0 0, .int .i64 0, .int .i64 0, .int .i64 0, .int .i64 0, .int .i64 0, .bool false] 34)) := (Below.refl w.heap.size w).alloc (Nat.le_refl _) _
 (have g0 : (w.alloc (.cells #[.int .i64 1, .int .i64 5, .int .i64 1, S l, .int .i64 0, .slice none 0 0, .int .i64 0, .int .i64 0, .int .i64 0, .int .i64 0, .int .i64 0, .bool false] 34)).cell? ⟨w.heap.size, 0, none⟩ = some (.int .i64 1) := hF.cell 0;have g1 : (w.alloc (.cells #[.int .i64 1, .int .i64 5, .int .i64 1, S l, .int .i64 0, .slice none 0 0, .int .i64 0, .int .i64 0, .int .i64 0, .int .i64 0, .int .i64 0, .bool false] 34)).cell? ⟨w.heap.size, 1, none⟩ = some (.int .i64 5) := hF.cell 1;have g2 : (w.alloc (.cells #[.int .i64 1, .int .i64 5, .int .i64 1, S l, .int .i64 0, .slice none 0 0, .int .i64 0, .int .i64 0, .int .i64 0, .int .i64 0, .int .i64 0, .bool false] 34)).cell? ⟨w.heap.size, 2, none⟩ = some (.int .i64 1) := hF.cell 2;have g3 : (w.alloc (.cells #[.int .i64 1, .int .i64 5, .int .i64 1, S l, .int .i64 0, .slice none 0 0, .int .i64 0, .int .i64 0, .int .i64 0, .int .i64 0, .int .i64 0, .bool false] 34)).cell? ⟨w.heap.size, 3, none⟩ = some (S l) := hF.cell 3;have g4 : (w.alloc (.cells #[.int .i64 1, .int .i64 5, .int .i64 1, S l, .int .i64 0, .slice none 0 0, .int .i64 0, .int .i64 0, .int .i64 0, .int .i64 0, .int .i64 0, .bool false] 34)).cell? ⟨w.heap.size, 4, none⟩ = some (.int .i64 0) := hF.cell 4;have g5 : (w.alloc (.cells #[.int .i64 1, .int .i64 5, .int .i64 1, S l, .int .i64 0, .slice none 0 0, .int .i64 0, .int .i64 0, .int .i64 0, .int .i64 0, .int .i64 0, .bool false] 34)).cell? ⟨w.heap.size, 5, none⟩ = some (.slice none 0 0) := hF.cell 5;have g6 : (w.alloc (.cells #[.int .i64 1, .int .i64 5, .int .i64 1, S l, .int .i64 0, .slice none 0 0, .int .i64 0, .int .i64 0, .int .i64 0, .int .i64 0, .int .i64 0, .bool false] 34)).cell? ⟨w.heap.size, 6, none⟩ = some (.int .i64 0) := hF.cell 6;have g7 : (w.alloc (.cells #[.int .i64 1, .int .i64 5, .int .i64 1, S l, .int .i64 0, .slice none 0 0, .int .i64 0, .int .i64 0, .int .i64 0, .int .i64 0, .int .i64 0, .bool false] 34)).cell? ⟨w.heap.size, 7, none⟩ = some (.int .i64 0) := hF.cell 7;have g8 : (w.alloc (.cells #[.int .i64 1, .int .i64 5, .int .i64 1, S l, .int .i64 0, .slice none 0 0, .int .i64 0, .int .i64 0, .int .i64 0, .int .i64 0, .int .i64 0, .bool false] 34)).cell? ⟨w.heap.size, 8, none⟩ = some (.int .i64 0) := hF.cell 8;have g9 : (w.alloc (.cells #[.int .i64 1, .int .i64 5, .int .i64 1, S l, .int .i64 0, .slice none 0 0, .int .i64 0, .int .i64 0, .int .i64 0, .int .i64 0, .int .i64 0, .bool false] 34)).cell? ⟨w.heap.size, 9, none⟩ = some (.int .i64 0) := hF.cell 9;have g10 : (w.alloc (.cells #[.int .i64 1, .int .i64 5, .int .i64 1, S l, .int .i64 0, .slice none 0 0, .int .i64 0, .int .i64 0, .int .i64 0, .int .i64 0, .int .i64 0, .bool false] 34)).cell? ⟨w.heap.size, 10, none⟩ = some (.int .i64 0) := hF.cell 10;have g11 : (w.alloc (.cells #[.int .i64 1, .int .i64 5, .int .i64 1, S l, .int .i64 0, .slice none 0 0, .int .i64 0, .int .i64 0, .int .i64 0, .int .i64 0, .int .i64 0, .bool false] 34)).cell? ⟨w.heap.size, 11, none⟩ = some (.bool false) := hF.cell 11)
 go_enter Tryz.func37, Tryz.ntmps37
 go_wp2_with first
  | (go_at_call 75;(first | (with_reducible refine (Has_Hd5_0 l hl _).mono ?_) | (with_reducible refine (Has_Hd5_1 l hl _).mono ?_));rintro e w1 ⟨rfl, hb1⟩;have hbx := hbx.trans (hb1.mono (Nat.le_of_lt hF.lt));have hF := hF.on hb1;clear hb1;(have g0 : w1.cell? ⟨w.heap.size, 0, none⟩ = some (.int .i64 1) := hF.cell 0;have g1 : w1.cell? ⟨w.heap.size, 1, none⟩ = some (.int .i64 5) := hF.cell 1;have g2 : w1.cell? ⟨w.heap.size, 2, none⟩ = some (.int .i64 1) := hF.cell 2;have g3 : w1.cell? ⟨w.heap.size, 3, none⟩ = some (S l) := hF.cell 3;have g4 : w1.cell? ⟨w.heap.size, 4, none⟩ = some (.int .i64 0) := hF.cell 4;have g5 : w1.cell? ⟨w.heap.size, 5, none⟩ = some (.slice none 0 0) := hF.cell 5;have g6 : w1.cell? ⟨w.heap.size, 6, none⟩ = some (.int .i64 0) := hF.cell 6;have g7 : w1.cell? ⟨w.heap.size, 7, none⟩ = some (.int .i64 0) := hF.cell 7;have g8 : w1.cell? ⟨w.heap.size, 8, none⟩ = some (.int .i64 0) := hF.cell 8;have g9 : w1.cell? ⟨w.heap.size, 9, none⟩ = some (.int .i64 0) := hF.cell 9;have g10 : w1.cell? ⟨w.heap.size, 10, none⟩ = some (.int .i64 0) := hF.cell 10;have g11 : w1.cell? ⟨w.heap.size, 11, none⟩ = some (.bool false) := hF.cell 11))
 go_loopw [3, 5] (fun b x wr => b = .slice none 0 0 ∧ x = .int .i64 0 ∧ Below w.heap.size w wr ∧ Blk wr w.heap.size 34 #[.int .i64 1, .int .i64 5, .int .i64 1, S l, .int .i64 0, .slice none 0 0, .int .i64 0, .int .i64 0, .int .i64 0, .int .i64 0, .int .i64 0, .bool false]) (fun _ _ _ => 0)
 case atStart => exact ⟨rfl, rfl, hbx, hF⟩
 case round =>
  obtain ⟨rfl, rfl, hbx, hF⟩ := hrel
  (have g0 : wr.cell? ⟨w.heap.size, 0, none⟩ = some (.int .i64 1) := hF.cell 0;have g1 : wr.cell? ⟨w.heap.size, 1, none⟩ = some (.int .i64 5) := hF.cell 1;have g2 : wr.cell? ⟨w.heap.size, 2, none⟩ = some (.int .i64 1) := hF.cell 2;have g3 : wr.cell? ⟨w.heap.size, 3, none⟩ = some (S l) := hF.cell 3;have g4 : wr.cell? ⟨w.heap.size, 4, none⟩ = some (.int .i64 0) := hF.cell 4;have g5 : wr.cell? ⟨w.heap.size, 5, none⟩ = some (.slice none 0 0) := hF.cell 5;have g6 : wr.cell? ⟨w.heap.size, 6, none⟩ = some (.int .i64 0) := hF.cell 6;have g7 : wr.cell? ⟨w.heap.size, 7, none⟩ = some (.int .i64 0) := hF.cell 7;have g8 : wr.cell? ⟨w.heap.size, 8, none⟩ = some (.int .i64 0) := hF.cell 8;have g9 : wr.cell? ⟨w.heap.size, 9, none⟩ = some (.int .i64 0) := hF.cell 9;have g10 : wr.cell? ⟨w.heap.size, 10, none⟩ = some (.int .i64 0) := hF.cell 10;have g11 : wr.cell? ⟨w.heap.size, 11, none⟩ = some (.bool false) := hF.cell 11)
  go_wp2_with first
   | (at_builtin;refine wpList_appStr rfl _ _ _ _ rfl (w.heap.size + 1) 5 Tryz.underlying26 Tryz.underlying9 (by kernel_rfl) _ _ _ rfl (World.ownsRow_nil _ _ _ _) l rfl (by omega) (by have := hF.lt;omega) ?_;intro ay0 cy0 y0 hy0 hd0;have hbx := hbx.trans (hd0.mono (Nat.le_succ _));have hF := hF.below hd0 (Nat.lt_succ_self _);(have g0 : y0.cell? ⟨w.heap.size, 0, none⟩ = some (.int .i64 1) := hF.cell 0;have g1 : y0.cell? ⟨w.heap.size, 1, none⟩ = some (.int .i64 5) := hF.cell 1;have g2 : y0.cell? ⟨w.heap.size, 2, none⟩ = some (.int .i64 1) := hF.cell 2;have g3 : y0.cell? ⟨w.heap.size, 3, none⟩ = some (S l) := hF.cell 3;have g4 : y0.cell? ⟨w.heap.size, 4, none⟩ = some (.int .i64 0) := hF.cell 4;have g5 : y0.cell? ⟨w.heap.size, 5, none⟩ = some (.slice none 0 0) := hF.cell 5;have g6 : y0.cell? ⟨w.heap.size, 6, none⟩ = some (.int .i64 0) := hF.cell 6;have g7 : y0.cell? ⟨w.heap.size, 7, none⟩ = some (.int .i64 0) := hF.cell 7;have g8 : y0.cell? ⟨w.heap.size, 8, none⟩ = some (.int .i64 0) := hF.cell 8;have g9 : y0.cell? ⟨w.heap.size, 9, none⟩ = some (.int .i64 0) := hF.cell 9;have g10 : y0.cell? ⟨w.heap.size, 10, none⟩ = some (.int .i64 0) := hF.cell 10;have g11 : y0.cell? ⟨w.heap.size, 11, none⟩ = some (.bool false) := hF.cell 11))
  go_loopw [3, 6] (fun b x wr' => b = .slice ay0 l.length cy0 ∧ x = .int .i64 0 ∧ wr' = y0) (fun _ _ _ => 0)
  case atStart => exact ⟨rfl, rfl, rfl⟩
  case round =>
   obtain ⟨rfl, rfl, rfl⟩ := hrel
   go_wp2
   go_ret
   refine ⟨_, rfl, ?_, hbx⟩
   have hyy := own_base hy0 (Nat.le_succ w.heap.size)
   simpa using hyy
theorem put_Hd5 (l : Bytes) (hl : l.length ≤ 16384) (w : World) : Calls Tryz.prog 8 #[.agg #[.int .i64 1, .int .i64 5, .int .i64 1, S l, .int .i64 0, .slice none 0 0, .int .i64 0, .int .i64 0, .int .i64 0, .int .i64 0, .int .i64 0, .bool false]] w fun e w' => ∃ v, e = .returned (.tuple #[v, .int .i64 0]) ∧ w'.ownsRow w.heap.size 5 1 v (9 + l.length) ((beP (l.length) 3 ++ [1, 5] ++ beP 1 4 ++ (l)).map B8) ∧ Below w.heap.size w w' :=
 Put_of w 1 5 1 (by decide) (by decide) (by decide) _ _ _ _ _ _ _ _ _ (fun w => may_Hd5 l hl w) (l.length) (l) (by simp) (by omega) (fun w => pay_Hd5 l hl w)
end Go.Proofs.YtkeeofhjdffhbaaGreatDoor
namespace Go.Proofs.YtkeeofhjdffhbaaGreatDoor
open Go Go.RowKit Go.Dr
abbrev OutC (l : Bytes) (w : World) (e : Ending) (w' : World) : Prop := ∃ v, e = .returned v ∧ w'.ownsRow w.heap.size 5 1 v l.length (l.map B8) ∧ Below w.heap.size w w'
set_option maxRecDepth 100000 in
set_option maxHeartbeats 8000000 in
theorem Bytes_one {g : Nat} {st fl : Int} {d : Bytes} (l : Bytes) (w : World) (hg : Blk w g 34 #[.int .i64 1, .int .i64 fl, .int .i64 st, S d, .int .i64 0, .slice none 0 0, .int .i64 0, .int .i64 0, .int .i64 0, .int .i64 0, .int .i64 0, .bool false]) (hl0 : 0 < l.length) (hl : l.length ≤ 1000000)
  (hP : ∀ w1, Calls Tryz.prog 8 #[getV st fl d] w1 fun e w' => ∃ v, e = .returned (.tuple #[v, .int .i64 0]) ∧ w'.ownsRow w1.heap.size 5 1 v l.length (l.map B8) ∧ Below w1.heap.size w1 w') :
  Calls Tryz.prog 20 #[.slice (some ⟨g, 0, none⟩) 1 1] w (OutC l w) := by
 (have z0 : w.cell? ⟨g, 0, none⟩ = some (.int .i64 1) := hg.cell 0;have z1 : w.cell? ⟨g, 1, none⟩ = some (.int .i64 fl) := hg.cell 1;have z2 : w.cell? ⟨g, 2, none⟩ = some (.int .i64 st) := hg.cell 2;have z3 : w.cell? ⟨g, 3, none⟩ = some (S d) := hg.cell 3;have z4 : w.cell? ⟨g, 4, none⟩ = some (.int .i64 0) := hg.cell 4;have z5 : w.cell? ⟨g, 5, none⟩ = some (.slice none 0 0) := hg.cell 5;have z6 : w.cell? ⟨g, 6, none⟩ = some (.int .i64 0) := hg.cell 6;have z7 : w.cell? ⟨g, 7, none⟩ = some (.int .i64 0) := hg.cell 7;have z8 : w.cell? ⟨g, 8, none⟩ = some (.int .i64 0) := hg.cell 8;have z9 : w.cell? ⟨g, 9, none⟩ = some (.int .i64 0) := hg.cell 9;have z10 : w.cell? ⟨g, 10, none⟩ = some (.int .i64 0) := hg.cell 10;have z11 : w.cell? ⟨g, 11, none⟩ = some (.bool false) := hg.cell 11)
 go_enter Tryz.func20, Tryz.ntmps20
 go_wp2
 refine wp_loop_rounds 2 ?_
 rw [rounds_succ]
 go_wp2_with first
  | (go_at_call 8;go_must ((with_reducible refine (hP _).mono ?_);rintro r w2 ⟨v, rfl, hrow, hb2⟩))
  | (at_builtin;refine wpList_appAt rfl _ _ 26 rfl w.heap.size 5 (.int .u8 0) 1 1 Tryz.underlying26 (by kernel_rfl) rfl (by decide) _ _ _ rfl (World.ownsRow_nil _ _ _ _) w2.heap.size _ l.length (l.map B8) rfl (Rd.own hrow) (b8_one2 _) (by unfold maxLen;omega) (by omega) hb2.size ?_;intro a5 c5 w5 hown5 hg5 hat5)
 rw [rounds_succ]
 go_wp2
 go_ret
 exact ⟨_, rfl, by simpa using hown5, hb2.trans ((but_grow hg5).below (fun k hk => by cases hk) hb2.size)⟩
abbrev prefC : Array Value := #[.int .u8 80, .int .u8 82, .int .u8 73, .int .u8 32, .int .u8 42, .int .u8 32, .int .u8 72, .int .u8 84, .int .u8 84, .int .u8 80, .int .u8 47, .int .u8 50, .int .u8 46, .int .u8 48, .int .u8 13, .int .u8 10, .int .u8 13, .int .u8 10, .int .u8 83, .int .u8 77, .int .u8 13, .int .u8 10, .int .u8 13, .int .u8 10]
theorem prefC_b8 : prefC.toList = prefB.map B8 := rfl
/-- 'append(s, x...)' where s has no room left: s is read alone -/
theorem wpList_appFull {P : Program} {ops : Array Oper} {rest : List Oper} {o : Oper} {a : Act} {Q : Exit → Act → World → Prop} {w : World} (hgd : o.guard = none) (s x : Operand) (t : TypeId)
  (ho : o.op = .call { callee := .builtin .append, args := #[s, x], argTypes := #[t, t] })
  (base : Nat) (e : TypeId) (z : Value) (size bytes : Nat) (ht : P.underlying t = some (.slice e)) (hi : (P.info? e).map (fun i => (i.zero, i.size, i.bytes)) = some (some z, size, bytes))
  (hzs : z.cells.size = size) (b : Addr) (n : Nat) (olds : List Value) (hs : a.eval s = .slice (some b) n n) (hlo : olds.length = n * size) (holds : ∀ j v, olds[j]? = some v → w.cell? (b.add j) = some v)
  (B : Nat) (vs : Value) (m : Nat) (news : List Value) (hx : a.eval x = vs) (hsrc : Rd B w size vs m news) (hm0 : 0 < m)
  (hm : n + m ≤ maxLen) (hbytes : (n + m) * bytes ≤ 140737488355328) (hbase : base ≤ w.heap.size)
  (h : ∀ a' c' w', w'.ownsRow base e size (.slice a' (n + m) c') (n + m) (olds ++ news) → Below base w w' → wpList P ops Q rest (a.put o.dst (.slice a' (n + m) c')) w') : wpList P ops Q (o :: rest) a w := by
 obtain ⟨ad, cap, rfl, h2, h3, h4, h5, h6⟩ := hsrc
 cases ad with
 | none => have := h5 rfl;omega
 | some ad =>
  obtain ⟨i, hi, hz, hsize, hby⟩ := info_parts hi
  subst hsize hby
  have hsmall : n + m ≤ 9223372036854775807 := by simp only [maxLen] at hm;omega
  have hlen : (olds ++ news).length = (n + m) * i.size := by rw [List.length_append, hlo, h4, Nat.add_mul]
  have hnews : ∀ j u, news[j]? = some u → w.cell? (ad.add j) = some u := by
   intro j u hu
   obtain ⟨b', off, e1, _, e3⟩ := h6 j u hu
   obtain rfl := Option.some.inj e1
   rw [Addr.add_lit]
   exact e3
  have hr := Go.run_append_grow (P := P) w t o.type e i z ht ‹P.info? e = some i› hz b n n olds hlo holds ad m cap news h4 hnews (by omega) (by omega) (Go.growslice_fits (by omega) hbytes)
  have hge := grownCap_ge w (n + m) n e
  have hcm2 : grownCap w (n + m) n e ≤ maxLen := grownCap_le_maxLen w (n + m) n e hm
  refine wpList_plain hgd fun K hK => ?_
  unfold Oper.wp execOp
  simp only [ho, resolve, invoke, builtin, Sem.run_bind, Sem.run_pure, Result.andThen_ok, List.map_toArray, List.map_cons, List.map_nil, hs, hx, hr]
  refine hK _ _ (h _ _ _ ⟨hlen, .inr ⟨w.heap.size, _, _, rfl, hbase, heap_alloc_new w.drew _, hge, hcm2, ?_, ?_⟩⟩ ((Below.refl _ _).drew.alloc hbase _))
  ·simp only [Array.size_append, List.size_toArray, Go.size_zeroCells, hzs, hlo, h4, ← Nat.add_mul]
   congr 1
   omega
  ·simp only [Array.toList_append, List.append_assoc]
   rw [← List.append_assoc, ← hlen]
   exact List.take_left
theorem pre_cells (w w3 : World) (hb : Below (w.alloc (.cells prefC 5 (24, 25))).heap.size (w.alloc (.cells prefC 5 (24, 25))) w3) : ∀ j v, prefC.toList[j]? = some v → w3.cell? ((⟨w.heap.size, 0, none⟩ : Addr).add j) = some v := by
 intro j v hj
 rw [Addr.add_lit, Nat.zero_add, hb.cell (p := ⟨w.heap.size, j, none⟩) (by simp)]
 have e : (w.alloc (.cells prefC 5 (24, 25))).heap[w.heap.size]? = some (.cells prefC 5 (24, 25)) := obj_new w _ _ rfl
 simp only [World.cell?, e]
 simpa using hj
/-- a client's first bytes -/
abbrev helloB : Bytes := prefB ++ frB 4 0 0 []
theorem by_hello {w : World} {base : Nat} {v : Value} {l1 : Bytes} (h : w.ownsRow base 5 1 v (24 + l1.length) (prefC.toList ++ l1.map B8)) : w.ownsRow base 5 1 v (prefB ++ l1).length ((prefB ++ l1).map B8) := by
 have e : (prefB ++ l1).length = 24 + l1.length := by rw [List.length_append];rfl
 rw [e, List.map_append, ← prefC_b8]
 exact h
set_option maxRecDepth 100000 in
set_option maxHeartbeats 8000000 in
theorem Hello_any (w : World) : Calls Tryz.prog 31 #[] w (OutC helloB w) := by
 have kc := fun (w : World) (C : Array Value) (n c : Nat) => Lib.run_convert_bytes_const (P := Tryz.prog) w 26 5 C n c Tryz.underlying26 Tryz.underlying5
 have hS0 : ∀ w1 : World, Calls Tryz.prog 8 #[.agg #[.int .i64 4, .int .i64 0, .int .i64 0, S [], .int .i64 0, .slice none 0 0, .int .i64 0, .int .i64 0, .int .i64 0, .int .i64 0, .int .i64 0, .bool false]] w1 fun e w' => ∃ v, e = .returned (.tuple #[v, .int .i64 0]) ∧ w'.ownsRow w1.heap.size 5 1 v 9 ((frB 4 0 0 []).map B8) ∧ Below w1.heap.size w1 w' := fun w1 => put_Set0 w1
 go_enter Tryz.func31, Tryz.ntmps31
 go_wp2_with first
  | (go_at_call 8;go_must ((with_reducible refine (hS0 _).mono ?_);rintro r w2 ⟨v, rfl, hrow, hb2⟩;have hb3 : Below w2.heap.size w2 (w2.alloc (.cells prefC 5 (24, 25))) := (Below.refl _ _).alloc (Nat.le_refl _) _;have hrow3 := own_below hrow hb3;have hb23 := hb2.trans (hb3.mono hb2.size);have hpc := pre_cells w2 _ (Below.refl _ _)))
  | (at_builtin;refine wpList_appFull rfl _ _ 26 rfl w.heap.size 5 (.int .u8 0) 1 1 Tryz.underlying26 (by kernel_rfl) rfl ⟨w2.heap.size, 0, none⟩ 24 prefC.toList rfl rfl hpc _ _ _ _ rfl (Rd.own hrow3) (by decide) (by decide) (by decide) hb23.size ?_;intro a4 c4 w4 hr4 hb4)
 go_ret
 exact ⟨_, rfl, by_hello hr4, hb23.trans hb4⟩
end Go.Proofs.YtkeeofhjdffhbaaGreatDoor
namespace Go.Proofs.YtkeeofhjdffhbaaGreatDoor
open Go Go.RowKit Go.Dr
variable {w w' : World} {n : Nm} {m : Mm} {q q' : Cq}
theorem run_en {k : Nat} {fn : Func} {c : Code} (hf : Tryz.prog.funcs[k]? = some fn) (hname : (fn.name == "runtime.NumGoroutine") = false) (hb : fn.body = some c) (args : Array Value) (w : World) : (callFunc k args).run Tryz.prog w = .ok (.enter k args) w := by
 have h1 : fn.name ≠ "runtime.NumGoroutine" := by simpa using hname
 simp [callFunc, hf, h1, hb]
abbrev q22 (bs : Bytes) : Cq := { str := 3, win := 1000, tab := 4096, lst := 4000, bytes := bs }
/-- the connection, behind the client's first settings -/
abbrev q22a (bs : Bytes) : Cq := { q22 bs with greeted := true, bytes := bs ++ frB 4 1 0 [], pre := 24 }
set_option maxHeartbeats 4000000 in
theorem Item_set {F : Nat → Prop} {sa : Option Addr} {sc : Nat} (bs : Bytes) (hbs : bs.length ≤ 1000000) (w : World) (h : Cw w n { q22 bs with pre := 24 } F) :
  Calls Tryz.prog 58 #[Ptr n.c, itmV { ty := 4 } (.slice sa 0 sc) {}] w fun r w' => r = .returned (.tuple #[]) ∧ Goes w n F w' (q22a bs) :=
 Item_do (d := []) (ty := 4) (fl := 0) (st := 0) (x4 := 0) (x6 := 0) (x7 := 0) (x8 := 0) (x9 := 0) (x10 := 0) (x11 := false) (q' := q22a bs) w h (by decide) 133 rfl (run_en Tryz.func133 (by kernel_rfl) rfl)
  (fun w1 F1 h1 => Placed_first w1 h1 rfl) (fun w1 F1 _ h1 => Settings_none w1 h1 hbs) (q22a bs) rfl
theorem over_same (q : Cq) (h : q.drained = false) : ({ q with over := q.over || (q.drained && q.live.isEmpty) } : Cq) = q := by
 cases q
 simp only [] at h
 subst h
 simp
set_option maxHeartbeats 4000000 in
theorem Item_get {F : Nat → Prop} {sa : Option Addr} {sc : Nat} (w : World) (h : Cw w n q F) (hgr : q.greeted = true) (hfo : q.fo = 0) (i : Nat) (hi : i < 2147483648) (hi1 : 1 ≤ i) (hodd : i % 2 = 1) (e : Bool) (lb p : Bytes) (hL : ∀ a b, PartRun a b lb (fPath p)) (hlb : lb ≠ []) (hlbl : lb.length ≤ 50) (hp : p = [47] ∨ p = [47, 120]) (hlst : 300 ≤ q.lst) (htab : 0 ≤ q.tab) (hbrk : q.brk = false)
  (hdr : q.drained = false) (hr : (q.live.length : Int) < q.str) (hll : q.live.length < 1000) (hol : q.off.length < 1000) (hnl : q.news.length ≤ 10000000) (hni : ∀ p ∈ q.live, p.1 ≠ (i : Int)) (hno : ∀ p ∈ q.off, p.1 ≠ (i : Int)) (hlast : q.last < i) :
  Calls Tryz.prog 58 #[Ptr n.c, itmV { ty := 1, fl := if e then 5 else 4, st := i, data := getB lb } (.slice sa 0 sc) {}] w fun r w' => r = .returned (.tuple #[]) ∧ Goes w n F w' ({ q with endOf := e }.asked i p e) := by
 have eg : ({ q with greeted := true } : Cq) = q := by
  cases q
  simp only [] at hgr
  rw [hgr]
 have hI := Item_do (F := F) (d := getB lb) (ty := 1) (fl := if e then 5 else 4) (st := (i : Int)) (x4 := 0) (sa := sa) (sk := 0) (sc := sc) (x6 := 0) (x7 := 0) (x8 := 0) (x9 := 0) (x10 := 0) (x11 := false) (q' := { q with endOf := e }.asked i p e) w h (by decide) 131 rfl (run_en Tryz.func131 (by kernel_rfl) rfl)
  (fun w1 F1 h1 => Placed_then w1 h1 hgr hfo (by decide))
  (fun w1 F1 _ h1 => Headers_ok w1 (eg ▸ h1) i (by constructor <;> omega) (by omega) (by rw [Int.tmod_eq_emod_of_nonneg (by omega)];omega) e lb p _ rfl hL hlb hlbl hp hlst htab hbrk hdr hr hll hol hnl hni hno hlast) _ (over_same ({ q with endOf := e }.asked i p e) hdr)
 cases e <;> exact hI
theorem Cx.no_b8 (hx : Cx w n m q) (j : Nat) (c : UInt8) : (ccells n m q)[j]? ≠ some (B8 c) := by
 intro e
 obtain ⟨k, hn⟩ := hx.news
 obtain ⟨a1, c1, e1⟩ := own_form hx.bytes
 obtain ⟨a2, c2, e2⟩ := own_form hn
 obtain ⟨a3, c3, e3⟩ := own_form hx.closed
 have hm := Array.mem_of_getElem? e
 simp [ccells, e1, e2, e3] at hm
abbrev dX : Bytes := getB [4, 2, 47, 120]
theorem getX_dX : (32 :: (getX [47, 120]).flatMap encB) = dX := getX_x
/-- .. and behind the first request -/
abbrev q22b (bs : Bytes) : Cq := { q22a bs with endOf := true }.asked 1 [47, 120] true
def qs22 (bs : Bytes) : Nat → Cq
 | 0 => { q22 bs with news := [], pre := 24 }
 | 1 => q22a bs
 | _ => q22b bs
set_option maxHeartbeats 4000000 in
theorem Take_get {F : Nat → Prop} (bs : Bytes) (hbs : bs.length ≤ 1000000) (vb : Value) (w : World) (h : Cw w n (q22 bs) F) (hb : By w.heap.size w vb (prefB ++ (frB 4 0 0 [] ++ frB 1 5 1 dX))) :
  Calls Tryz.prog 19 #[Ptr n.c, vb] w fun e w' => ∃ v j, e = .returned v ∧ w'.ownsRow n.B 84 10 v j (q22b bs).news ∧ Goes w n F w' (q22b bs) := by
 have hT := Taken_any w h rfl vb [(({ ty := 4 } : Fr), ({} : Ft)), (({ ty := 1, fl := 5, st := 1, data := dX } : Fr), ({} : Ft))] (qs22 bs) rfl
  (by intro k hk;match k, hk with | 0, _ => rfl | 1, _ => rfl)
  (fun W F1 hbW eW hW => by
   obtain ⟨m', hx', -⟩ := hW
   refine take_first (l := frB 4 0 0 [] ++ frB 1 5 1 dX) hx'.feed ?_ (by rw [List.length_append, frB_length, frB_length];decide) (itemsF_2 tk_set0 (tk_head dX (by decide) 5 (.inr rfl)) (by decide) (by rw [List.length_append, frB_length, frB_length];decide))
   rw [eW]
   obtain ⟨m, hx, rfl⟩ := h
   exact (hb.off hx.blk hx.no_b8 21 (.slice none 0 0)).mono (Nat.le_of_eq (by simp)))
  (fun k hk w1 F1 sa sc h1 hs => by
   match k, hk with
   | 0, _ => exact Item_set bs hbs w1 h1
   | 1, _ => exact Item_get w1 h1 rfl rfl 1 (by decide) (by decide) rfl true [4, 2, 47, 120] [47, 120] (fun a b => run_x a b) (by decide) (by decide) (.inr rfl) (show (300 : Int) ≤ 4000 by decide) (show (0 : Int) ≤ 4096 by decide) rfl rfl (show ((0 : Nat) : Int) < 3 by decide) (show 0 < 1000 by decide) (show 0 < 1000 by decide) (show 0 ≤ 10000000 by decide) (fun p hp => by cases hp) (fun p hp => by cases hp) (show (0 : Int) < ((1 : Nat) : Int) by decide))
 exact hT
end Go.Proofs.YtkeeofhjdffhbaaGreatDoor
namespace Go.Proofs.YtkeeofhjdffhbaaGreatDoor
open Go Go.RowKit Go.Dr
abbrev bs22 : Bytes := frB 4 0 0 (setsB [(1, 4096), (3, 3), (4, 1000), (6, 4000)])
theorem new22 (w : World) : Calls Tryz.prog 17 #[limV] w fun e w' => ∃ n F, e = .returned (.tuple #[Ptr n.c, .int .i64 0]) ∧ n.B = w.heap.size ∧ Cw w' n (q22 bs22) F ∧ Below w.heap.size w w' := ConnNew_any 3 1000 4000 (by decide) (by decide) (by decide) (by decide) w
theorem get22 (w : World) : Calls Tryz.prog 21 #[.int .i64 1, .string ⟨#[47, 120]⟩, .bool true] w fun r w' => r = .returned (getV 1 5 dX) ∧ Below w.heap.size w w' := by
 have h := Get_any 1 [47, 120] (.inr rfl) true w
 rw [getX_dX] at h
 exact h
theorem bytes22 {g : Nat} (w : World) (hg : Blk w g 34 #[.int .i64 1, .int .i64 5, .int .i64 1, S dX, .int .i64 0, .slice none 0 0, .int .i64 0, .int .i64 0, .int .i64 0, .int .i64 0, .int .i64 0, .bool false]) : Calls Tryz.prog 20 #[.slice (some ⟨g, 0, none⟩) 1 1] w (OutC (frB 1 5 1 dX) w) :=
 Bytes_one (frB 1 5 1 dX) w hg (by rw [frB_length];omega) (by rw [frB_length];decide) (fun w1 => by rw [frB_length];exact put_Hd5 dX (by decide) w1)
theorem row_cell {w : World} {B : Nat} {e : TypeId} {size n c : Nat} {a : Option Addr} {xs : List Value} (h : w.ownsRow B e size (.slice a n c) n xs) (h0 : 0 < n) : ∃ g, a = some ⟨g, 0, none⟩ ∧ ∀ (j : Nat) (u : Value), xs[j]? = some u → w.cell? ⟨g, j, none⟩ = some u := by
 have hl := h.1
 rcases h.2 with ⟨e1, h0'⟩ | ⟨g, cap, cur, hv, -, hg, -, -, -, ht⟩
 ·omega
 ·simp only [Value.slice.injEq] at hv
  refine ⟨g, hv.1, fun j u hu => ?_⟩
  have hj := (List.getElem?_eq_some_iff.1 hu).1
  rw [← ht, List.getElem?_take_of_lt (by omega)] at hu
  simp only [World.cell?, hg]
  simpa using hu
abbrev getL : Bytes := frB 1 5 1 dX
theorem by22 {w : World} {base : Nat} {v : Value} (h : w.ownsRow base 5 1 v (helloB.length + getL.length) (helloB.map B8 ++ getL.map B8)) : By w.heap.size w v (prefB ++ (frB 4 0 0 [] ++ frB 1 5 1 dX)) := by
 refine own_by (base := base) ?_
 rw [← List.append_assoc, List.length_append, List.map_append]
 exact h
/-- the connection, behind its answer -/
abbrev q22c (bs : Bytes) : Cq := { q22b bs with bytes := (q22b bs).bytes ++ frB 1 5 1 [136], live := [] ++ [], off := sans (q22b bs).off 1, over := (q22b bs).over || ((q22b bs).drained && (([] : List (Int × Sp)) ++ []).isEmpty) }
theorem head22 {n : Nm} {F : Nat → Prop} (bs : Bytes) (hbs : bs.length ≤ 100000) (w : World) (h : Cw w n (q22b bs) F) : Calls Tryz.prog 22 #[Ptr n.c, .int .i64 1, .int .i64 200, .slice none 0 0, .bool true] w fun r w' => r = .returned (.int .i64 0) ∧ Goes w n F w' (q22c bs) :=
 Head_ok w h 1 (by decide) (a := []) (c := []) (s := { st := 2 }) rfl rfl rfl rfl rfl rfl (by show (bs ++ frB 4 1 0 []).length ≤ _;rw [List.length_append, frB_length];simp;omega)
theorem out22 {n : Nm} {F : Nat → Prop} (w : World) (h : Cw w n (q22c bs22) F) : Calls Tryz.prog 26 #[Ptr n.c] w fun r w' => ∃ a c, r = .returned (.slice a 52 c) ∧ ∃ q', Goes w n F w' q' := by
 refine (Out_any w h).mono ?_
 rintro r w' ⟨v, rfl, hr, -, hg⟩
 obtain ⟨a, c, rfl⟩ := own_form hr
 exact ⟨a, c, rfl, _, hg⟩
set_option maxRecDepth 100000 in
set_option maxHeartbeats 8000000 in
theorem awake22_any (w : World) : Calls Tryz.prog 16 #[] w fun e w' => e = .returned (.bool true) ∧ Below w.heap.size w w' := by
 go_enter Tryz.func16, Tryz.ntmps16
 go_wp2_with first
  | (go_at_call 18;go_must ((with_reducible refine (Limits_any _).mono ?_);rintro r w1 ⟨rfl, hb1⟩))
  | (go_at_call 17;go_must ((with_reducible refine (new22 _).mono ?_);rintro r w2 ⟨n, F, rfl, hnB, hC2, hb2⟩;have hb02 := hb1.trans (hb2.mono hb1.size)))
  | (go_at_call 31;go_must ((with_reducible refine (Hello_any _).mono ?_);rintro r w3 ⟨v3, rfl, hr3, hb3⟩))
  | (go_at_call 21;go_must ((with_reducible refine (get22 _).mono ?_);rintro r w4 ⟨rfl, hb4⟩;have hb5 : Below w4.heap.size w4 (w4.alloc (.cells #[.int .i64 1, .int .i64 5, .int .i64 1, S dX, .int .i64 0, .slice none 0 0, .int .i64 0, .int .i64 0, .int .i64 0, .int .i64 0, .int .i64 0, .bool false] 34)) := (Below.refl _ _).alloc (Nat.le_refl _) _;have hb25 := (hb3.trans (hb4.mono hb3.size)).trans (hb5.mono (hb3.trans (hb4.mono hb3.size)).size)))
  | (go_at_call 20;go_must ((with_reducible refine (bytes22 _ (Blk.new _ _ _)).mono ?_);rintro r w6 ⟨v6, rfl, hr6, hb6⟩;have hb26 := hb25.trans (hb6.mono hb25.size);have hr36 := own_below hr3 ((hb4.trans (hb5.mono hb4.size)).trans (hb6.mono (hb4.trans (hb5.mono hb4.size)).size))))
  | (at_builtin;refine wpList_appAt rfl _ _ 26 rfl w2.heap.size 5 (.int .u8 0) 1 1 Tryz.underlying26 (by kernel_rfl) rfl (by decide) _ _ _ rfl hr36 _ _ _ _ rfl (Rd.own hr6) (b8_one2 _) (by decide) (by decide) hb26.size ?_;intro a7 c7 w7 hown7 hg7 hat7;have hb67 : Below w2.heap.size w6 w7 := (but_grow hg7).below (fun k hk => (hr36.lt k hk.symm).1) hb26.size;have hb27 := hb26.trans hb67;have hC7 := hC2.on hb27;have hTk : Calls Tryz.prog 19 #[Ptr n.c, .slice a7 (prefB.length + (frB 4 0 0 []).length + (frB 1 5 1 dX).length) c7] w7 _ := Take_get bs22 (by decide) _ w7 hC7 (by22 hown7);have hb07 := hb02.trans (hb27.mono hb02.size))
  | (go_at_call 19;go_must ((with_reducible refine hTk.mono ?_);rintro r w8 ⟨v8, j8, rfl, hn8, hG8⟩;obtain rfl : j8 = 1 := (by have h1 := hn8.1;have e : (q22b bs22).news.length = 10 := rfl;omega);obtain ⟨a8, c8, rfl⟩ := own_form hn8;obtain ⟨g8, rfl, hcell⟩ := row_cell hn8 (by decide);have k0 : w8.cell? ⟨g8, 0, none⟩ = some (.int .i64 1) := hcell 0 _ rfl;have k5 : w8.cell? ⟨g8, 5, none⟩ = some (S [47, 120]) := hcell 5 _ rfl;have hz7 : n.B ≤ w7.heap.size := (by have := hb2.size;have := hb27.size;omega);have hb78 := hG8.below hC7 hz7;obtain ⟨F8, hC8, hB8, hs8⟩ := hG8;have hHd := head22 bs22 (by decide) w8 hC8))
  | (go_at_call 22;go_must ((with_reducible refine hHd.mono ?_);rintro r w9 ⟨rfl, hG9⟩;have hb89 := hG9.below hC8 (Nat.le_trans hz7 hb78.size);obtain ⟨F9, hC9, hB9, hs9⟩ := hG9;have hSt := State_done w9 hC9 1 (fun p hp => by cases hp) (fun p hp => by cases hp) (by decide) (show ¬ ((1 : Nat) : Int) < 1 by decide) (by decide) (show ((1 : Nat) : Int) < 4294967296 by decide);have hOu := out22 w9 hC9))
  | (go_at_call 29;go_must ((with_reducible refine hSt.mono ?_);rintro r w10 ⟨rfl, e10⟩;subst e10))
  | (go_at_call 26;go_must ((with_reducible refine hOu.mono ?_);rintro r w11 ⟨a11, c11, rfl, q11, hG11⟩))
 go_ret
 have hwB : w.heap.size ≤ n.B := by have := hb1.size;omega
 have hb911 := hG11.below hC9 (Nat.le_trans (Nat.le_trans hz7 hb78.size) hb89.size)
 exact ⟨rfl, ((hb07.trans (hb78.mono hwB)).trans (hb89.mono hwB)).trans (hb911.mono hwB)⟩
end Go.Proofs.YtkeeofhjdffhbaaGreatDoor
namespace Go.Proofs.YtkeeofhjdffhbaaGreatDoor
open Go Go.RowKit Go.Dr
variable {w w' : World} {n : Nm} {m m' : Mm} {q q' : Cq}
/-- how streams ended turns alone -/
theorem Cx.goesH (hx : Cx w n m q) (hb : But (fun g => g = n.hm) w w') (how : List (Int × Int)) (ho : IMp w' n.hm how) : Cx w' n m { q with how := how } ∧ GoesF w n (Foot n m q) w' { q with how := how } (Foot n m { q with how := how }) := by
 have h := hx.upH hb (fun g hg => .inl hg) how ho
 exact ⟨h, h.goesF (hb.more fun g hg => by rw [hg];exact Foot.hm) fun g hg => .inl hg⟩
/-- one more is closed -/
theorem Cx.goesQ (hx : Cx w n m q) {cv : Value} {k : Nat} {xs : List Value} (hb : But (fun g => g = n.c ∨ some g = m.cv.ownBlock) w w') (i : Int) (hc : Blk w' n.c 126 (ccells n { m with cv := cv } { q with closed := q.closed ++ [i] })) (hcv : w'.ownsRow n.B 3 1 cv (q.closed ++ [i]).length ((q.closed ++ [i]).map fun x => .int .i64 x)) (hnew : ∀ g, some g = cv.ownBlock → some g = m.cv.ownBlock ∨ w.heap.size ≤ g) :
  Cx w' n { m with cv := cv } { q with closed := q.closed ++ [i] } ∧ GoesF w n (Foot n m q) w' { q with closed := q.closed ++ [i] } (Foot n { m with cv := cv } { q with closed := q.closed ++ [i] }) := by
 obtain ⟨kc, -, -, -, -, -, -, -, -, -, -, -, -, -, kbv, knv, kcv, ksd⟩ := hx.kinds
 obtain ⟨k, hn⟩ := hx.news
 have hX := hx.upC hb (fun g hg => by
   rcases hg with rfl | hg
   ·exact .inl kc
   ·exact .inr (.inr (.inr (kcv g hg)))) { m with cv := cv } { q with closed := q.closed ++ [i] } hc
  (own_same hx.bytes fun g hg => hb.block g (own_lt hx.bytes hg).2 (by
   have := kbv g hg
   rintro (rfl | e)
   ·omega
   ·have := kcv g e;omega))
  ⟨k, own_same hn fun g hg => hb.block g (own_lt hn hg).2 (by
   have := knv g hg
   rintro (rfl | e)
   ·omega
   ·have := kcv g e;omega)⟩
  hcv
  (fun p hp g hg => ⟨by
   have := (ksd p hp).2 g hg
   rintro (rfl | e)
   ·omega
   ·have := kcv g e;omega, hx.bp p hp g hg⟩) rfl rfl rfl
 refine ⟨hX, hX.goesF (hb.more fun g hg => by
  rcases hg with rfl | hg
  ·exact Foot.c _ _ _
  ·exact Foot.cv hg) fun g hg => ?_⟩
 rcases foot_rows (m := m) (q := q) hg rfl rfl rfl with hg | hg | hg | hg
 ·exact .inl hg
 ·exact .inl (Foot.bv hg)
 ·exact .inl (Foot.nv hg)
 ·rcases hnew g hg with e | e
  ·exact .inl (Foot.cv e)
  ·exact .inr e
set_option maxRecDepth 100000 in
set_option maxHeartbeats 4000000 in
/-- a stream is dropped -/
theorem Settle_drop {F : Nat → Prop} (w : World) (h : Cw w n q F) (i st : Int) (hi : I64 i) (hst : (st == 4) = false) (hn : ∀ p ∈ q.how, p.1 ≠ i) (hcl : q.closed.length < 16) (hhl : q.how.length < 1000) :
  Calls Tryz.prog 129 #[Ptr n.c, .int .i64 i, .int .i64 st] w fun e w' => e = .returned (.tuple #[]) ∧ Goes w n F w' { q with live := sans q.live i, off := sans q.off i, closed := q.closed ++ [i], how := q.how ++ [(i, st)] } := by
 have h0 := h
 obtain ⟨m, hx, rfl⟩ := h
 have hB : n.B ≤ w.heap.size := Nat.le_trans (hx.lo _ (Foot.c _ _ _)) (Nat.le_of_lt hx.blk.lt)
 have y9 : w.cell? ⟨n.c, 9, none⟩ = some (.map (some n.lm)) := hx.blk.cell 9
 obtain ⟨w2, hrun, hl, ht⟩ := hx.live.del hi 0
 obtain ⟨hx2, hg2⟩ := hx.goesL (but_turn2 ht) i hl
 have y7 : w2.cell? ⟨n.c, 7, none⟩ = some (Ptr n.bk) := hx2.blk.cell 7
 have hS := Shut_any w2 ⟨m, hx2, rfl⟩ i hi
 go_enter Tryz.func129, Tryz.ntmps129
 go_upto_region 3 with (go_at_call 178;(with_reducible refine hS.mono ?_);rintro e w3 ⟨rfl, hg3⟩)
 obtain ⟨F3, k3⟩ := hg2.step hg3
 obtain ⟨m3, hx3, rfl⟩ := k3.h
 have hz3 : n.B ≤ w3.heap.size := Nat.le_trans hB k3.b.size
 have y11 : w3.cell? ⟨n.c, 11, none⟩ = some (.map (some n.hm)) := hx3.blk.cell 11
 have hk := (hx3.how.outH hi hn).1
 have y10 : ∀ ob, (w3.alloc ob).cell? ⟨n.c, 10, none⟩ = some m3.cv := fun ob => (hx3.blk.alloc ob).cell 10
 have y10' : w3.cell? ⟨n.c, 10, none⟩ = some m3.cv := hx3.blk.cell 10
 have hne := hx3.row_ne hx3.closed (by decide)
 clear y9 y7
 go_upto_region 6 with (at_builtin;go_must (refine wpList_appAt rfl _ _ 85 rfl n.B 3 (.int .i64 0) 1 8 Tryz.underlying85 (by kernel_rfl) rfl (by decide) _ _ _ rfl (hx3.closed.alloc _) _ _ 1 [.int .i64 i] rfl (Rd.lit w3 3 #[.int .i64 i] 1 1 rfl (by decide)) (by intro u hu;simp at hu;rw [hu];rfl) (by unfold maxLen;show q.closed.length + 1 ≤ _;omega) (by show (q.closed.length + 1) * 8 ≤ _;omega) (by simp;omega) ?_;intro a5 c5 w5 hown5 hg5 hat5);have hR5 := Blk.grow (hx3.blk.alloc (.cells #[.int .i64 i] 3)) hg5 hne;have f10 := hR5.free 10;have z10 : w5.cell? ⟨n.c, 10, none⟩ = some m3.cv := hR5.cell 10)
 obtain ⟨bv, ebv⟩ : ∃ bv : Value, bv = .slice a5 (q.closed.length + 1) c5 := ⟨_, rfl⟩
 have hbA : Below w3.heap.size w3 (w3.alloc (.cells #[.int .i64 i] 3)) := (Below.refl _ _).alloc (Nat.le_refl _) _
 have hbt : But (fun g => g = n.c ∨ some g = m3.cv.ownBlock) w3 (w5.setCell ⟨n.c, 10, none⟩ bv) := ((But.of_below hbA).trans ((but_grow hg5).more (fun i hi => .inr hi))).setCell (p := ⟨n.c, 10, none⟩) (.inl (.inl rfl)) _
 have hnew : ∀ g, some g = bv.ownBlock → some g = m3.cv.ownBlock ∨ w3.heap.size ≤ g := fun g hg => by
  rw [ebv] at hg
  rcases hat5 with e | e
  ·exact .inl (hg.trans e)
  ·have := Option.some.inj (hg.trans e)
   simp at this
   exact .inr (by omega)
 obtain ⟨hx6, k6⟩ := hx3.goesQ (k := 0) (xs := []) hbt i (by
   have := hR5.set 10 bv
   exact this) (by
  have := ownsRow_setCell_other hown5 (a := ⟨n.c, 10, none⟩) (fun e => by
   rcases hat5 with e1 | e1
   ·exact hne (e.symm.trans e1)
   ·have e2 := Option.some.inj (e.symm.trans e1)
    have := hx3.blk.lt
    simp at e2
    omega) bv
  rw [ebv] at this ⊢
  simpa [List.length_append, List.map_append] using this) hnew
 rw [← ebv]
 refine wp_cut (R := fun W => ∃ cv a c, cv = .slice a (q.closed.length + 1) c ∧ Cx W n { m3 with cv := cv } { q with live := sans q.live i, off := sans q.off i, closed := q.closed ++ [i] } ∧ GoesF w n (Foot n m q) W { q with live := sans q.live i, off := sans q.off i, closed := q.closed ++ [i] } (Foot n { m3 with cv := cv } { q with live := sans q.live i, off := sans q.off i, closed := q.closed ++ [i] })) ⟨bv, a5, c5, ebv, hx6, k3.comp k6⟩ ?_
 clear hx6 k6 hnew hbt hbA ebv hR5 f10 z10 hat5 hg5 hown5 y10 y10' y11 hk hS
 rintro W7 ⟨_, a7, c7, rfl, hx7, k7⟩
 have y11 : W7.cell? ⟨n.c, 11, none⟩ = some (.map (some n.hm)) := hx7.blk.cell 11
 obtain ⟨w8, r8, ho8, t8⟩ := hx7.how.putH hi hn (by unfold maxLen;show q.how.length < _;omega) st
 obtain ⟨hx8, k8⟩ := hx7.goesH (but_turn2 t8) _ ho8
 have y10 : w8.cell? ⟨n.c, 10, none⟩ = some (.slice a7 (q.closed.length + 1) c7) := hx8.blk.cell 10
 have hcl1 : ¬ (16 : Int) < ((q.closed.length + 1 : Nat) : Int) := by omega
 have hcl2 : decide (16 < q.closed.length + 1) = false := by simp;omega
 go_wp2
 go_end0
 exact ⟨rfl, (k7.comp k8).goes⟩
/-- a frame that says goodbye -/
abbrev awayB (last code : Nat) : Bytes := frB 7 0 0 (beP last 4 ++ beP code 4)
set_option maxRecDepth 100000 in
set_option maxHeartbeats 4000000 in
/-- behind its end nothing comes -/
theorem Take_over {F : Nat → Prop} (w : World) (h : Cw w n q F) (hov : q.over = true) (v : Value) :
  Calls Tryz.prog 19 #[Ptr n.c, v] w fun e w' => e = .returned (.slice none 0 0) ∧ w' = w := by
 obtain ⟨m, hx, rfl⟩ := h
 have y19 : w.cell? ⟨n.c, 19, none⟩ = some (.bool true) := by rw [← hov];exact hx.blk.cell 19
 go_enter Tryz.func19, Tryz.ntmps19
 go_wp2
 go_ret
 exact ⟨rfl, rfl⟩
end Go.Proofs.YtkeeofhjdffhbaaGreatDoor
