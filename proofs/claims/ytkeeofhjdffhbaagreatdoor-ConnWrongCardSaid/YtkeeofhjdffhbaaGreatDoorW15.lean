/- Parts of the proof of wr_root: the texts Fpt2. -/
import Derived.Test.YtkeeofhjdffhbaaGreatDoorW14
set_option linter.unusedSimpArgs false
set_option linter.unusedVariables false
set_option linter.unnecessarySimpa false
namespace Go.Proofs.YtkeeofhjdffhbaaGreatDoor
open Go.RowKit Go.Dr
set_option maxRecDepth 100000 in
set_option maxHeartbeats 4000000 in
theorem bare_Set (fl st : Nat) (w : World) : Calls Tryz.prog 176 #[.agg #[.int .i64 4, .int .i64 (fl : Int), .int .i64 (st : Int), S [], .int .i64 0, .slice none 0 0, .int .i64 0, .int .i64 0, .int .i64 0, .int .i64 0, .int .i64 0, .bool false]] w fun e w' => e = .returned (.agg #[.int .i64 4, .int .i64 (fl : Int), .int .i64 (st : Int), S [], .int .i64 0, .slice none 0 0, .int .i64 0, .int .i64 0, .int .i64 0, .int .i64 0, .int .i64 0, .bool false]) ∧ Below w.heap.size w w' := by
 obtain ⟨W, eW⟩ : ∃ W, W = (w.alloc (.cells #[.int .i64 4, .int .i64 (fl : Int), .int .i64 (st : Int), S [], .int .i64 0, .slice none 0 0, .int .i64 0, .int .i64 0, .int .i64 0, .int .i64 0, .int .i64 0, .bool false] 34)).alloc (.cells #[.int .i64 0, .int .i64 0, .int .i64 0, S [], .int .i64 0, .slice none 0 0, .int .i64 0, .int .i64 0, .int .i64 0, .int .i64 0, .int .i64 0, .bool false] 34) := ⟨_, rfl⟩
 have hA : Blk W w.heap.size 34 #[.int .i64 4, .int .i64 (fl : Int), .int .i64 (st : Int), S [], .int .i64 0, .slice none 0 0, .int .i64 0, .int .i64 0, .int .i64 0, .int .i64 0, .int .i64 0, .bool false] := by rw [eW];exact (Blk.new _ _ _).alloc _
 have hZ : Blk W (w.heap.size + 1) 34 #[.int .i64 0, .int .i64 0, .int .i64 0, S [], .int .i64 0, .slice none 0 0, .int .i64 0, .int .i64 0, .int .i64 0, .int .i64 0, .int .i64 0, .bool false] := by rw [eW];exact bnew_at _ _ _ _ (by simp)
 have hb : Below w.heap.size w W := by rw [eW];exact ((Below.refl _ _).alloc (Nat.le_refl _) _).alloc (by simp) _
 have a0 : W.cell? ⟨w.heap.size, 0, none⟩ = some (.int .i64 4) := hA.cell 0
 have a1 : W.cell? ⟨w.heap.size, 1, none⟩ = some (.int .i64 (fl : Int)) := hA.cell 1
 have a2 : W.cell? ⟨w.heap.size, 2, none⟩ = some (.int .i64 (st : Int)) := hA.cell 2
 have a3 : W.cell? ⟨w.heap.size, 3, none⟩ = some (S []) := hA.cell 3
 have a4 : W.cell? ⟨w.heap.size, 4, none⟩ = some (.int .i64 0) := hA.cell 4
 have a5 : W.cell? ⟨w.heap.size, 5, none⟩ = some (.slice none 0 0) := hA.cell 5
 have a6 : W.cell? ⟨w.heap.size, 6, none⟩ = some (.int .i64 0) := hA.cell 6
 have a7 : W.cell? ⟨w.heap.size, 7, none⟩ = some (.int .i64 0) := hA.cell 7
 have a8 : W.cell? ⟨w.heap.size, 8, none⟩ = some (.int .i64 0) := hA.cell 8
 have a9 : W.cell? ⟨w.heap.size, 9, none⟩ = some (.int .i64 0) := hA.cell 9
 have a10 : W.cell? ⟨w.heap.size, 10, none⟩ = some (.int .i64 0) := hA.cell 10
 have a11 : W.cell? ⟨w.heap.size, 11, none⟩ = some (.bool false) := hA.cell 11
 have b3 := hA.free 3
 have b5 := hA.free 5
 have b6 := hA.free 6
 have b7 := hA.free 7
 have b8 := hA.free 8
 have z0 : W.cell? ⟨w.heap.size + 1, 0, none⟩ = some (.int .i64 0) := hZ.cell 0
 have z1 : W.cell? ⟨w.heap.size + 1, 1, none⟩ = some (.int .i64 0) := hZ.cell 1
 have z2 : W.cell? ⟨w.heap.size + 1, 2, none⟩ = some (.int .i64 0) := hZ.cell 2
 have z3 : W.cell? ⟨w.heap.size + 1, 3, none⟩ = some (S []) := hZ.cell 3
 have z4 : W.cell? ⟨w.heap.size + 1, 4, none⟩ = some (.int .i64 0) := hZ.cell 4
 have z5 : W.cell? ⟨w.heap.size + 1, 5, none⟩ = some (.slice none 0 0) := hZ.cell 5
 have z6 : W.cell? ⟨w.heap.size + 1, 6, none⟩ = some (.int .i64 0) := hZ.cell 6
 have z7 : W.cell? ⟨w.heap.size + 1, 7, none⟩ = some (.int .i64 0) := hZ.cell 7
 have z8 : W.cell? ⟨w.heap.size + 1, 8, none⟩ = some (.int .i64 0) := hZ.cell 8
 have z9 : W.cell? ⟨w.heap.size + 1, 9, none⟩ = some (.int .i64 0) := hZ.cell 9
 have z10 : W.cell? ⟨w.heap.size + 1, 10, none⟩ = some (.int .i64 0) := hZ.cell 10
 have z11 : W.cell? ⟨w.heap.size + 1, 11, none⟩ = some (.bool false) := hZ.cell 11
 have y0 := hZ.free 0
 have y1 := hZ.free 1
 have y2 := hZ.free 2
 have y3 := hZ.free 3
 have y4 := hZ.free 4
 have y5 := hZ.free 5
 have y6 := hZ.free 6
 have y7 := hZ.free 7
 have y8 := hZ.free 8
 have y9 := hZ.free 9
 have y10 := hZ.free 10
 have y11 := hZ.free 11
 go_enter Tryz.func176, Tryz.ntmps176
 go_upto_region 1 with fail
 rw [← eW]
 clear eW
 go_wp2
 refine bodyPost_ret (results_cell1 Tryz.results176 rfl (run_loadVar_row _ (w.heap.size + 1) 34 34 _ (0, 0) _ (set12 ((hZ.other (p := ⟨w.heap.size, 5, none⟩) (by simp) (.slice none 0 0))) _ _ _ _ _ _ _ _ _ _ _ _) Tryz.underlying34 (by rfl) (by kernel_rfl))) rfl ⟨rfl, bel12 ((hb.setCell (p := ⟨w.heap.size, 5, none⟩) (Nat.le_refl _) (.slice none 0 0))) (by omega) _ _ _ _ _ _ _ _ _ _ _ _⟩
set_option maxRecDepth 100000 in
set_option maxHeartbeats 4000000 in
theorem empty_4 (fl st : Nat) (w : World) : Calls Tryz.prog 175 #[.agg #[.int .i64 4, .int .i64 (fl : Int), .int .i64 (st : Int), S [], .int .i64 0, .slice none 0 0, .int .i64 0, .int .i64 0, .int .i64 0, .int .i64 0, .int .i64 0, .bool false]] w fun e w' => e = .returned (.bool true) ∧ Below w.heap.size w w' := by
 go_enter Tryz.func175, Tryz.ntmps175
 go_wp2
 go_ret
 exact ⟨rfl, (Below.refl _ _).alloc (Nat.le_refl _) _⟩
set_option maxRecDepth 100000 in
set_option maxHeartbeats 4000000 in
theorem pmay_Set (fl st : Nat) (hfl : fl < 256) (hst : st < 2147483648) (w : World) : Calls Tryz.prog 123 #[.agg #[.int .i64 4, .int .i64 (fl : Int), .int .i64 (st : Int), S [], .int .i64 0, .slice none 0 0, .int .i64 0, .int .i64 0, .int .i64 0, .int .i64 0, .int .i64 0, .bool false]] w fun e w' => e = .returned (.bool true) ∧ Below w.heap.size w w' := by
 obtain ⟨W, eW⟩ : ∃ W, W = w.alloc (.cells #[.int .i64 4, .int .i64 (fl : Int), .int .i64 (st : Int), S [], .int .i64 0, .slice none 0 0, .int .i64 0, .int .i64 0, .int .i64 0, .int .i64 0, .int .i64 0, .bool false] 34) := ⟨_, rfl⟩
 have hA : Blk W w.heap.size 34 #[.int .i64 4, .int .i64 (fl : Int), .int .i64 (st : Int), S [], .int .i64 0, .slice none 0 0, .int .i64 0, .int .i64 0, .int .i64 0, .int .i64 0, .int .i64 0, .bool false] := by rw [eW];exact Blk.new _ _ _
 have hb : Below w.heap.size w W := by rw [eW];exact (Below.refl _ _).alloc (Nat.le_refl _) _
 have a0 : W.cell? ⟨w.heap.size, 0, none⟩ = some (.int .i64 4) := hA.cell 0
 have a1 : W.cell? ⟨w.heap.size, 1, none⟩ = some (.int .i64 (fl : Int)) := hA.cell 1
 have a2 : W.cell? ⟨w.heap.size, 2, none⟩ = some (.int .i64 (st : Int)) := hA.cell 2
 have a3 : W.cell? ⟨w.heap.size, 3, none⟩ = some (S []) := hA.cell 3
 have a4 : W.cell? ⟨w.heap.size, 4, none⟩ = some (.int .i64 0) := hA.cell 4
 have a5 : W.cell? ⟨w.heap.size, 5, none⟩ = some (.slice none 0 0) := hA.cell 5
 have a6 : W.cell? ⟨w.heap.size, 6, none⟩ = some (.int .i64 0) := hA.cell 6
 have a7 : W.cell? ⟨w.heap.size, 7, none⟩ = some (.int .i64 0) := hA.cell 7
 have a8 : W.cell? ⟨w.heap.size, 8, none⟩ = some (.int .i64 0) := hA.cell 8
 have a9 : W.cell? ⟨w.heap.size, 9, none⟩ = some (.int .i64 0) := hA.cell 9
 have a10 : W.cell? ⟨w.heap.size, 10, none⟩ = some (.int .i64 0) := hA.cell 10
 have a11 : W.cell? ⟨w.heap.size, 11, none⟩ = some (.bool false) := hA.cell 11
 have hw1 := fun (b : Nat) (w : World) (h : Blk w b 2 #[.int .i64 4, .int .i64 (fl : Int), .int .i64 0, .int .i64 0]) => Within4 255 _ _ _ _ b w h (by omega) (by omega) (by omega) (by omega)
 have hw2 := fun (b : Nat) (w : World) (h : Blk w b 2 #[.int .i64 (st : Int), .int .i64 0, .int .i64 0, .int .i64 0]) => Within4 2147483647 _ _ _ _ b w h (by omega) (by omega) (by omega) (by omega)
 have hw3 := fun (b : Nat) (w : World) (h : Blk w b 2 #[.int .i64 0]) => Within1 4294967295 _ b w h (by omega)
 have hB := fun w => bare_Set fl st w
 have hE := fun w => empty_4 fl st w
 have hz := hb.size
 go_enter Tryz.func123, Tryz.ntmps123
 go_upto_region 1 with fail
 rw [← eW]
 clear eW
 go_wp2
 refine wp_loop_rounds 1 ?_
 rw [rounds_succ]
 go_wp2_with first
  | (go_at_call 174;(with_reducible refine (hw3 _ _ (Blk.new _ _ _)).mono ?_);rintro e w6 ⟨rfl, e6⟩;have hA6 : Blk w6 w.heap.size 34 #[.int .i64 4, .int .i64 (fl : Int), .int .i64 (st : Int), S [], .int .i64 0, .slice none 0 0, .int .i64 0, .int .i64 0, .int .i64 0, .int .i64 0, .int .i64 0, .bool false] := (by rw [e6];exact hA5.alloc _);have hb6 : Below w.heap.size w w6 := (by rw [e6];exact hb5.alloc hz5 _);clear e6;have hz6 := hb6.size;(have d60 : w6.cell? ⟨w.heap.size, 0, none⟩ = some (.int .i64 4) := hA6.cell 0;have d61 : w6.cell? ⟨w.heap.size, 1, none⟩ = some (.int .i64 (fl : Int)) := hA6.cell 1;have d62 : w6.cell? ⟨w.heap.size, 2, none⟩ = some (.int .i64 (st : Int)) := hA6.cell 2;have d63 : w6.cell? ⟨w.heap.size, 3, none⟩ = some (S []) := hA6.cell 3;have d64 : w6.cell? ⟨w.heap.size, 4, none⟩ = some (.int .i64 0) := hA6.cell 4;have d65 : w6.cell? ⟨w.heap.size, 5, none⟩ = some (.slice none 0 0) := hA6.cell 5;have d66 : w6.cell? ⟨w.heap.size, 6, none⟩ = some (.int .i64 0) := hA6.cell 6;have d67 : w6.cell? ⟨w.heap.size, 7, none⟩ = some (.int .i64 0) := hA6.cell 7;have d68 : w6.cell? ⟨w.heap.size, 8, none⟩ = some (.int .i64 0) := hA6.cell 8;have d69 : w6.cell? ⟨w.heap.size, 9, none⟩ = some (.int .i64 0) := hA6.cell 9;have d610 : w6.cell? ⟨w.heap.size, 10, none⟩ = some (.int .i64 0) := hA6.cell 10;have d611 : w6.cell? ⟨w.heap.size, 11, none⟩ = some (.bool false) := hA6.cell 11))
  | (go_at_call 174;(with_reducible refine (hw2 _ _ (Blk.new _ _ _)).mono ?_);rintro e w5 ⟨rfl, e5⟩;have hA5 : Blk w5 w.heap.size 34 #[.int .i64 4, .int .i64 (fl : Int), .int .i64 (st : Int), S [], .int .i64 0, .slice none 0 0, .int .i64 0, .int .i64 0, .int .i64 0, .int .i64 0, .int .i64 0, .bool false] := (by rw [e5];exact hA4.alloc _);have hb5 : Below w.heap.size w w5 := (by rw [e5];exact hb4.alloc hz4 _);clear e5;have hz5 := hb5.size;(have d50 : w5.cell? ⟨w.heap.size, 0, none⟩ = some (.int .i64 4) := hA5.cell 0;have d51 : w5.cell? ⟨w.heap.size, 1, none⟩ = some (.int .i64 (fl : Int)) := hA5.cell 1;have d52 : w5.cell? ⟨w.heap.size, 2, none⟩ = some (.int .i64 (st : Int)) := hA5.cell 2;have d53 : w5.cell? ⟨w.heap.size, 3, none⟩ = some (S []) := hA5.cell 3;have d54 : w5.cell? ⟨w.heap.size, 4, none⟩ = some (.int .i64 0) := hA5.cell 4;have d55 : w5.cell? ⟨w.heap.size, 5, none⟩ = some (.slice none 0 0) := hA5.cell 5;have d56 : w5.cell? ⟨w.heap.size, 6, none⟩ = some (.int .i64 0) := hA5.cell 6;have d57 : w5.cell? ⟨w.heap.size, 7, none⟩ = some (.int .i64 0) := hA5.cell 7;have d58 : w5.cell? ⟨w.heap.size, 8, none⟩ = some (.int .i64 0) := hA5.cell 8;have d59 : w5.cell? ⟨w.heap.size, 9, none⟩ = some (.int .i64 0) := hA5.cell 9;have d510 : w5.cell? ⟨w.heap.size, 10, none⟩ = some (.int .i64 0) := hA5.cell 10;have d511 : w5.cell? ⟨w.heap.size, 11, none⟩ = some (.bool false) := hA5.cell 11))
  | (go_at_call 174;(with_reducible refine (hw1 _ _ (Blk.new _ _ _)).mono ?_);rintro e w4 ⟨rfl, e4⟩;have hA4 : Blk w4 w.heap.size 34 #[.int .i64 4, .int .i64 (fl : Int), .int .i64 (st : Int), S [], .int .i64 0, .slice none 0 0, .int .i64 0, .int .i64 0, .int .i64 0, .int .i64 0, .int .i64 0, .bool false] := (by rw [e4];exact hA.alloc _);have hb4 : Below w.heap.size w w4 := (by rw [e4];exact hb.alloc hz _);clear e4;have hz4 := hb4.size;(have d40 : w4.cell? ⟨w.heap.size, 0, none⟩ = some (.int .i64 4) := hA4.cell 0;have d41 : w4.cell? ⟨w.heap.size, 1, none⟩ = some (.int .i64 (fl : Int)) := hA4.cell 1;have d42 : w4.cell? ⟨w.heap.size, 2, none⟩ = some (.int .i64 (st : Int)) := hA4.cell 2;have d43 : w4.cell? ⟨w.heap.size, 3, none⟩ = some (S []) := hA4.cell 3;have d44 : w4.cell? ⟨w.heap.size, 4, none⟩ = some (.int .i64 0) := hA4.cell 4;have d45 : w4.cell? ⟨w.heap.size, 5, none⟩ = some (.slice none 0 0) := hA4.cell 5;have d46 : w4.cell? ⟨w.heap.size, 6, none⟩ = some (.int .i64 0) := hA4.cell 6;have d47 : w4.cell? ⟨w.heap.size, 7, none⟩ = some (.int .i64 0) := hA4.cell 7;have d48 : w4.cell? ⟨w.heap.size, 8, none⟩ = some (.int .i64 0) := hA4.cell 8;have d49 : w4.cell? ⟨w.heap.size, 9, none⟩ = some (.int .i64 0) := hA4.cell 9;have d410 : w4.cell? ⟨w.heap.size, 10, none⟩ = some (.int .i64 0) := hA4.cell 10;have d411 : w4.cell? ⟨w.heap.size, 11, none⟩ = some (.bool false) := hA4.cell 11))
  | (go_at_call 176;(with_reducible refine (hB _).mono ?_);rintro e w7 ⟨rfl, hb7⟩)
  | (go_at_call 175;(with_reducible refine (hE _).mono ?_);rintro e w8 ⟨rfl, hb8⟩)
 go_ret
 refine ⟨rfl, ?_⟩
 exact (hb6.trans (hb7.mono hz6)).trans (hb8.mono (Nat.le_trans hz6 hb7.size))
set_option maxRecDepth 100000 in
set_option maxHeartbeats 4000000 in
theorem bare_Win (fl st inc : Nat) (w : World) : Calls Tryz.prog 176 #[.agg #[.int .i64 8, .int .i64 (fl : Int), .int .i64 (st : Int), S [], .int .i64 0, .slice none 0 0, .int .i64 0, .int .i64 0, .int .i64 (inc : Int), .int .i64 0, .int .i64 0, .bool false]] w fun e w' => e = .returned (.agg #[.int .i64 8, .int .i64 (fl : Int), .int .i64 (st : Int), S [], .int .i64 0, .slice none 0 0, .int .i64 0, .int .i64 0, .int .i64 0, .int .i64 0, .int .i64 0, .bool false]) ∧ Below w.heap.size w w' := by
 obtain ⟨W, eW⟩ : ∃ W, W = (w.alloc (.cells #[.int .i64 8, .int .i64 (fl : Int), .int .i64 (st : Int), S [], .int .i64 0, .slice none 0 0, .int .i64 0, .int .i64 0, .int .i64 (inc : Int), .int .i64 0, .int .i64 0, .bool false] 34)).alloc (.cells #[.int .i64 0, .int .i64 0, .int .i64 0, S [], .int .i64 0, .slice none 0 0, .int .i64 0, .int .i64 0, .int .i64 0, .int .i64 0, .int .i64 0, .bool false] 34) := ⟨_, rfl⟩
 have hA : Blk W w.heap.size 34 #[.int .i64 8, .int .i64 (fl : Int), .int .i64 (st : Int), S [], .int .i64 0, .slice none 0 0, .int .i64 0, .int .i64 0, .int .i64 (inc : Int), .int .i64 0, .int .i64 0, .bool false] := by rw [eW];exact (Blk.new _ _ _).alloc _
 have hZ : Blk W (w.heap.size + 1) 34 #[.int .i64 0, .int .i64 0, .int .i64 0, S [], .int .i64 0, .slice none 0 0, .int .i64 0, .int .i64 0, .int .i64 0, .int .i64 0, .int .i64 0, .bool false] := by rw [eW];exact bnew_at _ _ _ _ (by simp)
 have hb : Below w.heap.size w W := by rw [eW];exact ((Below.refl _ _).alloc (Nat.le_refl _) _).alloc (by simp) _
 have a0 : W.cell? ⟨w.heap.size, 0, none⟩ = some (.int .i64 8) := hA.cell 0
 have a1 : W.cell? ⟨w.heap.size, 1, none⟩ = some (.int .i64 (fl : Int)) := hA.cell 1
 have a2 : W.cell? ⟨w.heap.size, 2, none⟩ = some (.int .i64 (st : Int)) := hA.cell 2
 have a3 : W.cell? ⟨w.heap.size, 3, none⟩ = some (S []) := hA.cell 3
 have a4 : W.cell? ⟨w.heap.size, 4, none⟩ = some (.int .i64 0) := hA.cell 4
 have a5 : W.cell? ⟨w.heap.size, 5, none⟩ = some (.slice none 0 0) := hA.cell 5
 have a6 : W.cell? ⟨w.heap.size, 6, none⟩ = some (.int .i64 0) := hA.cell 6
 have a7 : W.cell? ⟨w.heap.size, 7, none⟩ = some (.int .i64 0) := hA.cell 7
 have a8 : W.cell? ⟨w.heap.size, 8, none⟩ = some (.int .i64 (inc : Int)) := hA.cell 8
 have a9 : W.cell? ⟨w.heap.size, 9, none⟩ = some (.int .i64 0) := hA.cell 9
 have a10 : W.cell? ⟨w.heap.size, 10, none⟩ = some (.int .i64 0) := hA.cell 10
 have a11 : W.cell? ⟨w.heap.size, 11, none⟩ = some (.bool false) := hA.cell 11
 have b3 := hA.free 3
 have b5 := hA.free 5
 have b6 := hA.free 6
 have b7 := hA.free 7
 have b8 := hA.free 8
 have z0 : W.cell? ⟨w.heap.size + 1, 0, none⟩ = some (.int .i64 0) := hZ.cell 0
 have z1 : W.cell? ⟨w.heap.size + 1, 1, none⟩ = some (.int .i64 0) := hZ.cell 1
 have z2 : W.cell? ⟨w.heap.size + 1, 2, none⟩ = some (.int .i64 0) := hZ.cell 2
 have z3 : W.cell? ⟨w.heap.size + 1, 3, none⟩ = some (S []) := hZ.cell 3
 have z4 : W.cell? ⟨w.heap.size + 1, 4, none⟩ = some (.int .i64 0) := hZ.cell 4
 have z5 : W.cell? ⟨w.heap.size + 1, 5, none⟩ = some (.slice none 0 0) := hZ.cell 5
 have z6 : W.cell? ⟨w.heap.size + 1, 6, none⟩ = some (.int .i64 0) := hZ.cell 6
 have z7 : W.cell? ⟨w.heap.size + 1, 7, none⟩ = some (.int .i64 0) := hZ.cell 7
 have z8 : W.cell? ⟨w.heap.size + 1, 8, none⟩ = some (.int .i64 0) := hZ.cell 8
 have z9 : W.cell? ⟨w.heap.size + 1, 9, none⟩ = some (.int .i64 0) := hZ.cell 9
 have z10 : W.cell? ⟨w.heap.size + 1, 10, none⟩ = some (.int .i64 0) := hZ.cell 10
 have z11 : W.cell? ⟨w.heap.size + 1, 11, none⟩ = some (.bool false) := hZ.cell 11
 have y0 := hZ.free 0
 have y1 := hZ.free 1
 have y2 := hZ.free 2
 have y3 := hZ.free 3
 have y4 := hZ.free 4
 have y5 := hZ.free 5
 have y6 := hZ.free 6
 have y7 := hZ.free 7
 have y8 := hZ.free 8
 have y9 := hZ.free 9
 have y10 := hZ.free 10
 have y11 := hZ.free 11
 go_enter Tryz.func176, Tryz.ntmps176
 go_upto_region 1 with fail
 rw [← eW]
 clear eW
 go_wp2
 refine bodyPost_ret (results_cell1 Tryz.results176 rfl (run_loadVar_row _ (w.heap.size + 1) 34 34 _ (0, 0) _ (set12 ((hZ.other (p := ⟨w.heap.size, 8, none⟩) (by simp) (.int .i64 0))) _ _ _ _ _ _ _ _ _ _ _ _) Tryz.underlying34 (by rfl) (by kernel_rfl))) rfl ⟨rfl, bel12 ((hb.setCell (p := ⟨w.heap.size, 8, none⟩) (Nat.le_refl _) (.int .i64 0))) (by omega) _ _ _ _ _ _ _ _ _ _ _ _⟩
set_option maxRecDepth 100000 in
set_option maxHeartbeats 4000000 in
theorem empty_8 (fl st : Nat) (w : World) : Calls Tryz.prog 175 #[.agg #[.int .i64 8, .int .i64 (fl : Int), .int .i64 (st : Int), S [], .int .i64 0, .slice none 0 0, .int .i64 0, .int .i64 0, .int .i64 0, .int .i64 0, .int .i64 0, .bool false]] w fun e w' => e = .returned (.bool true) ∧ Below w.heap.size w w' := by
 go_enter Tryz.func175, Tryz.ntmps175
 go_wp2
 go_ret
 exact ⟨rfl, (Below.refl _ _).alloc (Nat.le_refl _) _⟩
set_option maxRecDepth 100000 in
set_option maxHeartbeats 4000000 in
theorem pmay_Win (fl st inc : Nat) (hfl : fl < 256) (hst : st < 2147483648) (hin : inc < 2147483648) (w : World) : Calls Tryz.prog 123 #[.agg #[.int .i64 8, .int .i64 (fl : Int), .int .i64 (st : Int), S [], .int .i64 0, .slice none 0 0, .int .i64 0, .int .i64 0, .int .i64 (inc : Int), .int .i64 0, .int .i64 0, .bool false]] w fun e w' => e = .returned (.bool true) ∧ Below w.heap.size w w' := by
 obtain ⟨W, eW⟩ : ∃ W, W = w.alloc (.cells #[.int .i64 8, .int .i64 (fl : Int), .int .i64 (st : Int), S [], .int .i64 0, .slice none 0 0, .int .i64 0, .int .i64 0, .int .i64 (inc : Int), .int .i64 0, .int .i64 0, .bool false] 34) := ⟨_, rfl⟩
 have hA : Blk W w.heap.size 34 #[.int .i64 8, .int .i64 (fl : Int), .int .i64 (st : Int), S [], .int .i64 0, .slice none 0 0, .int .i64 0, .int .i64 0, .int .i64 (inc : Int), .int .i64 0, .int .i64 0, .bool false] := by rw [eW];exact Blk.new _ _ _
 have hb : Below w.heap.size w W := by rw [eW];exact (Below.refl _ _).alloc (Nat.le_refl _) _
 have a0 : W.cell? ⟨w.heap.size, 0, none⟩ = some (.int .i64 8) := hA.cell 0
 have a1 : W.cell? ⟨w.heap.size, 1, none⟩ = some (.int .i64 (fl : Int)) := hA.cell 1
 have a2 : W.cell? ⟨w.heap.size, 2, none⟩ = some (.int .i64 (st : Int)) := hA.cell 2
 have a3 : W.cell? ⟨w.heap.size, 3, none⟩ = some (S []) := hA.cell 3
 have a4 : W.cell? ⟨w.heap.size, 4, none⟩ = some (.int .i64 0) := hA.cell 4
 have a5 : W.cell? ⟨w.heap.size, 5, none⟩ = some (.slice none 0 0) := hA.cell 5
 have a6 : W.cell? ⟨w.heap.size, 6, none⟩ = some (.int .i64 0) := hA.cell 6
 have a7 : W.cell? ⟨w.heap.size, 7, none⟩ = some (.int .i64 0) := hA.cell 7
 have a8 : W.cell? ⟨w.heap.size, 8, none⟩ = some (.int .i64 (inc : Int)) := hA.cell 8
 have a9 : W.cell? ⟨w.heap.size, 9, none⟩ = some (.int .i64 0) := hA.cell 9
 have a10 : W.cell? ⟨w.heap.size, 10, none⟩ = some (.int .i64 0) := hA.cell 10
 have a11 : W.cell? ⟨w.heap.size, 11, none⟩ = some (.bool false) := hA.cell 11
 have hw1 := fun (b : Nat) (w : World) (h : Blk w b 2 #[.int .i64 8, .int .i64 (fl : Int), .int .i64 0, .int .i64 0]) => Within4 255 _ _ _ _ b w h (by omega) (by omega) (by omega) (by omega)
 have hw2 := fun (b : Nat) (w : World) (h : Blk w b 2 #[.int .i64 (st : Int), .int .i64 0, .int .i64 0, .int .i64 (inc : Int)]) => Within4 2147483647 _ _ _ _ b w h (by omega) (by omega) (by omega) (by omega)
 have hw3 := fun (b : Nat) (w : World) (h : Blk w b 2 #[.int .i64 0]) => Within1 4294967295 _ b w h (by omega)
 have hB := fun w => bare_Win fl st inc w
 have hE := fun w => empty_8 fl st w
 have hz := hb.size
 go_enter Tryz.func123, Tryz.ntmps123
 go_upto_region 1 with fail
 rw [← eW]
 clear eW
 go_wp2
 refine wp_loop_rounds 1 ?_
 rw [rounds_succ]
 go_wp2_with first
  | (go_at_call 174;(with_reducible refine (hw3 _ _ (Blk.new _ _ _)).mono ?_);rintro e w6 ⟨rfl, e6⟩;have hA6 : Blk w6 w.heap.size 34 #[.int .i64 8, .int .i64 (fl : Int), .int .i64 (st : Int), S [], .int .i64 0, .slice none 0 0, .int .i64 0, .int .i64 0, .int .i64 (inc : Int), .int .i64 0, .int .i64 0, .bool false] := (by rw [e6];exact hA5.alloc _);have hb6 : Below w.heap.size w w6 := (by rw [e6];exact hb5.alloc hz5 _);clear e6;have hz6 := hb6.size;(have d60 : w6.cell? ⟨w.heap.size, 0, none⟩ = some (.int .i64 8) := hA6.cell 0;have d61 : w6.cell? ⟨w.heap.size, 1, none⟩ = some (.int .i64 (fl : Int)) := hA6.cell 1;have d62 : w6.cell? ⟨w.heap.size, 2, none⟩ = some (.int .i64 (st : Int)) := hA6.cell 2;have d63 : w6.cell? ⟨w.heap.size, 3, none⟩ = some (S []) := hA6.cell 3;have d64 : w6.cell? ⟨w.heap.size, 4, none⟩ = some (.int .i64 0) := hA6.cell 4;have d65 : w6.cell? ⟨w.heap.size, 5, none⟩ = some (.slice none 0 0) := hA6.cell 5;have d66 : w6.cell? ⟨w.heap.size, 6, none⟩ = some (.int .i64 0) := hA6.cell 6;have d67 : w6.cell? ⟨w.heap.size, 7, none⟩ = some (.int .i64 0) := hA6.cell 7;have d68 : w6.cell? ⟨w.heap.size, 8, none⟩ = some (.int .i64 (inc : Int)) := hA6.cell 8;have d69 : w6.cell? ⟨w.heap.size, 9, none⟩ = some (.int .i64 0) := hA6.cell 9;have d610 : w6.cell? ⟨w.heap.size, 10, none⟩ = some (.int .i64 0) := hA6.cell 10;have d611 : w6.cell? ⟨w.heap.size, 11, none⟩ = some (.bool false) := hA6.cell 11))
  | (go_at_call 174;(with_reducible refine (hw2 _ _ (Blk.new _ _ _)).mono ?_);rintro e w5 ⟨rfl, e5⟩;have hA5 : Blk w5 w.heap.size 34 #[.int .i64 8, .int .i64 (fl : Int), .int .i64 (st : Int), S [], .int .i64 0, .slice none 0 0, .int .i64 0, .int .i64 0, .int .i64 (inc : Int), .int .i64 0, .int .i64 0, .bool false] := (by rw [e5];exact hA4.alloc _);have hb5 : Below w.heap.size w w5 := (by rw [e5];exact hb4.alloc hz4 _);clear e5;have hz5 := hb5.size;(have d50 : w5.cell? ⟨w.heap.size, 0, none⟩ = some (.int .i64 8) := hA5.cell 0;have d51 : w5.cell? ⟨w.heap.size, 1, none⟩ = some (.int .i64 (fl : Int)) := hA5.cell 1;have d52 : w5.cell? ⟨w.heap.size, 2, none⟩ = some (.int .i64 (st : Int)) := hA5.cell 2;have d53 : w5.cell? ⟨w.heap.size, 3, none⟩ = some (S []) := hA5.cell 3;have d54 : w5.cell? ⟨w.heap.size, 4, none⟩ = some (.int .i64 0) := hA5.cell 4;have d55 : w5.cell? ⟨w.heap.size, 5, none⟩ = some (.slice none 0 0) := hA5.cell 5;have d56 : w5.cell? ⟨w.heap.size, 6, none⟩ = some (.int .i64 0) := hA5.cell 6;have d57 : w5.cell? ⟨w.heap.size, 7, none⟩ = some (.int .i64 0) := hA5.cell 7;have d58 : w5.cell? ⟨w.heap.size, 8, none⟩ = some (.int .i64 (inc : Int)) := hA5.cell 8;have d59 : w5.cell? ⟨w.heap.size, 9, none⟩ = some (.int .i64 0) := hA5.cell 9;have d510 : w5.cell? ⟨w.heap.size, 10, none⟩ = some (.int .i64 0) := hA5.cell 10;have d511 : w5.cell? ⟨w.heap.size, 11, none⟩ = some (.bool false) := hA5.cell 11))
  | (go_at_call 174;(with_reducible refine (hw1 _ _ (Blk.new _ _ _)).mono ?_);rintro e w4 ⟨rfl, e4⟩;have hA4 : Blk w4 w.heap.size 34 #[.int .i64 8, .int .i64 (fl : Int), .int .i64 (st : Int), S [], .int .i64 0, .slice none 0 0, .int .i64 0, .int .i64 0, .int .i64 (inc : Int), .int .i64 0, .int .i64 0, .bool false] := (by rw [e4];exact hA.alloc _);have hb4 : Below w.heap.size w w4 := (by rw [e4];exact hb.alloc hz _);clear e4;have hz4 := hb4.size;(have d40 : w4.cell? ⟨w.heap.size, 0, none⟩ = some (.int .i64 8) := hA4.cell 0;have d41 : w4.cell? ⟨w.heap.size, 1, none⟩ = some (.int .i64 (fl : Int)) := hA4.cell 1;have d42 : w4.cell? ⟨w.heap.size, 2, none⟩ = some (.int .i64 (st : Int)) := hA4.cell 2;have d43 : w4.cell? ⟨w.heap.size, 3, none⟩ = some (S []) := hA4.cell 3;have d44 : w4.cell? ⟨w.heap.size, 4, none⟩ = some (.int .i64 0) := hA4.cell 4;have d45 : w4.cell? ⟨w.heap.size, 5, none⟩ = some (.slice none 0 0) := hA4.cell 5;have d46 : w4.cell? ⟨w.heap.size, 6, none⟩ = some (.int .i64 0) := hA4.cell 6;have d47 : w4.cell? ⟨w.heap.size, 7, none⟩ = some (.int .i64 0) := hA4.cell 7;have d48 : w4.cell? ⟨w.heap.size, 8, none⟩ = some (.int .i64 (inc : Int)) := hA4.cell 8;have d49 : w4.cell? ⟨w.heap.size, 9, none⟩ = some (.int .i64 0) := hA4.cell 9;have d410 : w4.cell? ⟨w.heap.size, 10, none⟩ = some (.int .i64 0) := hA4.cell 10;have d411 : w4.cell? ⟨w.heap.size, 11, none⟩ = some (.bool false) := hA4.cell 11))
  | (go_at_call 176;(with_reducible refine (hB _).mono ?_);rintro e w7 ⟨rfl, hb7⟩)
  | (go_at_call 175;(with_reducible refine (hE _).mono ?_);rintro e w8 ⟨rfl, hb8⟩)
 go_ret
 refine ⟨rfl, ?_⟩
 exact (hb6.trans (hb7.mono hz6)).trans (hb8.mono (Nat.le_trans hz6 hb7.size))
set_option maxRecDepth 100000 in
set_option maxHeartbeats 4000000 in
theorem bare_Rst (fl st code : Nat) (w : World) : Calls Tryz.prog 176 #[.agg #[.int .i64 3, .int .i64 (fl : Int), .int .i64 (st : Int), S [], .int .i64 0, .slice none 0 0, .int .i64 (code : Int), .int .i64 0, .int .i64 0, .int .i64 0, .int .i64 0, .bool false]] w fun e w' => e = .returned (.agg #[.int .i64 3, .int .i64 (fl : Int), .int .i64 (st : Int), S [], .int .i64 0, .slice none 0 0, .int .i64 0, .int .i64 0, .int .i64 0, .int .i64 0, .int .i64 0, .bool false]) ∧ Below w.heap.size w w' := by
 obtain ⟨W, eW⟩ : ∃ W, W = (w.alloc (.cells #[.int .i64 3, .int .i64 (fl : Int), .int .i64 (st : Int), S [], .int .i64 0, .slice none 0 0, .int .i64 (code : Int), .int .i64 0, .int .i64 0, .int .i64 0, .int .i64 0, .bool false] 34)).alloc (.cells #[.int .i64 0, .int .i64 0, .int .i64 0, S [], .int .i64 0, .slice none 0 0, .int .i64 0, .int .i64 0, .int .i64 0, .int .i64 0, .int .i64 0, .bool false] 34) := ⟨_, rfl⟩
 have hA : Blk W w.heap.size 34 #[.int .i64 3, .int .i64 (fl : Int), .int .i64 (st : Int), S [], .int .i64 0, .slice none 0 0, .int .i64 (code : Int), .int .i64 0, .int .i64 0, .int .i64 0, .int .i64 0, .bool false] := by rw [eW];exact (Blk.new _ _ _).alloc _
 have hZ : Blk W (w.heap.size + 1) 34 #[.int .i64 0, .int .i64 0, .int .i64 0, S [], .int .i64 0, .slice none 0 0, .int .i64 0, .int .i64 0, .int .i64 0, .int .i64 0, .int .i64 0, .bool false] := by rw [eW];exact bnew_at _ _ _ _ (by simp)
 have hb : Below w.heap.size w W := by rw [eW];exact ((Below.refl _ _).alloc (Nat.le_refl _) _).alloc (by simp) _
 have a0 : W.cell? ⟨w.heap.size, 0, none⟩ = some (.int .i64 3) := hA.cell 0
 have a1 : W.cell? ⟨w.heap.size, 1, none⟩ = some (.int .i64 (fl : Int)) := hA.cell 1
 have a2 : W.cell? ⟨w.heap.size, 2, none⟩ = some (.int .i64 (st : Int)) := hA.cell 2
 have a3 : W.cell? ⟨w.heap.size, 3, none⟩ = some (S []) := hA.cell 3
 have a4 : W.cell? ⟨w.heap.size, 4, none⟩ = some (.int .i64 0) := hA.cell 4
 have a5 : W.cell? ⟨w.heap.size, 5, none⟩ = some (.slice none 0 0) := hA.cell 5
 have a6 : W.cell? ⟨w.heap.size, 6, none⟩ = some (.int .i64 (code : Int)) := hA.cell 6
 have a7 : W.cell? ⟨w.heap.size, 7, none⟩ = some (.int .i64 0) := hA.cell 7
 have a8 : W.cell? ⟨w.heap.size, 8, none⟩ = some (.int .i64 0) := hA.cell 8
 have a9 : W.cell? ⟨w.heap.size, 9, none⟩ = some (.int .i64 0) := hA.cell 9
 have a10 : W.cell? ⟨w.heap.size, 10, none⟩ = some (.int .i64 0) := hA.cell 10
 have a11 : W.cell? ⟨w.heap.size, 11, none⟩ = some (.bool false) := hA.cell 11
 have b3 := hA.free 3
 have b5 := hA.free 5
 have b6 := hA.free 6
 have b7 := hA.free 7
 have b8 := hA.free 8
 have z0 : W.cell? ⟨w.heap.size + 1, 0, none⟩ = some (.int .i64 0) := hZ.cell 0
 have z1 : W.cell? ⟨w.heap.size + 1, 1, none⟩ = some (.int .i64 0) := hZ.cell 1
 have z2 : W.cell? ⟨w.heap.size + 1, 2, none⟩ = some (.int .i64 0) := hZ.cell 2
 have z3 : W.cell? ⟨w.heap.size + 1, 3, none⟩ = some (S []) := hZ.cell 3
 have z4 : W.cell? ⟨w.heap.size + 1, 4, none⟩ = some (.int .i64 0) := hZ.cell 4
 have z5 : W.cell? ⟨w.heap.size + 1, 5, none⟩ = some (.slice none 0 0) := hZ.cell 5
 have z6 : W.cell? ⟨w.heap.size + 1, 6, none⟩ = some (.int .i64 0) := hZ.cell 6
 have z7 : W.cell? ⟨w.heap.size + 1, 7, none⟩ = some (.int .i64 0) := hZ.cell 7
 have z8 : W.cell? ⟨w.heap.size + 1, 8, none⟩ = some (.int .i64 0) := hZ.cell 8
 have z9 : W.cell? ⟨w.heap.size + 1, 9, none⟩ = some (.int .i64 0) := hZ.cell 9
 have z10 : W.cell? ⟨w.heap.size + 1, 10, none⟩ = some (.int .i64 0) := hZ.cell 10
 have z11 : W.cell? ⟨w.heap.size + 1, 11, none⟩ = some (.bool false) := hZ.cell 11
 have y0 := hZ.free 0
 have y1 := hZ.free 1
 have y2 := hZ.free 2
 have y3 := hZ.free 3
 have y4 := hZ.free 4
 have y5 := hZ.free 5
 have y6 := hZ.free 6
 have y7 := hZ.free 7
 have y8 := hZ.free 8
 have y9 := hZ.free 9
 have y10 := hZ.free 10
 have y11 := hZ.free 11
 go_enter Tryz.func176, Tryz.ntmps176
 go_upto_region 1 with fail
 rw [← eW]
 clear eW
 go_wp2
 refine bodyPost_ret (results_cell1 Tryz.results176 rfl (run_loadVar_row _ (w.heap.size + 1) 34 34 _ (0, 0) _ (set12 ((hZ.other (p := ⟨w.heap.size, 6, none⟩) (by simp) (.int .i64 0))) _ _ _ _ _ _ _ _ _ _ _ _) Tryz.underlying34 (by rfl) (by kernel_rfl))) rfl ⟨rfl, bel12 ((hb.setCell (p := ⟨w.heap.size, 6, none⟩) (Nat.le_refl _) (.int .i64 0))) (by omega) _ _ _ _ _ _ _ _ _ _ _ _⟩
set_option maxRecDepth 100000 in
set_option maxHeartbeats 4000000 in
theorem empty_3 (fl st : Nat) (w : World) : Calls Tryz.prog 175 #[.agg #[.int .i64 3, .int .i64 (fl : Int), .int .i64 (st : Int), S [], .int .i64 0, .slice none 0 0, .int .i64 0, .int .i64 0, .int .i64 0, .int .i64 0, .int .i64 0, .bool false]] w fun e w' => e = .returned (.bool true) ∧ Below w.heap.size w w' := by
 go_enter Tryz.func175, Tryz.ntmps175
 go_wp2
 go_ret
 exact ⟨rfl, (Below.refl _ _).alloc (Nat.le_refl _) _⟩
set_option maxRecDepth 100000 in
set_option maxHeartbeats 4000000 in
theorem pmay_Rst (fl st code : Nat) (hfl : fl < 256) (hst : st < 2147483648) (hco : code < 4294967296) (w : World) : Calls Tryz.prog 123 #[.agg #[.int .i64 3, .int .i64 (fl : Int), .int .i64 (st : Int), S [], .int .i64 0, .slice none 0 0, .int .i64 (code : Int), .int .i64 0, .int .i64 0, .int .i64 0, .int .i64 0, .bool false]] w fun e w' => e = .returned (.bool true) ∧ Below w.heap.size w w' := by
 obtain ⟨W, eW⟩ : ∃ W, W = w.alloc (.cells #[.int .i64 3, .int .i64 (fl : Int), .int .i64 (st : Int), S [], .int .i64 0, .slice none 0 0, .int .i64 (code : Int), .int .i64 0, .int .i64 0, .int .i64 0, .int .i64 0, .bool false] 34) := ⟨_, rfl⟩
 have hA : Blk W w.heap.size 34 #[.int .i64 3, .int .i64 (fl : Int), .int .i64 (st : Int), S [], .int .i64 0, .slice none 0 0, .int .i64 (code : Int), .int .i64 0, .int .i64 0, .int .i64 0, .int .i64 0, .bool false] := by rw [eW];exact Blk.new _ _ _
 have hb : Below w.heap.size w W := by rw [eW];exact (Below.refl _ _).alloc (Nat.le_refl _) _
 have a0 : W.cell? ⟨w.heap.size, 0, none⟩ = some (.int .i64 3) := hA.cell 0
 have a1 : W.cell? ⟨w.heap.size, 1, none⟩ = some (.int .i64 (fl : Int)) := hA.cell 1
 have a2 : W.cell? ⟨w.heap.size, 2, none⟩ = some (.int .i64 (st : Int)) := hA.cell 2
 have a3 : W.cell? ⟨w.heap.size, 3, none⟩ = some (S []) := hA.cell 3
 have a4 : W.cell? ⟨w.heap.size, 4, none⟩ = some (.int .i64 0) := hA.cell 4
 have a5 : W.cell? ⟨w.heap.size, 5, none⟩ = some (.slice none 0 0) := hA.cell 5
 have a6 : W.cell? ⟨w.heap.size, 6, none⟩ = some (.int .i64 (code : Int)) := hA.cell 6
 have a7 : W.cell? ⟨w.heap.size, 7, none⟩ = some (.int .i64 0) := hA.cell 7
 have a8 : W.cell? ⟨w.heap.size, 8, none⟩ = some (.int .i64 0) := hA.cell 8
 have a9 : W.cell? ⟨w.heap.size, 9, none⟩ = some (.int .i64 0) := hA.cell 9
 have a10 : W.cell? ⟨w.heap.size, 10, none⟩ = some (.int .i64 0) := hA.cell 10
 have a11 : W.cell? ⟨w.heap.size, 11, none⟩ = some (.bool false) := hA.cell 11
 have hw1 := fun (b : Nat) (w : World) (h : Blk w b 2 #[.int .i64 3, .int .i64 (fl : Int), .int .i64 0, .int .i64 0]) => Within4 255 _ _ _ _ b w h (by omega) (by omega) (by omega) (by omega)
 have hw2 := fun (b : Nat) (w : World) (h : Blk w b 2 #[.int .i64 (st : Int), .int .i64 0, .int .i64 0, .int .i64 0]) => Within4 2147483647 _ _ _ _ b w h (by omega) (by omega) (by omega) (by omega)
 have hw3 := fun (b : Nat) (w : World) (h : Blk w b 2 #[.int .i64 (code : Int)]) => Within1 4294967295 _ b w h (by omega)
 have hB := fun w => bare_Rst fl st code w
 have hE := fun w => empty_3 fl st w
 have hz := hb.size
 go_enter Tryz.func123, Tryz.ntmps123
 go_upto_region 1 with fail
 rw [← eW]
 clear eW
 go_wp2
 refine wp_loop_rounds 1 ?_
 rw [rounds_succ]
 go_wp2_with first
  | (go_at_call 174;(with_reducible refine (hw3 _ _ (Blk.new _ _ _)).mono ?_);rintro e w6 ⟨rfl, e6⟩;have hA6 : Blk w6 w.heap.size 34 #[.int .i64 3, .int .i64 (fl : Int), .int .i64 (st : Int), S [], .int .i64 0, .slice none 0 0, .int .i64 (code : Int), .int .i64 0, .int .i64 0, .int .i64 0, .int .i64 0, .bool false] := (by rw [e6];exact hA5.alloc _);have hb6 : Below w.heap.size w w6 := (by rw [e6];exact hb5.alloc hz5 _);clear e6;have hz6 := hb6.size;(have d60 : w6.cell? ⟨w.heap.size, 0, none⟩ = some (.int .i64 3) := hA6.cell 0;have d61 : w6.cell? ⟨w.heap.size, 1, none⟩ = some (.int .i64 (fl : Int)) := hA6.cell 1;have d62 : w6.cell? ⟨w.heap.size, 2, none⟩ = some (.int .i64 (st : Int)) := hA6.cell 2;have d63 : w6.cell? ⟨w.heap.size, 3, none⟩ = some (S []) := hA6.cell 3;have d64 : w6.cell? ⟨w.heap.size, 4, none⟩ = some (.int .i64 0) := hA6.cell 4;have d65 : w6.cell? ⟨w.heap.size, 5, none⟩ = some (.slice none 0 0) := hA6.cell 5;have d66 : w6.cell? ⟨w.heap.size, 6, none⟩ = some (.int .i64 (code : Int)) := hA6.cell 6;have d67 : w6.cell? ⟨w.heap.size, 7, none⟩ = some (.int .i64 0) := hA6.cell 7;have d68 : w6.cell? ⟨w.heap.size, 8, none⟩ = some (.int .i64 0) := hA6.cell 8;have d69 : w6.cell? ⟨w.heap.size, 9, none⟩ = some (.int .i64 0) := hA6.cell 9;have d610 : w6.cell? ⟨w.heap.size, 10, none⟩ = some (.int .i64 0) := hA6.cell 10;have d611 : w6.cell? ⟨w.heap.size, 11, none⟩ = some (.bool false) := hA6.cell 11))
  | (go_at_call 174;(with_reducible refine (hw2 _ _ (Blk.new _ _ _)).mono ?_);rintro e w5 ⟨rfl, e5⟩;have hA5 : Blk w5 w.heap.size 34 #[.int .i64 3, .int .i64 (fl : Int), .int .i64 (st : Int), S [], .int .i64 0, .slice none 0 0, .int .i64 (code : Int), .int .i64 0, .int .i64 0, .int .i64 0, .int .i64 0, .bool false] := (by rw [e5];exact hA4.alloc _);have hb5 : Below w.heap.size w w5 := (by rw [e5];exact hb4.alloc hz4 _);clear e5;have hz5 := hb5.size;(have d50 : w5.cell? ⟨w.heap.size, 0, none⟩ = some (.int .i64 3) := hA5.cell 0;have d51 : w5.cell? ⟨w.heap.size, 1, none⟩ = some (.int .i64 (fl : Int)) := hA5.cell 1;have d52 : w5.cell? ⟨w.heap.size, 2, none⟩ = some (.int .i64 (st : Int)) := hA5.cell 2;have d53 : w5.cell? ⟨w.heap.size, 3, none⟩ = some (S []) := hA5.cell 3;have d54 : w5.cell? ⟨w.heap.size, 4, none⟩ = some (.int .i64 0) := hA5.cell 4;have d55 : w5.cell? ⟨w.heap.size, 5, none⟩ = some (.slice none 0 0) := hA5.cell 5;have d56 : w5.cell? ⟨w.heap.size, 6, none⟩ = some (.int .i64 (code : Int)) := hA5.cell 6;have d57 : w5.cell? ⟨w.heap.size, 7, none⟩ = some (.int .i64 0) := hA5.cell 7;have d58 : w5.cell? ⟨w.heap.size, 8, none⟩ = some (.int .i64 0) := hA5.cell 8;have d59 : w5.cell? ⟨w.heap.size, 9, none⟩ = some (.int .i64 0) := hA5.cell 9;have d510 : w5.cell? ⟨w.heap.size, 10, none⟩ = some (.int .i64 0) := hA5.cell 10;have d511 : w5.cell? ⟨w.heap.size, 11, none⟩ = some (.bool false) := hA5.cell 11))
  | (go_at_call 174;(with_reducible refine (hw1 _ _ (Blk.new _ _ _)).mono ?_);rintro e w4 ⟨rfl, e4⟩;have hA4 : Blk w4 w.heap.size 34 #[.int .i64 3, .int .i64 (fl : Int), .int .i64 (st : Int), S [], .int .i64 0, .slice none 0 0, .int .i64 (code : Int), .int .i64 0, .int .i64 0, .int .i64 0, .int .i64 0, .bool false] := (by rw [e4];exact hA.alloc _);have hb4 : Below w.heap.size w w4 := (by rw [e4];exact hb.alloc hz _);clear e4;have hz4 := hb4.size;(have d40 : w4.cell? ⟨w.heap.size, 0, none⟩ = some (.int .i64 3) := hA4.cell 0;have d41 : w4.cell? ⟨w.heap.size, 1, none⟩ = some (.int .i64 (fl : Int)) := hA4.cell 1;have d42 : w4.cell? ⟨w.heap.size, 2, none⟩ = some (.int .i64 (st : Int)) := hA4.cell 2;have d43 : w4.cell? ⟨w.heap.size, 3, none⟩ = some (S []) := hA4.cell 3;have d44 : w4.cell? ⟨w.heap.size, 4, none⟩ = some (.int .i64 0) := hA4.cell 4;have d45 : w4.cell? ⟨w.heap.size, 5, none⟩ = some (.slice none 0 0) := hA4.cell 5;have d46 : w4.cell? ⟨w.heap.size, 6, none⟩ = some (.int .i64 (code : Int)) := hA4.cell 6;have d47 : w4.cell? ⟨w.heap.size, 7, none⟩ = some (.int .i64 0) := hA4.cell 7;have d48 : w4.cell? ⟨w.heap.size, 8, none⟩ = some (.int .i64 0) := hA4.cell 8;have d49 : w4.cell? ⟨w.heap.size, 9, none⟩ = some (.int .i64 0) := hA4.cell 9;have d410 : w4.cell? ⟨w.heap.size, 10, none⟩ = some (.int .i64 0) := hA4.cell 10;have d411 : w4.cell? ⟨w.heap.size, 11, none⟩ = some (.bool false) := hA4.cell 11))
  | (go_at_call 176;(with_reducible refine (hB _).mono ?_);rintro e w7 ⟨rfl, hb7⟩)
  | (go_at_call 175;(with_reducible refine (hE _).mono ?_);rintro e w8 ⟨rfl, hb8⟩)
 go_ret
 refine ⟨rfl, ?_⟩
 exact (hb6.trans (hb7.mono hz6)).trans (hb8.mono (Nat.le_trans hz6 hb7.size))
set_option maxRecDepth 100000 in
set_option maxHeartbeats 4000000 in
theorem bare_Gow (fl st code last : Nat) (w : World) : Calls Tryz.prog 176 #[.agg #[.int .i64 7, .int .i64 (fl : Int), .int .i64 (st : Int), S [], .int .i64 0, .slice none 0 0, .int .i64 (code : Int), .int .i64 (last : Int), .int .i64 0, .int .i64 0, .int .i64 0, .bool false]] w fun e w' => e = .returned (.agg #[.int .i64 7, .int .i64 (fl : Int), .int .i64 (st : Int), S [], .int .i64 0, .slice none 0 0, .int .i64 0, .int .i64 0, .int .i64 0, .int .i64 0, .int .i64 0, .bool false]) ∧ Below w.heap.size w w' := by
 obtain ⟨W, eW⟩ : ∃ W, W = (w.alloc (.cells #[.int .i64 7, .int .i64 (fl : Int), .int .i64 (st : Int), S [], .int .i64 0, .slice none 0 0, .int .i64 (code : Int), .int .i64 (last : Int), .int .i64 0, .int .i64 0, .int .i64 0, .bool false] 34)).alloc (.cells #[.int .i64 0, .int .i64 0, .int .i64 0, S [], .int .i64 0, .slice none 0 0, .int .i64 0, .int .i64 0, .int .i64 0, .int .i64 0, .int .i64 0, .bool false] 34) := ⟨_, rfl⟩
 have hA : Blk W w.heap.size 34 #[.int .i64 7, .int .i64 (fl : Int), .int .i64 (st : Int), S [], .int .i64 0, .slice none 0 0, .int .i64 (code : Int), .int .i64 (last : Int), .int .i64 0, .int .i64 0, .int .i64 0, .bool false] := by rw [eW];exact (Blk.new _ _ _).alloc _
 have hZ : Blk W (w.heap.size + 1) 34 #[.int .i64 0, .int .i64 0, .int .i64 0, S [], .int .i64 0, .slice none 0 0, .int .i64 0, .int .i64 0, .int .i64 0, .int .i64 0, .int .i64 0, .bool false] := by rw [eW];exact bnew_at _ _ _ _ (by simp)
 have hb : Below w.heap.size w W := by rw [eW];exact ((Below.refl _ _).alloc (Nat.le_refl _) _).alloc (by simp) _
 have a0 : W.cell? ⟨w.heap.size, 0, none⟩ = some (.int .i64 7) := hA.cell 0
 have a1 : W.cell? ⟨w.heap.size, 1, none⟩ = some (.int .i64 (fl : Int)) := hA.cell 1
 have a2 : W.cell? ⟨w.heap.size, 2, none⟩ = some (.int .i64 (st : Int)) := hA.cell 2
 have a3 : W.cell? ⟨w.heap.size, 3, none⟩ = some (S []) := hA.cell 3
 have a4 : W.cell? ⟨w.heap.size, 4, none⟩ = some (.int .i64 0) := hA.cell 4
 have a5 : W.cell? ⟨w.heap.size, 5, none⟩ = some (.slice none 0 0) := hA.cell 5
 have a6 : W.cell? ⟨w.heap.size, 6, none⟩ = some (.int .i64 (code : Int)) := hA.cell 6
 have a7 : W.cell? ⟨w.heap.size, 7, none⟩ = some (.int .i64 (last : Int)) := hA.cell 7
 have a8 : W.cell? ⟨w.heap.size, 8, none⟩ = some (.int .i64 0) := hA.cell 8
 have a9 : W.cell? ⟨w.heap.size, 9, none⟩ = some (.int .i64 0) := hA.cell 9
 have a10 : W.cell? ⟨w.heap.size, 10, none⟩ = some (.int .i64 0) := hA.cell 10
 have a11 : W.cell? ⟨w.heap.size, 11, none⟩ = some (.bool false) := hA.cell 11
 have b3 := hA.free 3
 have b5 := hA.free 5
 have b6 := hA.free 6
 have b7 := hA.free 7
 have b8 := hA.free 8
 have z0 : W.cell? ⟨w.heap.size + 1, 0, none⟩ = some (.int .i64 0) := hZ.cell 0
 have z1 : W.cell? ⟨w.heap.size + 1, 1, none⟩ = some (.int .i64 0) := hZ.cell 1
 have z2 : W.cell? ⟨w.heap.size + 1, 2, none⟩ = some (.int .i64 0) := hZ.cell 2
 have z3 : W.cell? ⟨w.heap.size + 1, 3, none⟩ = some (S []) := hZ.cell 3
 have z4 : W.cell? ⟨w.heap.size + 1, 4, none⟩ = some (.int .i64 0) := hZ.cell 4
 have z5 : W.cell? ⟨w.heap.size + 1, 5, none⟩ = some (.slice none 0 0) := hZ.cell 5
 have z6 : W.cell? ⟨w.heap.size + 1, 6, none⟩ = some (.int .i64 0) := hZ.cell 6
 have z7 : W.cell? ⟨w.heap.size + 1, 7, none⟩ = some (.int .i64 0) := hZ.cell 7
 have z8 : W.cell? ⟨w.heap.size + 1, 8, none⟩ = some (.int .i64 0) := hZ.cell 8
 have z9 : W.cell? ⟨w.heap.size + 1, 9, none⟩ = some (.int .i64 0) := hZ.cell 9
 have z10 : W.cell? ⟨w.heap.size + 1, 10, none⟩ = some (.int .i64 0) := hZ.cell 10
 have z11 : W.cell? ⟨w.heap.size + 1, 11, none⟩ = some (.bool false) := hZ.cell 11
 have y0 := hZ.free 0
 have y1 := hZ.free 1
 have y2 := hZ.free 2
 have y3 := hZ.free 3
 have y4 := hZ.free 4
 have y5 := hZ.free 5
 have y6 := hZ.free 6
 have y7 := hZ.free 7
 have y8 := hZ.free 8
 have y9 := hZ.free 9
 have y10 := hZ.free 10
 have y11 := hZ.free 11
 go_enter Tryz.func176, Tryz.ntmps176
 go_upto_region 1 with fail
 rw [← eW]
 clear eW
 go_wp2
 refine bodyPost_ret (results_cell1 Tryz.results176 rfl (run_loadVar_row _ (w.heap.size + 1) 34 34 _ (0, 0) _ (set12 ((((hZ.other (p := ⟨w.heap.size, 7, none⟩) (by simp) (.int .i64 0)).other (p := ⟨w.heap.size, 6, none⟩) (by simp) (.int .i64 0)).other (p := ⟨w.heap.size, 3, none⟩) (by simp) (S []))) _ _ _ _ _ _ _ _ _ _ _ _) Tryz.underlying34 (by rfl) (by kernel_rfl))) rfl ⟨rfl, bel12 ((((hb.setCell (p := ⟨w.heap.size, 7, none⟩) (Nat.le_refl _) (.int .i64 0)).setCell (p := ⟨w.heap.size, 6, none⟩) (Nat.le_refl _) (.int .i64 0)).setCell (p := ⟨w.heap.size, 3, none⟩) (Nat.le_refl _) (S []))) (by omega) _ _ _ _ _ _ _ _ _ _ _ _⟩
set_option maxRecDepth 100000 in
set_option maxHeartbeats 4000000 in
theorem empty_7 (fl st : Nat) (w : World) : Calls Tryz.prog 175 #[.agg #[.int .i64 7, .int .i64 (fl : Int), .int .i64 (st : Int), S [], .int .i64 0, .slice none 0 0, .int .i64 0, .int .i64 0, .int .i64 0, .int .i64 0, .int .i64 0, .bool false]] w fun e w' => e = .returned (.bool true) ∧ Below w.heap.size w w' := by
 go_enter Tryz.func175, Tryz.ntmps175
 go_wp2
 go_ret
 exact ⟨rfl, (Below.refl _ _).alloc (Nat.le_refl _) _⟩
set_option maxRecDepth 100000 in
set_option maxHeartbeats 4000000 in
theorem pmay_Gow (fl st code last : Nat) (hfl : fl < 256) (hst : st < 2147483648) (hco : code < 4294967296) (hla : last < 2147483648) (w : World) : Calls Tryz.prog 123 #[.agg #[.int .i64 7, .int .i64 (fl : Int), .int .i64 (st : Int), S [], .int .i64 0, .slice none 0 0, .int .i64 (code : Int), .int .i64 (last : Int), .int .i64 0, .int .i64 0, .int .i64 0, .bool false]] w fun e w' => e = .returned (.bool true) ∧ Below w.heap.size w w' := by
 obtain ⟨W, eW⟩ : ∃ W, W = w.alloc (.cells #[.int .i64 7, .int .i64 (fl : Int), .int .i64 (st : Int), S [], .int .i64 0, .slice none 0 0, .int .i64 (code : Int), .int .i64 (last : Int), .int .i64 0, .int .i64 0, .int .i64 0, .bool false] 34) := ⟨_, rfl⟩
 have hA : Blk W w.heap.size 34 #[.int .i64 7, .int .i64 (fl : Int), .int .i64 (st : Int), S [], .int .i64 0, .slice none 0 0, .int .i64 (code : Int), .int .i64 (last : Int), .int .i64 0, .int .i64 0, .int .i64 0, .bool false] := by rw [eW];exact Blk.new _ _ _
 have hb : Below w.heap.size w W := by rw [eW];exact (Below.refl _ _).alloc (Nat.le_refl _) _
 have a0 : W.cell? ⟨w.heap.size, 0, none⟩ = some (.int .i64 7) := hA.cell 0
 have a1 : W.cell? ⟨w.heap.size, 1, none⟩ = some (.int .i64 (fl : Int)) := hA.cell 1
 have a2 : W.cell? ⟨w.heap.size, 2, none⟩ = some (.int .i64 (st : Int)) := hA.cell 2
 have a3 : W.cell? ⟨w.heap.size, 3, none⟩ = some (S []) := hA.cell 3
 have a4 : W.cell? ⟨w.heap.size, 4, none⟩ = some (.int .i64 0) := hA.cell 4
 have a5 : W.cell? ⟨w.heap.size, 5, none⟩ = some (.slice none 0 0) := hA.cell 5
 have a6 : W.cell? ⟨w.heap.size, 6, none⟩ = some (.int .i64 (code : Int)) := hA.cell 6
 have a7 : W.cell? ⟨w.heap.size, 7, none⟩ = some (.int .i64 (last : Int)) := hA.cell 7
 have a8 : W.cell? ⟨w.heap.size, 8, none⟩ = some (.int .i64 0) := hA.cell 8
 have a9 : W.cell? ⟨w.heap.size, 9, none⟩ = some (.int .i64 0) := hA.cell 9
 have a10 : W.cell? ⟨w.heap.size, 10, none⟩ = some (.int .i64 0) := hA.cell 10
 have a11 : W.cell? ⟨w.heap.size, 11, none⟩ = some (.bool false) := hA.cell 11
 have hw1 := fun (b : Nat) (w : World) (h : Blk w b 2 #[.int .i64 7, .int .i64 (fl : Int), .int .i64 0, .int .i64 0]) => Within4 255 _ _ _ _ b w h (by omega) (by omega) (by omega) (by omega)
 have hw2 := fun (b : Nat) (w : World) (h : Blk w b 2 #[.int .i64 (st : Int), .int .i64 (last : Int), .int .i64 0, .int .i64 0]) => Within4 2147483647 _ _ _ _ b w h (by omega) (by omega) (by omega) (by omega)
 have hw3 := fun (b : Nat) (w : World) (h : Blk w b 2 #[.int .i64 (code : Int)]) => Within1 4294967295 _ b w h (by omega)
 have hB := fun w => bare_Gow fl st code last w
 have hE := fun w => empty_7 fl st w
 have hz := hb.size
 go_enter Tryz.func123, Tryz.ntmps123
 go_upto_region 1 with fail
 rw [← eW]
 clear eW
 go_wp2
 refine wp_loop_rounds 1 ?_
 rw [rounds_succ]
 go_wp2_with first
  | (go_at_call 174;(with_reducible refine (hw3 _ _ (Blk.new _ _ _)).mono ?_);rintro e w6 ⟨rfl, e6⟩;have hA6 : Blk w6 w.heap.size 34 #[.int .i64 7, .int .i64 (fl : Int), .int .i64 (st : Int), S [], .int .i64 0, .slice none 0 0, .int .i64 (code : Int), .int .i64 (last : Int), .int .i64 0, .int .i64 0, .int .i64 0, .bool false] := (by rw [e6];exact hA5.alloc _);have hb6 : Below w.heap.size w w6 := (by rw [e6];exact hb5.alloc hz5 _);clear e6;have hz6 := hb6.size;(have d60 : w6.cell? ⟨w.heap.size, 0, none⟩ = some (.int .i64 7) := hA6.cell 0;have d61 : w6.cell? ⟨w.heap.size, 1, none⟩ = some (.int .i64 (fl : Int)) := hA6.cell 1;have d62 : w6.cell? ⟨w.heap.size, 2, none⟩ = some (.int .i64 (st : Int)) := hA6.cell 2;have d63 : w6.cell? ⟨w.heap.size, 3, none⟩ = some (S []) := hA6.cell 3;have d64 : w6.cell? ⟨w.heap.size, 4, none⟩ = some (.int .i64 0) := hA6.cell 4;have d65 : w6.cell? ⟨w.heap.size, 5, none⟩ = some (.slice none 0 0) := hA6.cell 5;have d66 : w6.cell? ⟨w.heap.size, 6, none⟩ = some (.int .i64 (code : Int)) := hA6.cell 6;have d67 : w6.cell? ⟨w.heap.size, 7, none⟩ = some (.int .i64 (last : Int)) := hA6.cell 7;have d68 : w6.cell? ⟨w.heap.size, 8, none⟩ = some (.int .i64 0) := hA6.cell 8;have d69 : w6.cell? ⟨w.heap.size, 9, none⟩ = some (.int .i64 0) := hA6.cell 9;have d610 : w6.cell? ⟨w.heap.size, 10, none⟩ = some (.int .i64 0) := hA6.cell 10;have d611 : w6.cell? ⟨w.heap.size, 11, none⟩ = some (.bool false) := hA6.cell 11))
  | (go_at_call 174;(with_reducible refine (hw2 _ _ (Blk.new _ _ _)).mono ?_);rintro e w5 ⟨rfl, e5⟩;have hA5 : Blk w5 w.heap.size 34 #[.int .i64 7, .int .i64 (fl : Int), .int .i64 (st : Int), S [], .int .i64 0, .slice none 0 0, .int .i64 (code : Int), .int .i64 (last : Int), .int .i64 0, .int .i64 0, .int .i64 0, .bool false] := (by rw [e5];exact hA4.alloc _);have hb5 : Below w.heap.size w w5 := (by rw [e5];exact hb4.alloc hz4 _);clear e5;have hz5 := hb5.size;(have d50 : w5.cell? ⟨w.heap.size, 0, none⟩ = some (.int .i64 7) := hA5.cell 0;have d51 : w5.cell? ⟨w.heap.size, 1, none⟩ = some (.int .i64 (fl : Int)) := hA5.cell 1;have d52 : w5.cell? ⟨w.heap.size, 2, none⟩ = some (.int .i64 (st : Int)) := hA5.cell 2;have d53 : w5.cell? ⟨w.heap.size, 3, none⟩ = some (S []) := hA5.cell 3;have d54 : w5.cell? ⟨w.heap.size, 4, none⟩ = some (.int .i64 0) := hA5.cell 4;have d55 : w5.cell? ⟨w.heap.size, 5, none⟩ = some (.slice none 0 0) := hA5.cell 5;have d56 : w5.cell? ⟨w.heap.size, 6, none⟩ = some (.int .i64 (code : Int)) := hA5.cell 6;have d57 : w5.cell? ⟨w.heap.size, 7, none⟩ = some (.int .i64 (last : Int)) := hA5.cell 7;have d58 : w5.cell? ⟨w.heap.size, 8, none⟩ = some (.int .i64 0) := hA5.cell 8;have d59 : w5.cell? ⟨w.heap.size, 9, none⟩ = some (.int .i64 0) := hA5.cell 9;have d510 : w5.cell? ⟨w.heap.size, 10, none⟩ = some (.int .i64 0) := hA5.cell 10;have d511 : w5.cell? ⟨w.heap.size, 11, none⟩ = some (.bool false) := hA5.cell 11))
  | (go_at_call 174;(with_reducible refine (hw1 _ _ (Blk.new _ _ _)).mono ?_);rintro e w4 ⟨rfl, e4⟩;have hA4 : Blk w4 w.heap.size 34 #[.int .i64 7, .int .i64 (fl : Int), .int .i64 (st : Int), S [], .int .i64 0, .slice none 0 0, .int .i64 (code : Int), .int .i64 (last : Int), .int .i64 0, .int .i64 0, .int .i64 0, .bool false] := (by rw [e4];exact hA.alloc _);have hb4 : Below w.heap.size w w4 := (by rw [e4];exact hb.alloc hz _);clear e4;have hz4 := hb4.size;(have d40 : w4.cell? ⟨w.heap.size, 0, none⟩ = some (.int .i64 7) := hA4.cell 0;have d41 : w4.cell? ⟨w.heap.size, 1, none⟩ = some (.int .i64 (fl : Int)) := hA4.cell 1;have d42 : w4.cell? ⟨w.heap.size, 2, none⟩ = some (.int .i64 (st : Int)) := hA4.cell 2;have d43 : w4.cell? ⟨w.heap.size, 3, none⟩ = some (S []) := hA4.cell 3;have d44 : w4.cell? ⟨w.heap.size, 4, none⟩ = some (.int .i64 0) := hA4.cell 4;have d45 : w4.cell? ⟨w.heap.size, 5, none⟩ = some (.slice none 0 0) := hA4.cell 5;have d46 : w4.cell? ⟨w.heap.size, 6, none⟩ = some (.int .i64 (code : Int)) := hA4.cell 6;have d47 : w4.cell? ⟨w.heap.size, 7, none⟩ = some (.int .i64 (last : Int)) := hA4.cell 7;have d48 : w4.cell? ⟨w.heap.size, 8, none⟩ = some (.int .i64 0) := hA4.cell 8;have d49 : w4.cell? ⟨w.heap.size, 9, none⟩ = some (.int .i64 0) := hA4.cell 9;have d410 : w4.cell? ⟨w.heap.size, 10, none⟩ = some (.int .i64 0) := hA4.cell 10;have d411 : w4.cell? ⟨w.heap.size, 11, none⟩ = some (.bool false) := hA4.cell 11))
  | (go_at_call 176;(with_reducible refine (hB _).mono ?_);rintro e w7 ⟨rfl, hb7⟩)
  | (go_at_call 175;(with_reducible refine (hE _).mono ?_);rintro e w8 ⟨rfl, hb8⟩)
 go_ret
 refine ⟨rfl, ?_⟩
 exact (hb6.trans (hb7.mono hz6)).trans (hb8.mono (Nat.le_trans hz6 hb7.size))
set_option maxRecDepth 100000 in
set_option maxHeartbeats 4000000 in
theorem bare_Hdr (fl st : Nat) (l : Bytes) (h8 : Go.bits .and .i64 (fl : Int) 8 = 0) (h32 : Go.bits .and .i64 (fl : Int) 32 = 0) (w : World) : Calls Tryz.prog 176 #[.agg #[.int .i64 1, .int .i64 (fl : Int), .int .i64 (st : Int), S l, .int .i64 0, .slice none 0 0, .int .i64 0, .int .i64 0, .int .i64 0, .int .i64 0, .int .i64 0, .bool false]] w fun e w' => e = .returned (.agg #[.int .i64 1, .int .i64 (fl : Int), .int .i64 (st : Int), S [], .int .i64 0, .slice none 0 0, .int .i64 0, .int .i64 0, .int .i64 0, .int .i64 0, .int .i64 0, .bool false]) ∧ Below w.heap.size w w' := by
 obtain ⟨W, eW⟩ : ∃ W, W = (w.alloc (.cells #[.int .i64 1, .int .i64 (fl : Int), .int .i64 (st : Int), S l, .int .i64 0, .slice none 0 0, .int .i64 0, .int .i64 0, .int .i64 0, .int .i64 0, .int .i64 0, .bool false] 34)).alloc (.cells #[.int .i64 0, .int .i64 0, .int .i64 0, S [], .int .i64 0, .slice none 0 0, .int .i64 0, .int .i64 0, .int .i64 0, .int .i64 0, .int .i64 0, .bool false] 34) := ⟨_, rfl⟩
 have hA : Blk W w.heap.size 34 #[.int .i64 1, .int .i64 (fl : Int), .int .i64 (st : Int), S l, .int .i64 0, .slice none 0 0, .int .i64 0, .int .i64 0, .int .i64 0, .int .i64 0, .int .i64 0, .bool false] := by rw [eW];exact (Blk.new _ _ _).alloc _
 have hZ : Blk W (w.heap.size + 1) 34 #[.int .i64 0, .int .i64 0, .int .i64 0, S [], .int .i64 0, .slice none 0 0, .int .i64 0, .int .i64 0, .int .i64 0, .int .i64 0, .int .i64 0, .bool false] := by rw [eW];exact bnew_at _ _ _ _ (by simp)
 have hb : Below w.heap.size w W := by rw [eW];exact ((Below.refl _ _).alloc (Nat.le_refl _) _).alloc (by simp) _
 have a0 : W.cell? ⟨w.heap.size, 0, none⟩ = some (.int .i64 1) := hA.cell 0
 have a1 : W.cell? ⟨w.heap.size, 1, none⟩ = some (.int .i64 (fl : Int)) := hA.cell 1
 have a2 : W.cell? ⟨w.heap.size, 2, none⟩ = some (.int .i64 (st : Int)) := hA.cell 2
 have a3 : W.cell? ⟨w.heap.size, 3, none⟩ = some (S l) := hA.cell 3
 have a4 : W.cell? ⟨w.heap.size, 4, none⟩ = some (.int .i64 0) := hA.cell 4
 have a5 : W.cell? ⟨w.heap.size, 5, none⟩ = some (.slice none 0 0) := hA.cell 5
 have a6 : W.cell? ⟨w.heap.size, 6, none⟩ = some (.int .i64 0) := hA.cell 6
 have a7 : W.cell? ⟨w.heap.size, 7, none⟩ = some (.int .i64 0) := hA.cell 7
 have a8 : W.cell? ⟨w.heap.size, 8, none⟩ = some (.int .i64 0) := hA.cell 8
 have a9 : W.cell? ⟨w.heap.size, 9, none⟩ = some (.int .i64 0) := hA.cell 9
 have a10 : W.cell? ⟨w.heap.size, 10, none⟩ = some (.int .i64 0) := hA.cell 10
 have a11 : W.cell? ⟨w.heap.size, 11, none⟩ = some (.bool false) := hA.cell 11
 have b3 := hA.free 3
 have b5 := hA.free 5
 have b6 := hA.free 6
 have b7 := hA.free 7
 have b8 := hA.free 8
 have z0 : W.cell? ⟨w.heap.size + 1, 0, none⟩ = some (.int .i64 0) := hZ.cell 0
 have z1 : W.cell? ⟨w.heap.size + 1, 1, none⟩ = some (.int .i64 0) := hZ.cell 1
 have z2 : W.cell? ⟨w.heap.size + 1, 2, none⟩ = some (.int .i64 0) := hZ.cell 2
 have z3 : W.cell? ⟨w.heap.size + 1, 3, none⟩ = some (S []) := hZ.cell 3
 have z4 : W.cell? ⟨w.heap.size + 1, 4, none⟩ = some (.int .i64 0) := hZ.cell 4
 have z5 : W.cell? ⟨w.heap.size + 1, 5, none⟩ = some (.slice none 0 0) := hZ.cell 5
 have z6 : W.cell? ⟨w.heap.size + 1, 6, none⟩ = some (.int .i64 0) := hZ.cell 6
 have z7 : W.cell? ⟨w.heap.size + 1, 7, none⟩ = some (.int .i64 0) := hZ.cell 7
 have z8 : W.cell? ⟨w.heap.size + 1, 8, none⟩ = some (.int .i64 0) := hZ.cell 8
 have z9 : W.cell? ⟨w.heap.size + 1, 9, none⟩ = some (.int .i64 0) := hZ.cell 9
 have z10 : W.cell? ⟨w.heap.size + 1, 10, none⟩ = some (.int .i64 0) := hZ.cell 10
 have z11 : W.cell? ⟨w.heap.size + 1, 11, none⟩ = some (.bool false) := hZ.cell 11
 have y0 := hZ.free 0
 have y1 := hZ.free 1
 have y2 := hZ.free 2
 have y3 := hZ.free 3
 have y4 := hZ.free 4
 have y5 := hZ.free 5
 have y6 := hZ.free 6
 have y7 := hZ.free 7
 have y8 := hZ.free 8
 have y9 := hZ.free 9
 have y10 := hZ.free 10
 have y11 := hZ.free 11
 go_enter Tryz.func176, Tryz.ntmps176
 go_upto_region 1 with fail
 rw [← eW]
 clear eW
 go_wp2
 refine bodyPost_ret (results_cell1 Tryz.results176 rfl (run_loadVar_row _ (w.heap.size + 1) 34 34 _ (0, 0) _ (set12 ((hZ.other (p := ⟨w.heap.size, 3, none⟩) (by simp) (S []))) _ _ _ _ _ _ _ _ _ _ _ _) Tryz.underlying34 (by rfl) (by kernel_rfl))) rfl ⟨rfl, bel12 ((hb.setCell (p := ⟨w.heap.size, 3, none⟩) (Nat.le_refl _) (S []))) (by omega) _ _ _ _ _ _ _ _ _ _ _ _⟩
set_option maxRecDepth 100000 in
set_option maxHeartbeats 4000000 in
theorem empty_1 (fl st : Nat) (w : World) : Calls Tryz.prog 175 #[.agg #[.int .i64 1, .int .i64 (fl : Int), .int .i64 (st : Int), S [], .int .i64 0, .slice none 0 0, .int .i64 0, .int .i64 0, .int .i64 0, .int .i64 0, .int .i64 0, .bool false]] w fun e w' => e = .returned (.bool true) ∧ Below w.heap.size w w' := by
 go_enter Tryz.func175, Tryz.ntmps175
 go_wp2
 go_ret
 exact ⟨rfl, (Below.refl _ _).alloc (Nat.le_refl _) _⟩
set_option maxRecDepth 100000 in
set_option maxHeartbeats 4000000 in
theorem pmay_Hdr (fl st : Nat) (l : Bytes) (h8 : Go.bits .and .i64 (fl : Int) 8 = 0) (h32 : Go.bits .and .i64 (fl : Int) 32 = 0) (hfl : fl < 256) (hst : st < 2147483648) (hl : l.length ≤ 16777215) (w : World) : Calls Tryz.prog 123 #[.agg #[.int .i64 1, .int .i64 (fl : Int), .int .i64 (st : Int), S l, .int .i64 0, .slice none 0 0, .int .i64 0, .int .i64 0, .int .i64 0, .int .i64 0, .int .i64 0, .bool false]] w fun e w' => e = .returned (.bool true) ∧ Below w.heap.size w w' := by
 obtain ⟨W, eW⟩ : ∃ W, W = w.alloc (.cells #[.int .i64 1, .int .i64 (fl : Int), .int .i64 (st : Int), S l, .int .i64 0, .slice none 0 0, .int .i64 0, .int .i64 0, .int .i64 0, .int .i64 0, .int .i64 0, .bool false] 34) := ⟨_, rfl⟩
 have hA : Blk W w.heap.size 34 #[.int .i64 1, .int .i64 (fl : Int), .int .i64 (st : Int), S l, .int .i64 0, .slice none 0 0, .int .i64 0, .int .i64 0, .int .i64 0, .int .i64 0, .int .i64 0, .bool false] := by rw [eW];exact Blk.new _ _ _
 have hb : Below w.heap.size w W := by rw [eW];exact (Below.refl _ _).alloc (Nat.le_refl _) _
 have a0 : W.cell? ⟨w.heap.size, 0, none⟩ = some (.int .i64 1) := hA.cell 0
 have a1 : W.cell? ⟨w.heap.size, 1, none⟩ = some (.int .i64 (fl : Int)) := hA.cell 1
 have a2 : W.cell? ⟨w.heap.size, 2, none⟩ = some (.int .i64 (st : Int)) := hA.cell 2
 have a3 : W.cell? ⟨w.heap.size, 3, none⟩ = some (S l) := hA.cell 3
 have a4 : W.cell? ⟨w.heap.size, 4, none⟩ = some (.int .i64 0) := hA.cell 4
 have a5 : W.cell? ⟨w.heap.size, 5, none⟩ = some (.slice none 0 0) := hA.cell 5
 have a6 : W.cell? ⟨w.heap.size, 6, none⟩ = some (.int .i64 0) := hA.cell 6
 have a7 : W.cell? ⟨w.heap.size, 7, none⟩ = some (.int .i64 0) := hA.cell 7
 have a8 : W.cell? ⟨w.heap.size, 8, none⟩ = some (.int .i64 0) := hA.cell 8
 have a9 : W.cell? ⟨w.heap.size, 9, none⟩ = some (.int .i64 0) := hA.cell 9
 have a10 : W.cell? ⟨w.heap.size, 10, none⟩ = some (.int .i64 0) := hA.cell 10
 have a11 : W.cell? ⟨w.heap.size, 11, none⟩ = some (.bool false) := hA.cell 11
 have hw1 := fun (b : Nat) (w : World) (h : Blk w b 2 #[.int .i64 1, .int .i64 (fl : Int), .int .i64 0, .int .i64 0]) => Within4 255 _ _ _ _ b w h (by omega) (by omega) (by omega) (by omega)
 have hw2 := fun (b : Nat) (w : World) (h : Blk w b 2 #[.int .i64 (st : Int), .int .i64 0, .int .i64 0, .int .i64 0]) => Within4 2147483647 _ _ _ _ b w h (by omega) (by omega) (by omega) (by omega)
 have hw3 := fun (b : Nat) (w : World) (h : Blk w b 2 #[.int .i64 0]) => Within1 4294967295 _ b w h (by omega)
 have hB := fun w => bare_Hdr fl st l h8 h32 w
 have hE := fun w => empty_1 fl st w
 have hz := hb.size
 go_enter Tryz.func123, Tryz.ntmps123
 go_upto_region 1 with fail
 rw [← eW]
 clear eW
 go_wp2
 refine wp_loop_rounds 1 ?_
 rw [rounds_succ]
 go_wp2_with first
  | (go_at_call 174;(with_reducible refine (hw3 _ _ (Blk.new _ _ _)).mono ?_);rintro e w6 ⟨rfl, e6⟩;have hA6 : Blk w6 w.heap.size 34 #[.int .i64 1, .int .i64 (fl : Int), .int .i64 (st : Int), S l, .int .i64 0, .slice none 0 0, .int .i64 0, .int .i64 0, .int .i64 0, .int .i64 0, .int .i64 0, .bool false] := (by rw [e6];exact hA5.alloc _);have hb6 : Below w.heap.size w w6 := (by rw [e6];exact hb5.alloc hz5 _);clear e6;have hz6 := hb6.size;(have d60 : w6.cell? ⟨w.heap.size, 0, none⟩ = some (.int .i64 1) := hA6.cell 0;have d61 : w6.cell? ⟨w.heap.size, 1, none⟩ = some (.int .i64 (fl : Int)) := hA6.cell 1;have d62 : w6.cell? ⟨w.heap.size, 2, none⟩ = some (.int .i64 (st : Int)) := hA6.cell 2;have d63 : w6.cell? ⟨w.heap.size, 3, none⟩ = some (S l) := hA6.cell 3;have d64 : w6.cell? ⟨w.heap.size, 4, none⟩ = some (.int .i64 0) := hA6.cell 4;have d65 : w6.cell? ⟨w.heap.size, 5, none⟩ = some (.slice none 0 0) := hA6.cell 5;have d66 : w6.cell? ⟨w.heap.size, 6, none⟩ = some (.int .i64 0) := hA6.cell 6;have d67 : w6.cell? ⟨w.heap.size, 7, none⟩ = some (.int .i64 0) := hA6.cell 7;have d68 : w6.cell? ⟨w.heap.size, 8, none⟩ = some (.int .i64 0) := hA6.cell 8;have d69 : w6.cell? ⟨w.heap.size, 9, none⟩ = some (.int .i64 0) := hA6.cell 9;have d610 : w6.cell? ⟨w.heap.size, 10, none⟩ = some (.int .i64 0) := hA6.cell 10;have d611 : w6.cell? ⟨w.heap.size, 11, none⟩ = some (.bool false) := hA6.cell 11))
  | (go_at_call 174;(with_reducible refine (hw2 _ _ (Blk.new _ _ _)).mono ?_);rintro e w5 ⟨rfl, e5⟩;have hA5 : Blk w5 w.heap.size 34 #[.int .i64 1, .int .i64 (fl : Int), .int .i64 (st : Int), S l, .int .i64 0, .slice none 0 0, .int .i64 0, .int .i64 0, .int .i64 0, .int .i64 0, .int .i64 0, .bool false] := (by rw [e5];exact hA4.alloc _);have hb5 : Below w.heap.size w w5 := (by rw [e5];exact hb4.alloc hz4 _);clear e5;have hz5 := hb5.size;(have d50 : w5.cell? ⟨w.heap.size, 0, none⟩ = some (.int .i64 1) := hA5.cell 0;have d51 : w5.cell? ⟨w.heap.size, 1, none⟩ = some (.int .i64 (fl : Int)) := hA5.cell 1;have d52 : w5.cell? ⟨w.heap.size, 2, none⟩ = some (.int .i64 (st : Int)) := hA5.cell 2;have d53 : w5.cell? ⟨w.heap.size, 3, none⟩ = some (S l) := hA5.cell 3;have d54 : w5.cell? ⟨w.heap.size, 4, none⟩ = some (.int .i64 0) := hA5.cell 4;have d55 : w5.cell? ⟨w.heap.size, 5, none⟩ = some (.slice none 0 0) := hA5.cell 5;have d56 : w5.cell? ⟨w.heap.size, 6, none⟩ = some (.int .i64 0) := hA5.cell 6;have d57 : w5.cell? ⟨w.heap.size, 7, none⟩ = some (.int .i64 0) := hA5.cell 7;have d58 : w5.cell? ⟨w.heap.size, 8, none⟩ = some (.int .i64 0) := hA5.cell 8;have d59 : w5.cell? ⟨w.heap.size, 9, none⟩ = some (.int .i64 0) := hA5.cell 9;have d510 : w5.cell? ⟨w.heap.size, 10, none⟩ = some (.int .i64 0) := hA5.cell 10;have d511 : w5.cell? ⟨w.heap.size, 11, none⟩ = some (.bool false) := hA5.cell 11))
  | (go_at_call 174;(with_reducible refine (hw1 _ _ (Blk.new _ _ _)).mono ?_);rintro e w4 ⟨rfl, e4⟩;have hA4 : Blk w4 w.heap.size 34 #[.int .i64 1, .int .i64 (fl : Int), .int .i64 (st : Int), S l, .int .i64 0, .slice none 0 0, .int .i64 0, .int .i64 0, .int .i64 0, .int .i64 0, .int .i64 0, .bool false] := (by rw [e4];exact hA.alloc _);have hb4 : Below w.heap.size w w4 := (by rw [e4];exact hb.alloc hz _);clear e4;have hz4 := hb4.size;(have d40 : w4.cell? ⟨w.heap.size, 0, none⟩ = some (.int .i64 1) := hA4.cell 0;have d41 : w4.cell? ⟨w.heap.size, 1, none⟩ = some (.int .i64 (fl : Int)) := hA4.cell 1;have d42 : w4.cell? ⟨w.heap.size, 2, none⟩ = some (.int .i64 (st : Int)) := hA4.cell 2;have d43 : w4.cell? ⟨w.heap.size, 3, none⟩ = some (S l) := hA4.cell 3;have d44 : w4.cell? ⟨w.heap.size, 4, none⟩ = some (.int .i64 0) := hA4.cell 4;have d45 : w4.cell? ⟨w.heap.size, 5, none⟩ = some (.slice none 0 0) := hA4.cell 5;have d46 : w4.cell? ⟨w.heap.size, 6, none⟩ = some (.int .i64 0) := hA4.cell 6;have d47 : w4.cell? ⟨w.heap.size, 7, none⟩ = some (.int .i64 0) := hA4.cell 7;have d48 : w4.cell? ⟨w.heap.size, 8, none⟩ = some (.int .i64 0) := hA4.cell 8;have d49 : w4.cell? ⟨w.heap.size, 9, none⟩ = some (.int .i64 0) := hA4.cell 9;have d410 : w4.cell? ⟨w.heap.size, 10, none⟩ = some (.int .i64 0) := hA4.cell 10;have d411 : w4.cell? ⟨w.heap.size, 11, none⟩ = some (.bool false) := hA4.cell 11))
  | (go_at_call 176;(with_reducible refine (hB _).mono ?_);rintro e w7 ⟨rfl, hb7⟩)
  | (go_at_call 175;(with_reducible refine (hE _).mono ?_);rintro e w8 ⟨rfl, hb8⟩)
 go_ret
 refine ⟨rfl, ?_⟩
 exact (hb6.trans (hb7.mono hz6)).trans (hb8.mono (Nat.le_trans hz6 hb7.size))
end Go.Proofs.YtkeeofhjdffhbaaGreatDoor
