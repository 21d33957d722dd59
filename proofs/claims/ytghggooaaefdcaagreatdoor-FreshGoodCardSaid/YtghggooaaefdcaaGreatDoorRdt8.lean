
/- The walk of the reference's dates: what is read of a text, kind by kind (printed by guessgen.py). -/
import Derived.Test.YtghggooaaefdcaaGreatDoorRdt7
namespace Go.Dr
theorem twoF_bound (s : Bytes) (a : Int) : -1 ≤ twoF s a ∧ twoF s a ≤ 99 := by
  unfold twoF
  split
  · rename_i h
    have h1 := h.2.2.1
    have h2 := h.2.2.2
    simp only [isDig, decide_eq_true_iff] at h1 h2
    omega
  · omega
end Go.Dr
namespace Go.Proofs.YtghggooaaefdcaaGreatDoor
open Go.RowKit Go.Dr

theorem ret_guess {W : World} {tmps : Array Value} {b : Nat} {y0 y1 y2 y3 y4 y5 y6 : Int} {R : Ending → World → Prop} (hs : tmps[6]? = some (.pointer (some ⟨b, 0, none⟩))) (h : Blk W b 106 #[.int .i64 y0, .int .i64 y1, .int .i64 y2, .int .i64 y3, .int .i64 y4, .int .i64 y5, .int .i64 y6]) (hR : R (.returned (.agg #[.int .i64 y0, .int .i64 y1, .int .i64 y2, .int .i64 y3, .int .i64 y4, .int .i64 y5, .int .i64 y6])) W) :
    bodyPost Tryz.prog Tryz.f94 R .ret { tmps := tmps, defers := [] } W := by
  have g0 : W.cell? ⟨b, 0, none⟩ = some (.int .i64 y0) := h.cell 0
  have g1 : W.cell? ⟨b, 1, none⟩ = some (.int .i64 y1) := h.cell 1
  have g2 : W.cell? ⟨b, 2, none⟩ = some (.int .i64 y2) := h.cell 2
  have g3 : W.cell? ⟨b, 3, none⟩ = some (.int .i64 y3) := h.cell 3
  have g4 : W.cell? ⟨b, 4, none⟩ = some (.int .i64 y4) := h.cell 4
  have g5 : W.cell? ⟨b, 5, none⟩ = some (.int .i64 y5) := h.cell 5
  have g6 : W.cell? ⟨b, 6, none⟩ = some (.int .i64 y6) := h.cell 6
  exact bodyPost_ret (v := .agg #[.int .i64 y0, .int .i64 y1, .int .i64 y2, .int .i64 y3, .int .i64 y4, .int .i64 y5, .int .i64 y6]) (by simp [results, Tryz.results94, go_sem, hs, g0, g1, g2, g3, g4, g5, g6]) rfl hR

set_option linter.unusedVariables false in
set_option maxRecDepth 100000 in
set_option maxHeartbeats 4000000 in
theorem guess_0 (s : Bytes) (now : Nat) (w : World) (hs : s.length ≤ 1099511627776) (hn : now ≤ 9999) : Calls Tryz.prog 94 #[S s, .int .i64 0, .int .i64 now] w fun e w' => e = .returned (.agg #[.int .i64 (twoF s 12 * 100 + twoF s 14), .int .i64 ((monthF s 8 : Nat)), .int .i64 (twoF s 5), .int .i64 (twoF s ((s.length : Int) - 12)), .int .i64 (twoF s ((s.length : Int) - 12 + 3)), .int .i64 (twoF s ((s.length : Int) - 12 + 6)), .int .i64 0]) ∧ Below w.heap.size w w' := by
  have Cth := Lib.hid (fun w => refTwo_any s ((s.length : Int) - 12) w hs (by omega) (by omega))
  have Bth := twoF_bound s ((s.length : Int) - 12)
  generalize twoF s ((s.length : Int) - 12) = th at *
  have Ctm := Lib.hid (fun w => refTwo_any s ((s.length : Int) - 12 + 3) w hs (by omega) (by omega))
  have Btm := twoF_bound s ((s.length : Int) - 12 + 3)
  generalize twoF s ((s.length : Int) - 12 + 3) = tm at *
  have Cts := Lib.hid (fun w => refTwo_any s ((s.length : Int) - 12 + 6) w hs (by omega) (by omega))
  have Bts := twoF_bound s ((s.length : Int) - 12 + 6)
  generalize twoF s ((s.length : Int) - 12 + 6) = ts at *
  have Ctd := Lib.hid (fun w => refTwo_any s (5) w hs (by omega) (by omega))
  have Btd := twoF_bound s (5)
  generalize twoF s (5) = td at *
  have Cmo := Lib.hid (fun w => refMonth_any s (8) w hs (by omega) (by omega))
  have Bmo := monthF_le s (8)
  generalize monthF s (8) = mo at *
  have Cya := Lib.hid (fun w => refTwo_any s (12) w hs (by omega) (by omega))
  have Bya := twoF_bound s (12)
  generalize twoF s (12) = ya at *
  have Cyb := Lib.hid (fun w => refTwo_any s (14) w hs (by omega) (by omega))
  have Byb := twoF_bound s (14)
  generalize twoF s (14) = yb at *
  obtain ⟨w0, ew⟩ : ∃ w0 : World, w0 = (w.alloc (.cells #[.int .i64 0, .int .i64 0, .int .i64 0, .int .i64 0, .int .i64 0, .int .i64 0, .int .i64 0] 106)).alloc (.cells #[.int .i64 0, .int .i64 0, .int .i64 0, .int .i64 0, .int .i64 0, .int .i64 0, .int .i64 0] 106) := ⟨_, rfl⟩
  have hR0 : Blk w0 w.heap.size 106 #[.int .i64 0, .int .i64 0, .int .i64 0, .int .i64 0, .int .i64 0, .int .i64 0, .int .i64 0] := by rw [ew]; exact (Blk.new _ _ _).alloc _
  have hX0 : Blk w0 (w.heap.size + 1) 106 #[.int .i64 0, .int .i64 0, .int .i64 0, .int .i64 0, .int .i64 0, .int .i64 0, .int .i64 0] := by
    rw [ew]
    have := Blk.new (w.alloc (.cells #[.int .i64 0, .int .i64 0, .int .i64 0, .int .i64 0, .int .i64 0, .int .i64 0, .int .i64 0] 106)) 106 #[.int .i64 0, .int .i64 0, .int .i64 0, .int .i64 0, .int .i64 0, .int .i64 0, .int .i64 0]
    rwa [show (w.alloc (.cells #[.int .i64 0, .int .i64 0, .int .i64 0, .int .i64 0, .int .i64 0, .int .i64 0, .int .i64 0] 106)).heap.size = w.heap.size + 1 by simp] at this
  have hb0 : Below w.heap.size w w0 := by rw [ew]; exact ((Below.refl _ _).alloc (Nat.le_refl _) _).alloc (by simp) _
  go_enter Tryz.func94, Tryz.ntmps94
  go_wp2_with fail
  rw [← ew]
  clear ew
  refine (Cth.out w0).mono ?_
  rintro e v1 ⟨rfl, hc1⟩
  have hR1' := hR0.on hc1
  have hX1' := hX0.on hc1
  have hb1' := Bl.tr hb0 hc1
  clear hR0 hX0 hb0 hc1
  have k1 : v1.cell? ⟨w.heap.size + 1, 3, none⟩ = some (.int .i64 (0)) := hX1'.cell 3
  have f1 := hX1'.free 3
  have hX1 := hX1'.set 3 (.int .i64 (th))
  have hR1 := hR1'.other (p := ⟨w.heap.size + 1, 3, none⟩) (by simp) (.int .i64 (th))
  have hb1 := hb1'.setCell (p := ⟨w.heap.size + 1, 3, none⟩) (by simp) (.int .i64 (th))
  have hX1 : Blk (v1.setCell ⟨w.heap.size + 1, 3, none⟩ (.int .i64 (th))) (w.heap.size + 1) 106 #[.int .i64 (0), .int .i64 (0), .int .i64 (0), .int .i64 (th), .int .i64 (0), .int .i64 (0), .int .i64 (0)] := by simpa using hX1
  go_wp2_with fail
  generalize v1.setCell ⟨w.heap.size + 1, 3, none⟩ (.int .i64 (th)) = w1 at *
  clear k1 f1 hX1' hR1' hb1'
  refine (Ctm.out w1).mono ?_
  rintro e v2 ⟨rfl, hc2⟩
  have hR2' := hR1.on hc2
  have hX2' := hX1.on hc2
  have hb2' := Bl.tr hb1 hc2
  clear hR1 hX1 hb1 hc2
  have k2 : v2.cell? ⟨w.heap.size + 1, 4, none⟩ = some (.int .i64 (0)) := hX2'.cell 4
  have f2 := hX2'.free 4
  have hX2 := hX2'.set 4 (.int .i64 (tm))
  have hR2 := hR2'.other (p := ⟨w.heap.size + 1, 4, none⟩) (by simp) (.int .i64 (tm))
  have hb2 := hb2'.setCell (p := ⟨w.heap.size + 1, 4, none⟩) (by simp) (.int .i64 (tm))
  have hX2 : Blk (v2.setCell ⟨w.heap.size + 1, 4, none⟩ (.int .i64 (tm))) (w.heap.size + 1) 106 #[.int .i64 (0), .int .i64 (0), .int .i64 (0), .int .i64 (th), .int .i64 (tm), .int .i64 (0), .int .i64 (0)] := by simpa using hX2
  go_wp2_with fail
  generalize v2.setCell ⟨w.heap.size + 1, 4, none⟩ (.int .i64 (tm)) = w2 at *
  clear k2 f2 hX2' hR2' hb2'
  refine (Cts.out w2).mono ?_
  rintro e v3 ⟨rfl, hc3⟩
  have hR3' := hR2.on hc3
  have hX3' := hX2.on hc3
  have hb3' := Bl.tr hb2 hc3
  clear hR2 hX2 hb2 hc3
  have k3 : v3.cell? ⟨w.heap.size + 1, 5, none⟩ = some (.int .i64 (0)) := hX3'.cell 5
  have f3 := hX3'.free 5
  have hX3 := hX3'.set 5 (.int .i64 (ts))
  have hR3 := hR3'.other (p := ⟨w.heap.size + 1, 5, none⟩) (by simp) (.int .i64 (ts))
  have hb3 := hb3'.setCell (p := ⟨w.heap.size + 1, 5, none⟩) (by simp) (.int .i64 (ts))
  have hX3 : Blk (v3.setCell ⟨w.heap.size + 1, 5, none⟩ (.int .i64 (ts))) (w.heap.size + 1) 106 #[.int .i64 (0), .int .i64 (0), .int .i64 (0), .int .i64 (th), .int .i64 (tm), .int .i64 (ts), .int .i64 (0)] := by simpa using hX3
  go_wp2_with fail
  generalize v3.setCell ⟨w.heap.size + 1, 5, none⟩ (.int .i64 (ts)) = w3 at *
  clear k3 f3 hX3' hR3' hb3'
  refine (Ctd.out w3).mono ?_
  rintro e v4 ⟨rfl, hc4⟩
  have hR4' := hR3.on hc4
  have hX4' := hX3.on hc4
  have hb4' := Bl.tr hb3 hc4
  clear hR3 hX3 hb3 hc4
  have k4 : v4.cell? ⟨w.heap.size + 1, 2, none⟩ = some (.int .i64 (0)) := hX4'.cell 2
  have f4 := hX4'.free 2
  have hX4 := hX4'.set 2 (.int .i64 (td))
  have hR4 := hR4'.other (p := ⟨w.heap.size + 1, 2, none⟩) (by simp) (.int .i64 (td))
  have hb4 := hb4'.setCell (p := ⟨w.heap.size + 1, 2, none⟩) (by simp) (.int .i64 (td))
  have hX4 : Blk (v4.setCell ⟨w.heap.size + 1, 2, none⟩ (.int .i64 (td))) (w.heap.size + 1) 106 #[.int .i64 (0), .int .i64 (0), .int .i64 (td), .int .i64 (th), .int .i64 (tm), .int .i64 (ts), .int .i64 (0)] := by simpa using hX4
  go_wp2_with fail
  generalize v4.setCell ⟨w.heap.size + 1, 2, none⟩ (.int .i64 (td)) = w4 at *
  clear k4 f4 hX4' hR4' hb4'
  refine (Cmo.out w4).mono ?_
  rintro e v5 ⟨rfl, hc5⟩
  have hR5' := hR4.on hc5
  have hX5' := hX4.on hc5
  have hb5' := Bl.tr hb4 hc5
  clear hR4 hX4 hb4 hc5
  have k5 : v5.cell? ⟨w.heap.size + 1, 1, none⟩ = some (.int .i64 (0)) := hX5'.cell 1
  have f5 := hX5'.free 1
  have hX5 := hX5'.set 1 (.int .i64 ((mo : Nat)))
  have hR5 := hR5'.other (p := ⟨w.heap.size + 1, 1, none⟩) (by simp) (.int .i64 ((mo : Nat)))
  have hb5 := hb5'.setCell (p := ⟨w.heap.size + 1, 1, none⟩) (by simp) (.int .i64 ((mo : Nat)))
  have hX5 : Blk (v5.setCell ⟨w.heap.size + 1, 1, none⟩ (.int .i64 ((mo : Nat)))) (w.heap.size + 1) 106 #[.int .i64 (0), .int .i64 ((mo : Nat)), .int .i64 (td), .int .i64 (th), .int .i64 (tm), .int .i64 (ts), .int .i64 (0)] := by simpa using hX5
  go_wp2_with fail
  generalize v5.setCell ⟨w.heap.size + 1, 1, none⟩ (.int .i64 ((mo : Nat))) = w5 at *
  clear k5 f5 hX5' hR5' hb5'
  refine (Cya.out w5).mono ?_
  rintro e v6 ⟨rfl, hc6⟩
  have hR6' := hR5.on hc6
  have hX6' := hX5.on hc6
  have hb6' := Bl.tr hb5 hc6
  clear hR5 hX5 hb5 hc6
  go_wp2_with fail
  have hR6 := hR6'
  have hX6 := hX6'
  have hb6 := hb6'
  clear hR6' hX6' hb6'
  generalize v6 = w6 at *
  refine (Cyb.out w6).mono ?_
  rintro e v7 ⟨rfl, hc7⟩
  have hR7' := hR6.on hc7
  have hX7' := hX6.on hc7
  have hb7' := Bl.tr hb6 hc7
  clear hR6 hX6 hb6 hc7
  (have x0 : v7.cell? ⟨w.heap.size + 1, 0, none⟩ = some (.int .i64 (0)) := hX7'.cell 0; have x1 : v7.cell? ⟨w.heap.size + 1, 1, none⟩ = some (.int .i64 ((mo : Nat))) := hX7'.cell 1; have x2 : v7.cell? ⟨w.heap.size + 1, 2, none⟩ = some (.int .i64 (td)) := hX7'.cell 2; have x3 : v7.cell? ⟨w.heap.size + 1, 3, none⟩ = some (.int .i64 (th)) := hX7'.cell 3; have x4 : v7.cell? ⟨w.heap.size + 1, 4, none⟩ = some (.int .i64 (tm)) := hX7'.cell 4; have x5 : v7.cell? ⟨w.heap.size + 1, 5, none⟩ = some (.int .i64 (ts)) := hX7'.cell 5; have x6 : v7.cell? ⟨w.heap.size + 1, 6, none⟩ = some (.int .i64 (0)) := hX7'.cell 6)
  (have z0 : v7.cell? ⟨w.heap.size, 0, none⟩ = some (.int .i64 0) := hR7'.cell 0; have z1 : v7.cell? ⟨w.heap.size, 1, none⟩ = some (.int .i64 0) := hR7'.cell 1; have z2 : v7.cell? ⟨w.heap.size, 2, none⟩ = some (.int .i64 0) := hR7'.cell 2; have z3 : v7.cell? ⟨w.heap.size, 3, none⟩ = some (.int .i64 0) := hR7'.cell 3; have z4 : v7.cell? ⟨w.heap.size, 4, none⟩ = some (.int .i64 0) := hR7'.cell 4; have z5 : v7.cell? ⟨w.heap.size, 5, none⟩ = some (.int .i64 0) := hR7'.cell 5; have z6 : v7.cell? ⟨w.heap.size, 6, none⟩ = some (.int .i64 0) := hR7'.cell 6)
  have fz := hR7'.free
  have fx := hX7'.free 0
  go_wp2_with fail
  have hR := ((((((((hR7'.other (p := ⟨w.heap.size + 1, 0, none⟩) (by simp) (.int .i64 (ya * 100 + yb))).set 0 (.int .i64 (ya * 100 + yb))).set 1 (.int .i64 ((mo : Nat)))).set 2 (.int .i64 (td))).set 3 (.int .i64 (th))).set 4 (.int .i64 (tm))).set 5 (.int .i64 (ts))).set 6 (.int .i64 (0)))
  rw [cells7] at hR
  exact ret_guess rfl hR ⟨rfl, ((((((((hb7'.setCell (p := ⟨w.heap.size + 1, 0, none⟩) (by simp) (.int .i64 (ya * 100 + yb))).setCell (p := ⟨w.heap.size, 0, none⟩) (Nat.le_refl _) (.int .i64 (ya * 100 + yb))).setCell (p := ⟨w.heap.size, 1, none⟩) (Nat.le_refl _) (.int .i64 ((mo : Nat)))).setCell (p := ⟨w.heap.size, 2, none⟩) (Nat.le_refl _) (.int .i64 (td))).setCell (p := ⟨w.heap.size, 3, none⟩) (Nat.le_refl _) (.int .i64 (th))).setCell (p := ⟨w.heap.size, 4, none⟩) (Nat.le_refl _) (.int .i64 (tm))).setCell (p := ⟨w.heap.size, 5, none⟩) (Nat.le_refl _) (.int .i64 (ts))).setCell (p := ⟨w.heap.size, 6, none⟩) (Nat.le_refl _) (.int .i64 (0)))⟩
set_option maxRecDepth 100000 in
set_option maxHeartbeats 4000000 in
theorem guess_1a (s : Bytes) (now : Nat) (hw : ¬ ((now : Int) / 100 * 100 + twoF s ((s.length : Int) - 12 - 3) > (now : Int) + 50)) (w : World) (hs : s.length ≤ 1099511627776) (hn : now ≤ 9999) : Calls Tryz.prog 94 #[S s, .int .i64 1, .int .i64 now] w fun e w' => e = .returned (.agg #[.int .i64 (gYear now (twoF s ((s.length : Int) - 12 - 3))), .int .i64 ((monthF s ((s.length : Int) - 12 - 7) : Nat)), .int .i64 (twoF s ((s.length : Int) - 12 - 10)), .int .i64 (twoF s ((s.length : Int) - 12)), .int .i64 (twoF s ((s.length : Int) - 12 + 3)), .int .i64 (twoF s ((s.length : Int) - 12 + 6)), .int .i64 0]) ∧ Below w.heap.size w w' := by
  have hgy : gYear now (twoF s ((s.length : Int) - 12 - 3)) = (now : Int) / 100 * 100 + twoF s ((s.length : Int) - 12 - 3) := by unfold gYear; rw [if_neg hw]
  rw [hgy]
  clear hgy
  have Cth := Lib.hid (fun w => refTwo_any s ((s.length : Int) - 12) w hs (by omega) (by omega))
  have Bth := twoF_bound s ((s.length : Int) - 12)
  generalize twoF s ((s.length : Int) - 12) = th at *
  have Ctm := Lib.hid (fun w => refTwo_any s ((s.length : Int) - 12 + 3) w hs (by omega) (by omega))
  have Btm := twoF_bound s ((s.length : Int) - 12 + 3)
  generalize twoF s ((s.length : Int) - 12 + 3) = tm at *
  have Cts := Lib.hid (fun w => refTwo_any s ((s.length : Int) - 12 + 6) w hs (by omega) (by omega))
  have Bts := twoF_bound s ((s.length : Int) - 12 + 6)
  generalize twoF s ((s.length : Int) - 12 + 6) = ts at *
  have Ctd := Lib.hid (fun w => refTwo_any s ((s.length : Int) - 12 - 10) w hs (by omega) (by omega))
  have Btd := twoF_bound s ((s.length : Int) - 12 - 10)
  generalize twoF s ((s.length : Int) - 12 - 10) = td at *
  have Cmo := Lib.hid (fun w => refMonth_any s ((s.length : Int) - 12 - 7) w hs (by omega) (by omega))
  have Bmo := monthF_le s ((s.length : Int) - 12 - 7)
  generalize monthF s ((s.length : Int) - 12 - 7) = mo at *
  have Cya := Lib.hid (fun w => refTwo_any s ((s.length : Int) - 12 - 3) w hs (by omega) (by omega))
  have Bya := twoF_bound s ((s.length : Int) - 12 - 3)
  generalize twoF s ((s.length : Int) - 12 - 3) = ya at *
  have q1 : ((now : Int)).tdiv 100 = (now : Int) / 100 := Int.tdiv_eq_ediv_of_nonneg (by omega)
  obtain ⟨w0, ew⟩ : ∃ w0 : World, w0 = (w.alloc (.cells #[.int .i64 0, .int .i64 0, .int .i64 0, .int .i64 0, .int .i64 0, .int .i64 0, .int .i64 0] 106)).alloc (.cells #[.int .i64 0, .int .i64 0, .int .i64 0, .int .i64 0, .int .i64 0, .int .i64 0, .int .i64 0] 106) := ⟨_, rfl⟩
  have hR0 : Blk w0 w.heap.size 106 #[.int .i64 0, .int .i64 0, .int .i64 0, .int .i64 0, .int .i64 0, .int .i64 0, .int .i64 0] := by rw [ew]; exact (Blk.new _ _ _).alloc _
  have hX0 : Blk w0 (w.heap.size + 1) 106 #[.int .i64 0, .int .i64 0, .int .i64 0, .int .i64 0, .int .i64 0, .int .i64 0, .int .i64 0] := by
    rw [ew]
    have := Blk.new (w.alloc (.cells #[.int .i64 0, .int .i64 0, .int .i64 0, .int .i64 0, .int .i64 0, .int .i64 0, .int .i64 0] 106)) 106 #[.int .i64 0, .int .i64 0, .int .i64 0, .int .i64 0, .int .i64 0, .int .i64 0, .int .i64 0]
    rwa [show (w.alloc (.cells #[.int .i64 0, .int .i64 0, .int .i64 0, .int .i64 0, .int .i64 0, .int .i64 0, .int .i64 0] 106)).heap.size = w.heap.size + 1 by simp] at this
  have hb0 : Below w.heap.size w w0 := by rw [ew]; exact ((Below.refl _ _).alloc (Nat.le_refl _) _).alloc (by simp) _
  go_enter Tryz.func94, Tryz.ntmps94
  go_wp2_with fail
  rw [← ew]
  clear ew
  refine (Cth.out w0).mono ?_
  rintro e v1 ⟨rfl, hc1⟩
  have hR1' := hR0.on hc1
  have hX1' := hX0.on hc1
  have hb1' := Bl.tr hb0 hc1
  clear hR0 hX0 hb0 hc1
  have k1 : v1.cell? ⟨w.heap.size + 1, 3, none⟩ = some (.int .i64 (0)) := hX1'.cell 3
  have f1 := hX1'.free 3
  have hX1 := hX1'.set 3 (.int .i64 (th))
  have hR1 := hR1'.other (p := ⟨w.heap.size + 1, 3, none⟩) (by simp) (.int .i64 (th))
  have hb1 := hb1'.setCell (p := ⟨w.heap.size + 1, 3, none⟩) (by simp) (.int .i64 (th))
  have hX1 : Blk (v1.setCell ⟨w.heap.size + 1, 3, none⟩ (.int .i64 (th))) (w.heap.size + 1) 106 #[.int .i64 (0), .int .i64 (0), .int .i64 (0), .int .i64 (th), .int .i64 (0), .int .i64 (0), .int .i64 (0)] := by simpa using hX1
  go_wp2_with fail
  generalize v1.setCell ⟨w.heap.size + 1, 3, none⟩ (.int .i64 (th)) = w1 at *
  clear k1 f1 hX1' hR1' hb1'
  refine (Ctm.out w1).mono ?_
  rintro e v2 ⟨rfl, hc2⟩
  have hR2' := hR1.on hc2
  have hX2' := hX1.on hc2
  have hb2' := Bl.tr hb1 hc2
  clear hR1 hX1 hb1 hc2
  have k2 : v2.cell? ⟨w.heap.size + 1, 4, none⟩ = some (.int .i64 (0)) := hX2'.cell 4
  have f2 := hX2'.free 4
  have hX2 := hX2'.set 4 (.int .i64 (tm))
  have hR2 := hR2'.other (p := ⟨w.heap.size + 1, 4, none⟩) (by simp) (.int .i64 (tm))
  have hb2 := hb2'.setCell (p := ⟨w.heap.size + 1, 4, none⟩) (by simp) (.int .i64 (tm))
  have hX2 : Blk (v2.setCell ⟨w.heap.size + 1, 4, none⟩ (.int .i64 (tm))) (w.heap.size + 1) 106 #[.int .i64 (0), .int .i64 (0), .int .i64 (0), .int .i64 (th), .int .i64 (tm), .int .i64 (0), .int .i64 (0)] := by simpa using hX2
  go_wp2_with fail
  generalize v2.setCell ⟨w.heap.size + 1, 4, none⟩ (.int .i64 (tm)) = w2 at *
  clear k2 f2 hX2' hR2' hb2'
  refine (Cts.out w2).mono ?_
  rintro e v3 ⟨rfl, hc3⟩
  have hR3' := hR2.on hc3
  have hX3' := hX2.on hc3
  have hb3' := Bl.tr hb2 hc3
  clear hR2 hX2 hb2 hc3
  have k3 : v3.cell? ⟨w.heap.size + 1, 5, none⟩ = some (.int .i64 (0)) := hX3'.cell 5
  have f3 := hX3'.free 5
  have hX3 := hX3'.set 5 (.int .i64 (ts))
  have hR3 := hR3'.other (p := ⟨w.heap.size + 1, 5, none⟩) (by simp) (.int .i64 (ts))
  have hb3 := hb3'.setCell (p := ⟨w.heap.size + 1, 5, none⟩) (by simp) (.int .i64 (ts))
  have hX3 : Blk (v3.setCell ⟨w.heap.size + 1, 5, none⟩ (.int .i64 (ts))) (w.heap.size + 1) 106 #[.int .i64 (0), .int .i64 (0), .int .i64 (0), .int .i64 (th), .int .i64 (tm), .int .i64 (ts), .int .i64 (0)] := by simpa using hX3
  go_wp2_with fail
  generalize v3.setCell ⟨w.heap.size + 1, 5, none⟩ (.int .i64 (ts)) = w3 at *
  clear k3 f3 hX3' hR3' hb3'
  refine (Ctd.out w3).mono ?_
  rintro e v4 ⟨rfl, hc4⟩
  have hR4' := hR3.on hc4
  have hX4' := hX3.on hc4
  have hb4' := Bl.tr hb3 hc4
  clear hR3 hX3 hb3 hc4
  have k4 : v4.cell? ⟨w.heap.size + 1, 2, none⟩ = some (.int .i64 (0)) := hX4'.cell 2
  have f4 := hX4'.free 2
  have hX4 := hX4'.set 2 (.int .i64 (td))
  have hR4 := hR4'.other (p := ⟨w.heap.size + 1, 2, none⟩) (by simp) (.int .i64 (td))
  have hb4 := hb4'.setCell (p := ⟨w.heap.size + 1, 2, none⟩) (by simp) (.int .i64 (td))
  have hX4 : Blk (v4.setCell ⟨w.heap.size + 1, 2, none⟩ (.int .i64 (td))) (w.heap.size + 1) 106 #[.int .i64 (0), .int .i64 (0), .int .i64 (td), .int .i64 (th), .int .i64 (tm), .int .i64 (ts), .int .i64 (0)] := by simpa using hX4
  go_wp2_with fail
  generalize v4.setCell ⟨w.heap.size + 1, 2, none⟩ (.int .i64 (td)) = w4 at *
  clear k4 f4 hX4' hR4' hb4'
  refine (Cmo.out w4).mono ?_
  rintro e v5 ⟨rfl, hc5⟩
  have hR5' := hR4.on hc5
  have hX5' := hX4.on hc5
  have hb5' := Bl.tr hb4 hc5
  clear hR4 hX4 hb4 hc5
  have k5 : v5.cell? ⟨w.heap.size + 1, 1, none⟩ = some (.int .i64 (0)) := hX5'.cell 1
  have f5 := hX5'.free 1
  have hX5 := hX5'.set 1 (.int .i64 ((mo : Nat)))
  have hR5 := hR5'.other (p := ⟨w.heap.size + 1, 1, none⟩) (by simp) (.int .i64 ((mo : Nat)))
  have hb5 := hb5'.setCell (p := ⟨w.heap.size + 1, 1, none⟩) (by simp) (.int .i64 ((mo : Nat)))
  have hX5 : Blk (v5.setCell ⟨w.heap.size + 1, 1, none⟩ (.int .i64 ((mo : Nat)))) (w.heap.size + 1) 106 #[.int .i64 (0), .int .i64 ((mo : Nat)), .int .i64 (td), .int .i64 (th), .int .i64 (tm), .int .i64 (ts), .int .i64 (0)] := by simpa using hX5
  go_wp2_with fail
  generalize v5.setCell ⟨w.heap.size + 1, 1, none⟩ (.int .i64 ((mo : Nat))) = w5 at *
  clear k5 f5 hX5' hR5' hb5'
  refine (Cya.out w5).mono ?_
  rintro e v6 ⟨rfl, hc6⟩
  have hR6' := hR5.on hc6
  have hX6' := hX5.on hc6
  have hb6' := Bl.tr hb5 hc6
  clear hR5 hX5 hb5 hc6
  (have x0 : v6.cell? ⟨w.heap.size + 1, 0, none⟩ = some (.int .i64 (0)) := hX6'.cell 0; have x1 : v6.cell? ⟨w.heap.size + 1, 1, none⟩ = some (.int .i64 ((mo : Nat))) := hX6'.cell 1; have x2 : v6.cell? ⟨w.heap.size + 1, 2, none⟩ = some (.int .i64 (td)) := hX6'.cell 2; have x3 : v6.cell? ⟨w.heap.size + 1, 3, none⟩ = some (.int .i64 (th)) := hX6'.cell 3; have x4 : v6.cell? ⟨w.heap.size + 1, 4, none⟩ = some (.int .i64 (tm)) := hX6'.cell 4; have x5 : v6.cell? ⟨w.heap.size + 1, 5, none⟩ = some (.int .i64 (ts)) := hX6'.cell 5; have x6 : v6.cell? ⟨w.heap.size + 1, 6, none⟩ = some (.int .i64 (0)) := hX6'.cell 6)
  (have z0 : v6.cell? ⟨w.heap.size, 0, none⟩ = some (.int .i64 0) := hR6'.cell 0; have z1 : v6.cell? ⟨w.heap.size, 1, none⟩ = some (.int .i64 0) := hR6'.cell 1; have z2 : v6.cell? ⟨w.heap.size, 2, none⟩ = some (.int .i64 0) := hR6'.cell 2; have z3 : v6.cell? ⟨w.heap.size, 3, none⟩ = some (.int .i64 0) := hR6'.cell 3; have z4 : v6.cell? ⟨w.heap.size, 4, none⟩ = some (.int .i64 0) := hR6'.cell 4; have z5 : v6.cell? ⟨w.heap.size, 5, none⟩ = some (.int .i64 0) := hR6'.cell 5; have z6 : v6.cell? ⟨w.heap.size, 6, none⟩ = some (.int .i64 0) := hR6'.cell 6)
  have fz := hR6'.free
  have fx := hX6'.free 0
  go_wp2_with fail
  have hR := ((((((((hR6'.other (p := ⟨w.heap.size + 1, 0, none⟩) (by simp) (.int .i64 ((now : Int) / 100 * 100 + ya))).set 0 (.int .i64 ((now : Int) / 100 * 100 + ya))).set 1 (.int .i64 ((mo : Nat)))).set 2 (.int .i64 (td))).set 3 (.int .i64 (th))).set 4 (.int .i64 (tm))).set 5 (.int .i64 (ts))).set 6 (.int .i64 (0)))
  rw [cells7] at hR
  exact ret_guess rfl hR ⟨rfl, ((((((((hb6'.setCell (p := ⟨w.heap.size + 1, 0, none⟩) (by simp) (.int .i64 ((now : Int) / 100 * 100 + ya))).setCell (p := ⟨w.heap.size, 0, none⟩) (Nat.le_refl _) (.int .i64 ((now : Int) / 100 * 100 + ya))).setCell (p := ⟨w.heap.size, 1, none⟩) (Nat.le_refl _) (.int .i64 ((mo : Nat)))).setCell (p := ⟨w.heap.size, 2, none⟩) (Nat.le_refl _) (.int .i64 (td))).setCell (p := ⟨w.heap.size, 3, none⟩) (Nat.le_refl _) (.int .i64 (th))).setCell (p := ⟨w.heap.size, 4, none⟩) (Nat.le_refl _) (.int .i64 (tm))).setCell (p := ⟨w.heap.size, 5, none⟩) (Nat.le_refl _) (.int .i64 (ts))).setCell (p := ⟨w.heap.size, 6, none⟩) (Nat.le_refl _) (.int .i64 (0)))⟩
set_option maxRecDepth 100000 in
set_option maxHeartbeats 4000000 in
theorem guess_1b (s : Bytes) (now : Nat) (hw : (now : Int) / 100 * 100 + twoF s ((s.length : Int) - 12 - 3) > (now : Int) + 50) (w : World) (hs : s.length ≤ 1099511627776) (hn : now ≤ 9999) : Calls Tryz.prog 94 #[S s, .int .i64 1, .int .i64 now] w fun e w' => e = .returned (.agg #[.int .i64 (gYear now (twoF s ((s.length : Int) - 12 - 3))), .int .i64 ((monthF s ((s.length : Int) - 12 - 7) : Nat)), .int .i64 (twoF s ((s.length : Int) - 12 - 10)), .int .i64 (twoF s ((s.length : Int) - 12)), .int .i64 (twoF s ((s.length : Int) - 12 + 3)), .int .i64 (twoF s ((s.length : Int) - 12 + 6)), .int .i64 0]) ∧ Below w.heap.size w w' := by
  have hgy : gYear now (twoF s ((s.length : Int) - 12 - 3)) = (now : Int) / 100 * 100 + twoF s ((s.length : Int) - 12 - 3) - 100 := by unfold gYear; rw [if_pos hw]
  rw [hgy]
  clear hgy
  have Cth := Lib.hid (fun w => refTwo_any s ((s.length : Int) - 12) w hs (by omega) (by omega))
  have Bth := twoF_bound s ((s.length : Int) - 12)
  generalize twoF s ((s.length : Int) - 12) = th at *
  have Ctm := Lib.hid (fun w => refTwo_any s ((s.length : Int) - 12 + 3) w hs (by omega) (by omega))
  have Btm := twoF_bound s ((s.length : Int) - 12 + 3)
  generalize twoF s ((s.length : Int) - 12 + 3) = tm at *
  have Cts := Lib.hid (fun w => refTwo_any s ((s.length : Int) - 12 + 6) w hs (by omega) (by omega))
  have Bts := twoF_bound s ((s.length : Int) - 12 + 6)
  generalize twoF s ((s.length : Int) - 12 + 6) = ts at *
  have Ctd := Lib.hid (fun w => refTwo_any s ((s.length : Int) - 12 - 10) w hs (by omega) (by omega))
  have Btd := twoF_bound s ((s.length : Int) - 12 - 10)
  generalize twoF s ((s.length : Int) - 12 - 10) = td at *
  have Cmo := Lib.hid (fun w => refMonth_any s ((s.length : Int) - 12 - 7) w hs (by omega) (by omega))
  have Bmo := monthF_le s ((s.length : Int) - 12 - 7)
  generalize monthF s ((s.length : Int) - 12 - 7) = mo at *
  have Cya := Lib.hid (fun w => refTwo_any s ((s.length : Int) - 12 - 3) w hs (by omega) (by omega))
  have Bya := twoF_bound s ((s.length : Int) - 12 - 3)
  generalize twoF s ((s.length : Int) - 12 - 3) = ya at *
  have q1 : ((now : Int)).tdiv 100 = (now : Int) / 100 := Int.tdiv_eq_ediv_of_nonneg (by omega)
  obtain ⟨w0, ew⟩ : ∃ w0 : World, w0 = (w.alloc (.cells #[.int .i64 0, .int .i64 0, .int .i64 0, .int .i64 0, .int .i64 0, .int .i64 0, .int .i64 0] 106)).alloc (.cells #[.int .i64 0, .int .i64 0, .int .i64 0, .int .i64 0, .int .i64 0, .int .i64 0, .int .i64 0] 106) := ⟨_, rfl⟩
  have hR0 : Blk w0 w.heap.size 106 #[.int .i64 0, .int .i64 0, .int .i64 0, .int .i64 0, .int .i64 0, .int .i64 0, .int .i64 0] := by rw [ew]; exact (Blk.new _ _ _).alloc _
  have hX0 : Blk w0 (w.heap.size + 1) 106 #[.int .i64 0, .int .i64 0, .int .i64 0, .int .i64 0, .int .i64 0, .int .i64 0, .int .i64 0] := by
    rw [ew]
    have := Blk.new (w.alloc (.cells #[.int .i64 0, .int .i64 0, .int .i64 0, .int .i64 0, .int .i64 0, .int .i64 0, .int .i64 0] 106)) 106 #[.int .i64 0, .int .i64 0, .int .i64 0, .int .i64 0, .int .i64 0, .int .i64 0, .int .i64 0]
    rwa [show (w.alloc (.cells #[.int .i64 0, .int .i64 0, .int .i64 0, .int .i64 0, .int .i64 0, .int .i64 0, .int .i64 0] 106)).heap.size = w.heap.size + 1 by simp] at this
  have hb0 : Below w.heap.size w w0 := by rw [ew]; exact ((Below.refl _ _).alloc (Nat.le_refl _) _).alloc (by simp) _
  go_enter Tryz.func94, Tryz.ntmps94
  go_wp2_with fail
  rw [← ew]
  clear ew
  refine (Cth.out w0).mono ?_
  rintro e v1 ⟨rfl, hc1⟩
  have hR1' := hR0.on hc1
  have hX1' := hX0.on hc1
  have hb1' := Bl.tr hb0 hc1
  clear hR0 hX0 hb0 hc1
  have k1 : v1.cell? ⟨w.heap.size + 1, 3, none⟩ = some (.int .i64 (0)) := hX1'.cell 3
  have f1 := hX1'.free 3
  have hX1 := hX1'.set 3 (.int .i64 (th))
  have hR1 := hR1'.other (p := ⟨w.heap.size + 1, 3, none⟩) (by simp) (.int .i64 (th))
  have hb1 := hb1'.setCell (p := ⟨w.heap.size + 1, 3, none⟩) (by simp) (.int .i64 (th))
  have hX1 : Blk (v1.setCell ⟨w.heap.size + 1, 3, none⟩ (.int .i64 (th))) (w.heap.size + 1) 106 #[.int .i64 (0), .int .i64 (0), .int .i64 (0), .int .i64 (th), .int .i64 (0), .int .i64 (0), .int .i64 (0)] := by simpa using hX1
  go_wp2_with fail
  generalize v1.setCell ⟨w.heap.size + 1, 3, none⟩ (.int .i64 (th)) = w1 at *
  clear k1 f1 hX1' hR1' hb1'
  refine (Ctm.out w1).mono ?_
  rintro e v2 ⟨rfl, hc2⟩
  have hR2' := hR1.on hc2
  have hX2' := hX1.on hc2
  have hb2' := Bl.tr hb1 hc2
  clear hR1 hX1 hb1 hc2
  have k2 : v2.cell? ⟨w.heap.size + 1, 4, none⟩ = some (.int .i64 (0)) := hX2'.cell 4
  have f2 := hX2'.free 4
  have hX2 := hX2'.set 4 (.int .i64 (tm))
  have hR2 := hR2'.other (p := ⟨w.heap.size + 1, 4, none⟩) (by simp) (.int .i64 (tm))
  have hb2 := hb2'.setCell (p := ⟨w.heap.size + 1, 4, none⟩) (by simp) (.int .i64 (tm))
  have hX2 : Blk (v2.setCell ⟨w.heap.size + 1, 4, none⟩ (.int .i64 (tm))) (w.heap.size + 1) 106 #[.int .i64 (0), .int .i64 (0), .int .i64 (0), .int .i64 (th), .int .i64 (tm), .int .i64 (0), .int .i64 (0)] := by simpa using hX2
  go_wp2_with fail
  generalize v2.setCell ⟨w.heap.size + 1, 4, none⟩ (.int .i64 (tm)) = w2 at *
  clear k2 f2 hX2' hR2' hb2'
  refine (Cts.out w2).mono ?_
  rintro e v3 ⟨rfl, hc3⟩
  have hR3' := hR2.on hc3
  have hX3' := hX2.on hc3
  have hb3' := Bl.tr hb2 hc3
  clear hR2 hX2 hb2 hc3
  have k3 : v3.cell? ⟨w.heap.size + 1, 5, none⟩ = some (.int .i64 (0)) := hX3'.cell 5
  have f3 := hX3'.free 5
  have hX3 := hX3'.set 5 (.int .i64 (ts))
  have hR3 := hR3'.other (p := ⟨w.heap.size + 1, 5, none⟩) (by simp) (.int .i64 (ts))
  have hb3 := hb3'.setCell (p := ⟨w.heap.size + 1, 5, none⟩) (by simp) (.int .i64 (ts))
  have hX3 : Blk (v3.setCell ⟨w.heap.size + 1, 5, none⟩ (.int .i64 (ts))) (w.heap.size + 1) 106 #[.int .i64 (0), .int .i64 (0), .int .i64 (0), .int .i64 (th), .int .i64 (tm), .int .i64 (ts), .int .i64 (0)] := by simpa using hX3
  go_wp2_with fail
  generalize v3.setCell ⟨w.heap.size + 1, 5, none⟩ (.int .i64 (ts)) = w3 at *
  clear k3 f3 hX3' hR3' hb3'
  refine (Ctd.out w3).mono ?_
  rintro e v4 ⟨rfl, hc4⟩
  have hR4' := hR3.on hc4
  have hX4' := hX3.on hc4
  have hb4' := Bl.tr hb3 hc4
  clear hR3 hX3 hb3 hc4
  have k4 : v4.cell? ⟨w.heap.size + 1, 2, none⟩ = some (.int .i64 (0)) := hX4'.cell 2
  have f4 := hX4'.free 2
  have hX4 := hX4'.set 2 (.int .i64 (td))
  have hR4 := hR4'.other (p := ⟨w.heap.size + 1, 2, none⟩) (by simp) (.int .i64 (td))
  have hb4 := hb4'.setCell (p := ⟨w.heap.size + 1, 2, none⟩) (by simp) (.int .i64 (td))
  have hX4 : Blk (v4.setCell ⟨w.heap.size + 1, 2, none⟩ (.int .i64 (td))) (w.heap.size + 1) 106 #[.int .i64 (0), .int .i64 (0), .int .i64 (td), .int .i64 (th), .int .i64 (tm), .int .i64 (ts), .int .i64 (0)] := by simpa using hX4
  go_wp2_with fail
  generalize v4.setCell ⟨w.heap.size + 1, 2, none⟩ (.int .i64 (td)) = w4 at *
  clear k4 f4 hX4' hR4' hb4'
  refine (Cmo.out w4).mono ?_
  rintro e v5 ⟨rfl, hc5⟩
  have hR5' := hR4.on hc5
  have hX5' := hX4.on hc5
  have hb5' := Bl.tr hb4 hc5
  clear hR4 hX4 hb4 hc5
  have k5 : v5.cell? ⟨w.heap.size + 1, 1, none⟩ = some (.int .i64 (0)) := hX5'.cell 1
  have f5 := hX5'.free 1
  have hX5 := hX5'.set 1 (.int .i64 ((mo : Nat)))
  have hR5 := hR5'.other (p := ⟨w.heap.size + 1, 1, none⟩) (by simp) (.int .i64 ((mo : Nat)))
  have hb5 := hb5'.setCell (p := ⟨w.heap.size + 1, 1, none⟩) (by simp) (.int .i64 ((mo : Nat)))
  have hX5 : Blk (v5.setCell ⟨w.heap.size + 1, 1, none⟩ (.int .i64 ((mo : Nat)))) (w.heap.size + 1) 106 #[.int .i64 (0), .int .i64 ((mo : Nat)), .int .i64 (td), .int .i64 (th), .int .i64 (tm), .int .i64 (ts), .int .i64 (0)] := by simpa using hX5
  go_wp2_with fail
  generalize v5.setCell ⟨w.heap.size + 1, 1, none⟩ (.int .i64 ((mo : Nat))) = w5 at *
  clear k5 f5 hX5' hR5' hb5'
  refine (Cya.out w5).mono ?_
  rintro e v6 ⟨rfl, hc6⟩
  have hR6' := hR5.on hc6
  have hX6' := hX5.on hc6
  have hb6' := Bl.tr hb5 hc6
  clear hR5 hX5 hb5 hc6
  (have x0 : v6.cell? ⟨w.heap.size + 1, 0, none⟩ = some (.int .i64 (0)) := hX6'.cell 0; have x1 : v6.cell? ⟨w.heap.size + 1, 1, none⟩ = some (.int .i64 ((mo : Nat))) := hX6'.cell 1; have x2 : v6.cell? ⟨w.heap.size + 1, 2, none⟩ = some (.int .i64 (td)) := hX6'.cell 2; have x3 : v6.cell? ⟨w.heap.size + 1, 3, none⟩ = some (.int .i64 (th)) := hX6'.cell 3; have x4 : v6.cell? ⟨w.heap.size + 1, 4, none⟩ = some (.int .i64 (tm)) := hX6'.cell 4; have x5 : v6.cell? ⟨w.heap.size + 1, 5, none⟩ = some (.int .i64 (ts)) := hX6'.cell 5; have x6 : v6.cell? ⟨w.heap.size + 1, 6, none⟩ = some (.int .i64 (0)) := hX6'.cell 6)
  (have z0 : v6.cell? ⟨w.heap.size, 0, none⟩ = some (.int .i64 0) := hR6'.cell 0; have z1 : v6.cell? ⟨w.heap.size, 1, none⟩ = some (.int .i64 0) := hR6'.cell 1; have z2 : v6.cell? ⟨w.heap.size, 2, none⟩ = some (.int .i64 0) := hR6'.cell 2; have z3 : v6.cell? ⟨w.heap.size, 3, none⟩ = some (.int .i64 0) := hR6'.cell 3; have z4 : v6.cell? ⟨w.heap.size, 4, none⟩ = some (.int .i64 0) := hR6'.cell 4; have z5 : v6.cell? ⟨w.heap.size, 5, none⟩ = some (.int .i64 0) := hR6'.cell 5; have z6 : v6.cell? ⟨w.heap.size, 6, none⟩ = some (.int .i64 0) := hR6'.cell 6)
  have fz := hR6'.free
  have fx := hX6'.free 0
  go_wp2_with fail
  have hR := (((((((((hR6'.other (p := ⟨w.heap.size + 1, 0, none⟩) (by simp) (.int .i64 ((now : Int) / 100 * 100 + ya))).other (p := ⟨w.heap.size + 1, 0, none⟩) (by simp) (.int .i64 ((now : Int) / 100 * 100 + ya - 100))).set 0 (.int .i64 ((now : Int) / 100 * 100 + ya - 100))).set 1 (.int .i64 ((mo : Nat)))).set 2 (.int .i64 (td))).set 3 (.int .i64 (th))).set 4 (.int .i64 (tm))).set 5 (.int .i64 (ts))).set 6 (.int .i64 (0)))
  rw [cells7] at hR
  exact ret_guess rfl hR ⟨rfl, (((((((((hb6'.setCell (p := ⟨w.heap.size + 1, 0, none⟩) (by simp) (.int .i64 ((now : Int) / 100 * 100 + ya))).setCell (p := ⟨w.heap.size + 1, 0, none⟩) (by simp) (.int .i64 ((now : Int) / 100 * 100 + ya - 100))).setCell (p := ⟨w.heap.size, 0, none⟩) (Nat.le_refl _) (.int .i64 ((now : Int) / 100 * 100 + ya - 100))).setCell (p := ⟨w.heap.size, 1, none⟩) (Nat.le_refl _) (.int .i64 ((mo : Nat)))).setCell (p := ⟨w.heap.size, 2, none⟩) (Nat.le_refl _) (.int .i64 (td))).setCell (p := ⟨w.heap.size, 3, none⟩) (Nat.le_refl _) (.int .i64 (th))).setCell (p := ⟨w.heap.size, 4, none⟩) (Nat.le_refl _) (.int .i64 (tm))).setCell (p := ⟨w.heap.size, 5, none⟩) (Nat.le_refl _) (.int .i64 (ts))).setCell (p := ⟨w.heap.size, 6, none⟩) (Nat.le_refl _) (.int .i64 (0)))⟩
set_option linter.unusedVariables false in
set_option maxRecDepth 100000 in
set_option maxHeartbeats 4000000 in
theorem guess_2a (s : Bytes) (now : Nat) (hl : s.length ≤ 9) (w : World) (hs : s.length ≤ 1099511627776) (hn : now ≤ 9999) : Calls Tryz.prog 94 #[S s, .int .i64 2, .int .i64 now] w fun e w' => e = .returned (.agg #[.int .i64 (twoF s 20 * 100 + twoF s 22), .int .i64 ((monthF s 4 : Nat)), .int .i64 (twoF s 8), .int .i64 (twoF s ((s.length : Int) - 13)), .int .i64 (twoF s ((s.length : Int) - 13 + 3)), .int .i64 (twoF s ((s.length : Int) - 13 + 6)), .int .i64 0]) ∧ Below w.heap.size w w' := by
  have Cth := Lib.hid (fun w => refTwo_any s ((s.length : Int) - 13) w hs (by omega) (by omega))
  have Bth := twoF_bound s ((s.length : Int) - 13)
  generalize twoF s ((s.length : Int) - 13) = th at *
  have Ctm := Lib.hid (fun w => refTwo_any s ((s.length : Int) - 13 + 3) w hs (by omega) (by omega))
  have Btm := twoF_bound s ((s.length : Int) - 13 + 3)
  generalize twoF s ((s.length : Int) - 13 + 3) = tm at *
  have Cts := Lib.hid (fun w => refTwo_any s ((s.length : Int) - 13 + 6) w hs (by omega) (by omega))
  have Bts := twoF_bound s ((s.length : Int) - 13 + 6)
  generalize twoF s ((s.length : Int) - 13 + 6) = ts at *
  have Ctd := Lib.hid (fun w => refTwo_any s (8) w hs (by omega) (by omega))
  have Btd := twoF_bound s (8)
  generalize twoF s (8) = td at *
  have Cmo := Lib.hid (fun w => refMonth_any s (4) w hs (by omega) (by omega))
  have Bmo := monthF_le s (4)
  generalize monthF s (4) = mo at *
  have Cya := Lib.hid (fun w => refTwo_any s (20) w hs (by omega) (by omega))
  have Bya := twoF_bound s (20)
  generalize twoF s (20) = ya at *
  have Cyb := Lib.hid (fun w => refTwo_any s (22) w hs (by omega) (by omega))
  have Byb := twoF_bound s (22)
  generalize twoF s (22) = yb at *
  obtain ⟨w0, ew⟩ : ∃ w0 : World, w0 = (w.alloc (.cells #[.int .i64 0, .int .i64 0, .int .i64 0, .int .i64 0, .int .i64 0, .int .i64 0, .int .i64 0] 106)).alloc (.cells #[.int .i64 0, .int .i64 0, .int .i64 0, .int .i64 0, .int .i64 0, .int .i64 0, .int .i64 0] 106) := ⟨_, rfl⟩
  have hR0 : Blk w0 w.heap.size 106 #[.int .i64 0, .int .i64 0, .int .i64 0, .int .i64 0, .int .i64 0, .int .i64 0, .int .i64 0] := by rw [ew]; exact (Blk.new _ _ _).alloc _
  have hX0 : Blk w0 (w.heap.size + 1) 106 #[.int .i64 0, .int .i64 0, .int .i64 0, .int .i64 0, .int .i64 0, .int .i64 0, .int .i64 0] := by
    rw [ew]
    have := Blk.new (w.alloc (.cells #[.int .i64 0, .int .i64 0, .int .i64 0, .int .i64 0, .int .i64 0, .int .i64 0, .int .i64 0] 106)) 106 #[.int .i64 0, .int .i64 0, .int .i64 0, .int .i64 0, .int .i64 0, .int .i64 0, .int .i64 0]
    rwa [show (w.alloc (.cells #[.int .i64 0, .int .i64 0, .int .i64 0, .int .i64 0, .int .i64 0, .int .i64 0, .int .i64 0] 106)).heap.size = w.heap.size + 1 by simp] at this
  have hb0 : Below w.heap.size w w0 := by rw [ew]; exact ((Below.refl _ _).alloc (Nat.le_refl _) _).alloc (by simp) _
  go_enter Tryz.func94, Tryz.ntmps94
  go_wp2_with fail
  rw [← ew]
  clear ew
  refine (Cth.out w0).mono ?_
  rintro e v1 ⟨rfl, hc1⟩
  have hR1' := hR0.on hc1
  have hX1' := hX0.on hc1
  have hb1' := Bl.tr hb0 hc1
  clear hR0 hX0 hb0 hc1
  have k1 : v1.cell? ⟨w.heap.size + 1, 3, none⟩ = some (.int .i64 (0)) := hX1'.cell 3
  have f1 := hX1'.free 3
  have hX1 := hX1'.set 3 (.int .i64 (th))
  have hR1 := hR1'.other (p := ⟨w.heap.size + 1, 3, none⟩) (by simp) (.int .i64 (th))
  have hb1 := hb1'.setCell (p := ⟨w.heap.size + 1, 3, none⟩) (by simp) (.int .i64 (th))
  have hX1 : Blk (v1.setCell ⟨w.heap.size + 1, 3, none⟩ (.int .i64 (th))) (w.heap.size + 1) 106 #[.int .i64 (0), .int .i64 (0), .int .i64 (0), .int .i64 (th), .int .i64 (0), .int .i64 (0), .int .i64 (0)] := by simpa using hX1
  go_wp2_with fail
  generalize v1.setCell ⟨w.heap.size + 1, 3, none⟩ (.int .i64 (th)) = w1 at *
  clear k1 f1 hX1' hR1' hb1'
  refine (Ctm.out w1).mono ?_
  rintro e v2 ⟨rfl, hc2⟩
  have hR2' := hR1.on hc2
  have hX2' := hX1.on hc2
  have hb2' := Bl.tr hb1 hc2
  clear hR1 hX1 hb1 hc2
  have k2 : v2.cell? ⟨w.heap.size + 1, 4, none⟩ = some (.int .i64 (0)) := hX2'.cell 4
  have f2 := hX2'.free 4
  have hX2 := hX2'.set 4 (.int .i64 (tm))
  have hR2 := hR2'.other (p := ⟨w.heap.size + 1, 4, none⟩) (by simp) (.int .i64 (tm))
  have hb2 := hb2'.setCell (p := ⟨w.heap.size + 1, 4, none⟩) (by simp) (.int .i64 (tm))
  have hX2 : Blk (v2.setCell ⟨w.heap.size + 1, 4, none⟩ (.int .i64 (tm))) (w.heap.size + 1) 106 #[.int .i64 (0), .int .i64 (0), .int .i64 (0), .int .i64 (th), .int .i64 (tm), .int .i64 (0), .int .i64 (0)] := by simpa using hX2
  go_wp2_with fail
  generalize v2.setCell ⟨w.heap.size + 1, 4, none⟩ (.int .i64 (tm)) = w2 at *
  clear k2 f2 hX2' hR2' hb2'
  refine (Cts.out w2).mono ?_
  rintro e v3 ⟨rfl, hc3⟩
  have hR3' := hR2.on hc3
  have hX3' := hX2.on hc3
  have hb3' := Bl.tr hb2 hc3
  clear hR2 hX2 hb2 hc3
  have k3 : v3.cell? ⟨w.heap.size + 1, 5, none⟩ = some (.int .i64 (0)) := hX3'.cell 5
  have f3 := hX3'.free 5
  have hX3 := hX3'.set 5 (.int .i64 (ts))
  have hR3 := hR3'.other (p := ⟨w.heap.size + 1, 5, none⟩) (by simp) (.int .i64 (ts))
  have hb3 := hb3'.setCell (p := ⟨w.heap.size + 1, 5, none⟩) (by simp) (.int .i64 (ts))
  have hX3 : Blk (v3.setCell ⟨w.heap.size + 1, 5, none⟩ (.int .i64 (ts))) (w.heap.size + 1) 106 #[.int .i64 (0), .int .i64 (0), .int .i64 (0), .int .i64 (th), .int .i64 (tm), .int .i64 (ts), .int .i64 (0)] := by simpa using hX3
  go_wp2_with fail
  generalize v3.setCell ⟨w.heap.size + 1, 5, none⟩ (.int .i64 (ts)) = w3 at *
  clear k3 f3 hX3' hR3' hb3'
  refine (Cmo.out w3).mono ?_
  rintro e v4 ⟨rfl, hc4⟩
  have hR4' := hR3.on hc4
  have hX4' := hX3.on hc4
  have hb4' := Bl.tr hb3 hc4
  clear hR3 hX3 hb3 hc4
  have k4 : v4.cell? ⟨w.heap.size + 1, 1, none⟩ = some (.int .i64 (0)) := hX4'.cell 1
  have f4 := hX4'.free 1
  have hX4 := hX4'.set 1 (.int .i64 ((mo : Nat)))
  have hR4 := hR4'.other (p := ⟨w.heap.size + 1, 1, none⟩) (by simp) (.int .i64 ((mo : Nat)))
  have hb4 := hb4'.setCell (p := ⟨w.heap.size + 1, 1, none⟩) (by simp) (.int .i64 ((mo : Nat)))
  have hX4 : Blk (v4.setCell ⟨w.heap.size + 1, 1, none⟩ (.int .i64 ((mo : Nat)))) (w.heap.size + 1) 106 #[.int .i64 (0), .int .i64 ((mo : Nat)), .int .i64 (0), .int .i64 (th), .int .i64 (tm), .int .i64 (ts), .int .i64 (0)] := by simpa using hX4
  go_wp2_with fail
  generalize v4.setCell ⟨w.heap.size + 1, 1, none⟩ (.int .i64 ((mo : Nat))) = w4 at *
  clear k4 f4 hX4' hR4' hb4'
  refine (Ctd.out w4).mono ?_
  rintro e v5 ⟨rfl, hc5⟩
  have hR5' := hR4.on hc5
  have hX5' := hX4.on hc5
  have hb5' := Bl.tr hb4 hc5
  clear hR4 hX4 hb4 hc5
  have k5 : v5.cell? ⟨w.heap.size + 1, 2, none⟩ = some (.int .i64 (0)) := hX5'.cell 2
  have f5 := hX5'.free 2
  have hX5 := hX5'.set 2 (.int .i64 (td))
  have hR5 := hR5'.other (p := ⟨w.heap.size + 1, 2, none⟩) (by simp) (.int .i64 (td))
  have hb5 := hb5'.setCell (p := ⟨w.heap.size + 1, 2, none⟩) (by simp) (.int .i64 (td))
  have hX5 : Blk (v5.setCell ⟨w.heap.size + 1, 2, none⟩ (.int .i64 (td))) (w.heap.size + 1) 106 #[.int .i64 (0), .int .i64 ((mo : Nat)), .int .i64 (td), .int .i64 (th), .int .i64 (tm), .int .i64 (ts), .int .i64 (0)] := by simpa using hX5
  go_wp2_with fail
  generalize v5.setCell ⟨w.heap.size + 1, 2, none⟩ (.int .i64 (td)) = w5 at *
  clear k5 f5 hX5' hR5' hb5'
  refine (Cya.out w5).mono ?_
  rintro e v6 ⟨rfl, hc6⟩
  have hR6' := hR5.on hc6
  have hX6' := hX5.on hc6
  have hb6' := Bl.tr hb5 hc6
  clear hR5 hX5 hb5 hc6
  go_wp2_with fail
  have hR6 := hR6'
  have hX6 := hX6'
  have hb6 := hb6'
  clear hR6' hX6' hb6'
  generalize v6 = w6 at *
  refine (Cyb.out w6).mono ?_
  rintro e v7 ⟨rfl, hc7⟩
  have hR7' := hR6.on hc7
  have hX7' := hX6.on hc7
  have hb7' := Bl.tr hb6 hc7
  clear hR6 hX6 hb6 hc7
  (have x0 : v7.cell? ⟨w.heap.size + 1, 0, none⟩ = some (.int .i64 (0)) := hX7'.cell 0; have x1 : v7.cell? ⟨w.heap.size + 1, 1, none⟩ = some (.int .i64 ((mo : Nat))) := hX7'.cell 1; have x2 : v7.cell? ⟨w.heap.size + 1, 2, none⟩ = some (.int .i64 (td)) := hX7'.cell 2; have x3 : v7.cell? ⟨w.heap.size + 1, 3, none⟩ = some (.int .i64 (th)) := hX7'.cell 3; have x4 : v7.cell? ⟨w.heap.size + 1, 4, none⟩ = some (.int .i64 (tm)) := hX7'.cell 4; have x5 : v7.cell? ⟨w.heap.size + 1, 5, none⟩ = some (.int .i64 (ts)) := hX7'.cell 5; have x6 : v7.cell? ⟨w.heap.size + 1, 6, none⟩ = some (.int .i64 (0)) := hX7'.cell 6)
  (have z0 : v7.cell? ⟨w.heap.size, 0, none⟩ = some (.int .i64 0) := hR7'.cell 0; have z1 : v7.cell? ⟨w.heap.size, 1, none⟩ = some (.int .i64 0) := hR7'.cell 1; have z2 : v7.cell? ⟨w.heap.size, 2, none⟩ = some (.int .i64 0) := hR7'.cell 2; have z3 : v7.cell? ⟨w.heap.size, 3, none⟩ = some (.int .i64 0) := hR7'.cell 3; have z4 : v7.cell? ⟨w.heap.size, 4, none⟩ = some (.int .i64 0) := hR7'.cell 4; have z5 : v7.cell? ⟨w.heap.size, 5, none⟩ = some (.int .i64 0) := hR7'.cell 5; have z6 : v7.cell? ⟨w.heap.size, 6, none⟩ = some (.int .i64 0) := hR7'.cell 6)
  have fz := hR7'.free
  have fx := hX7'.free 0
  go_wp2_with fail
  have hR := ((((((((hR7'.other (p := ⟨w.heap.size + 1, 0, none⟩) (by simp) (.int .i64 (ya * 100 + yb))).set 0 (.int .i64 (ya * 100 + yb))).set 1 (.int .i64 ((mo : Nat)))).set 2 (.int .i64 (td))).set 3 (.int .i64 (th))).set 4 (.int .i64 (tm))).set 5 (.int .i64 (ts))).set 6 (.int .i64 (0)))
  rw [cells7] at hR
  exact ret_guess rfl hR ⟨rfl, ((((((((hb7'.setCell (p := ⟨w.heap.size + 1, 0, none⟩) (by simp) (.int .i64 (ya * 100 + yb))).setCell (p := ⟨w.heap.size, 0, none⟩) (Nat.le_refl _) (.int .i64 (ya * 100 + yb))).setCell (p := ⟨w.heap.size, 1, none⟩) (Nat.le_refl _) (.int .i64 ((mo : Nat)))).setCell (p := ⟨w.heap.size, 2, none⟩) (Nat.le_refl _) (.int .i64 (td))).setCell (p := ⟨w.heap.size, 3, none⟩) (Nat.le_refl _) (.int .i64 (th))).setCell (p := ⟨w.heap.size, 4, none⟩) (Nat.le_refl _) (.int .i64 (tm))).setCell (p := ⟨w.heap.size, 5, none⟩) (Nat.le_refl _) (.int .i64 (ts))).setCell (p := ⟨w.heap.size, 6, none⟩) (Nat.le_refl _) (.int .i64 (0)))⟩
set_option linter.unusedVariables false in
set_option maxRecDepth 100000 in
set_option maxHeartbeats 4000000 in
theorem guess_2b (s : Bytes) (now : Nat) (hl : 9 < s.length) (h8 : s[8] ≠ 32) (w : World) (hs : s.length ≤ 1099511627776) (hn : now ≤ 9999) : Calls Tryz.prog 94 #[S s, .int .i64 2, .int .i64 now] w fun e w' => e = .returned (.agg #[.int .i64 (twoF s 20 * 100 + twoF s 22), .int .i64 ((monthF s 4 : Nat)), .int .i64 (twoF s 8), .int .i64 (twoF s ((s.length : Int) - 13)), .int .i64 (twoF s ((s.length : Int) - 13 + 3)), .int .i64 (twoF s ((s.length : Int) - 13 + 6)), .int .i64 0]) ∧ Below w.heap.size w w' := by
  have g8 : ((s[8].toNat : Int) == 32) = false := u8_ne h8
  clear h8
  have Cth := Lib.hid (fun w => refTwo_any s ((s.length : Int) - 13) w hs (by omega) (by omega))
  have Bth := twoF_bound s ((s.length : Int) - 13)
  generalize twoF s ((s.length : Int) - 13) = th at *
  have Ctm := Lib.hid (fun w => refTwo_any s ((s.length : Int) - 13 + 3) w hs (by omega) (by omega))
  have Btm := twoF_bound s ((s.length : Int) - 13 + 3)
  generalize twoF s ((s.length : Int) - 13 + 3) = tm at *
  have Cts := Lib.hid (fun w => refTwo_any s ((s.length : Int) - 13 + 6) w hs (by omega) (by omega))
  have Bts := twoF_bound s ((s.length : Int) - 13 + 6)
  generalize twoF s ((s.length : Int) - 13 + 6) = ts at *
  have Ctd := Lib.hid (fun w => refTwo_any s (8) w hs (by omega) (by omega))
  have Btd := twoF_bound s (8)
  generalize twoF s (8) = td at *
  have Cmo := Lib.hid (fun w => refMonth_any s (4) w hs (by omega) (by omega))
  have Bmo := monthF_le s (4)
  generalize monthF s (4) = mo at *
  have Cya := Lib.hid (fun w => refTwo_any s (20) w hs (by omega) (by omega))
  have Bya := twoF_bound s (20)
  generalize twoF s (20) = ya at *
  have Cyb := Lib.hid (fun w => refTwo_any s (22) w hs (by omega) (by omega))
  have Byb := twoF_bound s (22)
  generalize twoF s (22) = yb at *
  obtain ⟨w0, ew⟩ : ∃ w0 : World, w0 = (w.alloc (.cells #[.int .i64 0, .int .i64 0, .int .i64 0, .int .i64 0, .int .i64 0, .int .i64 0, .int .i64 0] 106)).alloc (.cells #[.int .i64 0, .int .i64 0, .int .i64 0, .int .i64 0, .int .i64 0, .int .i64 0, .int .i64 0] 106) := ⟨_, rfl⟩
  have hR0 : Blk w0 w.heap.size 106 #[.int .i64 0, .int .i64 0, .int .i64 0, .int .i64 0, .int .i64 0, .int .i64 0, .int .i64 0] := by rw [ew]; exact (Blk.new _ _ _).alloc _
  have hX0 : Blk w0 (w.heap.size + 1) 106 #[.int .i64 0, .int .i64 0, .int .i64 0, .int .i64 0, .int .i64 0, .int .i64 0, .int .i64 0] := by
    rw [ew]
    have := Blk.new (w.alloc (.cells #[.int .i64 0, .int .i64 0, .int .i64 0, .int .i64 0, .int .i64 0, .int .i64 0, .int .i64 0] 106)) 106 #[.int .i64 0, .int .i64 0, .int .i64 0, .int .i64 0, .int .i64 0, .int .i64 0, .int .i64 0]
    rwa [show (w.alloc (.cells #[.int .i64 0, .int .i64 0, .int .i64 0, .int .i64 0, .int .i64 0, .int .i64 0, .int .i64 0] 106)).heap.size = w.heap.size + 1 by simp] at this
  have hb0 : Below w.heap.size w w0 := by rw [ew]; exact ((Below.refl _ _).alloc (Nat.le_refl _) _).alloc (by simp) _
  go_enter Tryz.func94, Tryz.ntmps94
  go_wp2_with fail
  rw [← ew]
  clear ew
  refine (Cth.out w0).mono ?_
  rintro e v1 ⟨rfl, hc1⟩
  have hR1' := hR0.on hc1
  have hX1' := hX0.on hc1
  have hb1' := Bl.tr hb0 hc1
  clear hR0 hX0 hb0 hc1
  have k1 : v1.cell? ⟨w.heap.size + 1, 3, none⟩ = some (.int .i64 (0)) := hX1'.cell 3
  have f1 := hX1'.free 3
  have hX1 := hX1'.set 3 (.int .i64 (th))
  have hR1 := hR1'.other (p := ⟨w.heap.size + 1, 3, none⟩) (by simp) (.int .i64 (th))
  have hb1 := hb1'.setCell (p := ⟨w.heap.size + 1, 3, none⟩) (by simp) (.int .i64 (th))
  have hX1 : Blk (v1.setCell ⟨w.heap.size + 1, 3, none⟩ (.int .i64 (th))) (w.heap.size + 1) 106 #[.int .i64 (0), .int .i64 (0), .int .i64 (0), .int .i64 (th), .int .i64 (0), .int .i64 (0), .int .i64 (0)] := by simpa using hX1
  go_wp2_with fail
  generalize v1.setCell ⟨w.heap.size + 1, 3, none⟩ (.int .i64 (th)) = w1 at *
  clear k1 f1 hX1' hR1' hb1'
  refine (Ctm.out w1).mono ?_
  rintro e v2 ⟨rfl, hc2⟩
  have hR2' := hR1.on hc2
  have hX2' := hX1.on hc2
  have hb2' := Bl.tr hb1 hc2
  clear hR1 hX1 hb1 hc2
  have k2 : v2.cell? ⟨w.heap.size + 1, 4, none⟩ = some (.int .i64 (0)) := hX2'.cell 4
  have f2 := hX2'.free 4
  have hX2 := hX2'.set 4 (.int .i64 (tm))
  have hR2 := hR2'.other (p := ⟨w.heap.size + 1, 4, none⟩) (by simp) (.int .i64 (tm))
  have hb2 := hb2'.setCell (p := ⟨w.heap.size + 1, 4, none⟩) (by simp) (.int .i64 (tm))
  have hX2 : Blk (v2.setCell ⟨w.heap.size + 1, 4, none⟩ (.int .i64 (tm))) (w.heap.size + 1) 106 #[.int .i64 (0), .int .i64 (0), .int .i64 (0), .int .i64 (th), .int .i64 (tm), .int .i64 (0), .int .i64 (0)] := by simpa using hX2
  go_wp2_with fail
  generalize v2.setCell ⟨w.heap.size + 1, 4, none⟩ (.int .i64 (tm)) = w2 at *
  clear k2 f2 hX2' hR2' hb2'
  refine (Cts.out w2).mono ?_
  rintro e v3 ⟨rfl, hc3⟩
  have hR3' := hR2.on hc3
  have hX3' := hX2.on hc3
  have hb3' := Bl.tr hb2 hc3
  clear hR2 hX2 hb2 hc3
  have k3 : v3.cell? ⟨w.heap.size + 1, 5, none⟩ = some (.int .i64 (0)) := hX3'.cell 5
  have f3 := hX3'.free 5
  have hX3 := hX3'.set 5 (.int .i64 (ts))
  have hR3 := hR3'.other (p := ⟨w.heap.size + 1, 5, none⟩) (by simp) (.int .i64 (ts))
  have hb3 := hb3'.setCell (p := ⟨w.heap.size + 1, 5, none⟩) (by simp) (.int .i64 (ts))
  have hX3 : Blk (v3.setCell ⟨w.heap.size + 1, 5, none⟩ (.int .i64 (ts))) (w.heap.size + 1) 106 #[.int .i64 (0), .int .i64 (0), .int .i64 (0), .int .i64 (th), .int .i64 (tm), .int .i64 (ts), .int .i64 (0)] := by simpa using hX3
  go_wp2_with fail
  generalize v3.setCell ⟨w.heap.size + 1, 5, none⟩ (.int .i64 (ts)) = w3 at *
  clear k3 f3 hX3' hR3' hb3'
  refine (Cmo.out w3).mono ?_
  rintro e v4 ⟨rfl, hc4⟩
  have hR4' := hR3.on hc4
  have hX4' := hX3.on hc4
  have hb4' := Bl.tr hb3 hc4
  clear hR3 hX3 hb3 hc4
  have k4 : v4.cell? ⟨w.heap.size + 1, 1, none⟩ = some (.int .i64 (0)) := hX4'.cell 1
  have f4 := hX4'.free 1
  have hX4 := hX4'.set 1 (.int .i64 ((mo : Nat)))
  have hR4 := hR4'.other (p := ⟨w.heap.size + 1, 1, none⟩) (by simp) (.int .i64 ((mo : Nat)))
  have hb4 := hb4'.setCell (p := ⟨w.heap.size + 1, 1, none⟩) (by simp) (.int .i64 ((mo : Nat)))
  have hX4 : Blk (v4.setCell ⟨w.heap.size + 1, 1, none⟩ (.int .i64 ((mo : Nat)))) (w.heap.size + 1) 106 #[.int .i64 (0), .int .i64 ((mo : Nat)), .int .i64 (0), .int .i64 (th), .int .i64 (tm), .int .i64 (ts), .int .i64 (0)] := by simpa using hX4
  go_wp2_with fail
  generalize v4.setCell ⟨w.heap.size + 1, 1, none⟩ (.int .i64 ((mo : Nat))) = w4 at *
  clear k4 f4 hX4' hR4' hb4'
  refine (Ctd.out w4).mono ?_
  rintro e v5 ⟨rfl, hc5⟩
  have hR5' := hR4.on hc5
  have hX5' := hX4.on hc5
  have hb5' := Bl.tr hb4 hc5
  clear hR4 hX4 hb4 hc5
  have k5 : v5.cell? ⟨w.heap.size + 1, 2, none⟩ = some (.int .i64 (0)) := hX5'.cell 2
  have f5 := hX5'.free 2
  have hX5 := hX5'.set 2 (.int .i64 (td))
  have hR5 := hR5'.other (p := ⟨w.heap.size + 1, 2, none⟩) (by simp) (.int .i64 (td))
  have hb5 := hb5'.setCell (p := ⟨w.heap.size + 1, 2, none⟩) (by simp) (.int .i64 (td))
  have hX5 : Blk (v5.setCell ⟨w.heap.size + 1, 2, none⟩ (.int .i64 (td))) (w.heap.size + 1) 106 #[.int .i64 (0), .int .i64 ((mo : Nat)), .int .i64 (td), .int .i64 (th), .int .i64 (tm), .int .i64 (ts), .int .i64 (0)] := by simpa using hX5
  go_wp2_with fail
  generalize v5.setCell ⟨w.heap.size + 1, 2, none⟩ (.int .i64 (td)) = w5 at *
  clear k5 f5 hX5' hR5' hb5'
  refine (Cya.out w5).mono ?_
  rintro e v6 ⟨rfl, hc6⟩
  have hR6' := hR5.on hc6
  have hX6' := hX5.on hc6
  have hb6' := Bl.tr hb5 hc6
  clear hR5 hX5 hb5 hc6
  go_wp2_with fail
  have hR6 := hR6'
  have hX6 := hX6'
  have hb6 := hb6'
  clear hR6' hX6' hb6'
  generalize v6 = w6 at *
  refine (Cyb.out w6).mono ?_
  rintro e v7 ⟨rfl, hc7⟩
  have hR7' := hR6.on hc7
  have hX7' := hX6.on hc7
  have hb7' := Bl.tr hb6 hc7
  clear hR6 hX6 hb6 hc7
  (have x0 : v7.cell? ⟨w.heap.size + 1, 0, none⟩ = some (.int .i64 (0)) := hX7'.cell 0; have x1 : v7.cell? ⟨w.heap.size + 1, 1, none⟩ = some (.int .i64 ((mo : Nat))) := hX7'.cell 1; have x2 : v7.cell? ⟨w.heap.size + 1, 2, none⟩ = some (.int .i64 (td)) := hX7'.cell 2; have x3 : v7.cell? ⟨w.heap.size + 1, 3, none⟩ = some (.int .i64 (th)) := hX7'.cell 3; have x4 : v7.cell? ⟨w.heap.size + 1, 4, none⟩ = some (.int .i64 (tm)) := hX7'.cell 4; have x5 : v7.cell? ⟨w.heap.size + 1, 5, none⟩ = some (.int .i64 (ts)) := hX7'.cell 5; have x6 : v7.cell? ⟨w.heap.size + 1, 6, none⟩ = some (.int .i64 (0)) := hX7'.cell 6)
  (have z0 : v7.cell? ⟨w.heap.size, 0, none⟩ = some (.int .i64 0) := hR7'.cell 0; have z1 : v7.cell? ⟨w.heap.size, 1, none⟩ = some (.int .i64 0) := hR7'.cell 1; have z2 : v7.cell? ⟨w.heap.size, 2, none⟩ = some (.int .i64 0) := hR7'.cell 2; have z3 : v7.cell? ⟨w.heap.size, 3, none⟩ = some (.int .i64 0) := hR7'.cell 3; have z4 : v7.cell? ⟨w.heap.size, 4, none⟩ = some (.int .i64 0) := hR7'.cell 4; have z5 : v7.cell? ⟨w.heap.size, 5, none⟩ = some (.int .i64 0) := hR7'.cell 5; have z6 : v7.cell? ⟨w.heap.size, 6, none⟩ = some (.int .i64 0) := hR7'.cell 6)
  have fz := hR7'.free
  have fx := hX7'.free 0
  go_wp2_with fail
  have hR := ((((((((hR7'.other (p := ⟨w.heap.size + 1, 0, none⟩) (by simp) (.int .i64 (ya * 100 + yb))).set 0 (.int .i64 (ya * 100 + yb))).set 1 (.int .i64 ((mo : Nat)))).set 2 (.int .i64 (td))).set 3 (.int .i64 (th))).set 4 (.int .i64 (tm))).set 5 (.int .i64 (ts))).set 6 (.int .i64 (0)))
  rw [cells7] at hR
  exact ret_guess rfl hR ⟨rfl, ((((((((hb7'.setCell (p := ⟨w.heap.size + 1, 0, none⟩) (by simp) (.int .i64 (ya * 100 + yb))).setCell (p := ⟨w.heap.size, 0, none⟩) (Nat.le_refl _) (.int .i64 (ya * 100 + yb))).setCell (p := ⟨w.heap.size, 1, none⟩) (Nat.le_refl _) (.int .i64 ((mo : Nat)))).setCell (p := ⟨w.heap.size, 2, none⟩) (Nat.le_refl _) (.int .i64 (td))).setCell (p := ⟨w.heap.size, 3, none⟩) (Nat.le_refl _) (.int .i64 (th))).setCell (p := ⟨w.heap.size, 4, none⟩) (Nat.le_refl _) (.int .i64 (tm))).setCell (p := ⟨w.heap.size, 5, none⟩) (Nat.le_refl _) (.int .i64 (ts))).setCell (p := ⟨w.heap.size, 6, none⟩) (Nat.le_refl _) (.int .i64 (0)))⟩
set_option linter.unusedVariables false in
set_option maxRecDepth 100000 in
set_option maxHeartbeats 4000000 in
theorem guess_2c (s : Bytes) (now : Nat) (hl : 9 < s.length) (h8 : s[8] = 32) (h9 : isDig s[9] = false) (w : World) (hs : s.length ≤ 1099511627776) (hn : now ≤ 9999) : Calls Tryz.prog 94 #[S s, .int .i64 2, .int .i64 now] w fun e w' => e = .returned (.agg #[.int .i64 (twoF s 20 * 100 + twoF s 22), .int .i64 ((monthF s 4 : Nat)), .int .i64 (twoF s 8), .int .i64 (twoF s ((s.length : Int) - 13)), .int .i64 (twoF s ((s.length : Int) - 13 + 3)), .int .i64 (twoF s ((s.length : Int) - 13 + 6)), .int .i64 0]) ∧ Below w.heap.size w w' := by
  have g8 : ((s[8].toNat : Int) == 32) = true := u8_eq h8
  have D9 := Lib.hid (fun w => refDigit_any s[9] w)
  rw [h9] at D9
  clear h8 h9
  have Cth := Lib.hid (fun w => refTwo_any s ((s.length : Int) - 13) w hs (by omega) (by omega))
  have Bth := twoF_bound s ((s.length : Int) - 13)
  generalize twoF s ((s.length : Int) - 13) = th at *
  have Ctm := Lib.hid (fun w => refTwo_any s ((s.length : Int) - 13 + 3) w hs (by omega) (by omega))
  have Btm := twoF_bound s ((s.length : Int) - 13 + 3)
  generalize twoF s ((s.length : Int) - 13 + 3) = tm at *
  have Cts := Lib.hid (fun w => refTwo_any s ((s.length : Int) - 13 + 6) w hs (by omega) (by omega))
  have Bts := twoF_bound s ((s.length : Int) - 13 + 6)
  generalize twoF s ((s.length : Int) - 13 + 6) = ts at *
  have Ctd := Lib.hid (fun w => refTwo_any s (8) w hs (by omega) (by omega))
  have Btd := twoF_bound s (8)
  generalize twoF s (8) = td at *
  have Cmo := Lib.hid (fun w => refMonth_any s (4) w hs (by omega) (by omega))
  have Bmo := monthF_le s (4)
  generalize monthF s (4) = mo at *
  have Cya := Lib.hid (fun w => refTwo_any s (20) w hs (by omega) (by omega))
  have Bya := twoF_bound s (20)
  generalize twoF s (20) = ya at *
  have Cyb := Lib.hid (fun w => refTwo_any s (22) w hs (by omega) (by omega))
  have Byb := twoF_bound s (22)
  generalize twoF s (22) = yb at *
  obtain ⟨w0, ew⟩ : ∃ w0 : World, w0 = (w.alloc (.cells #[.int .i64 0, .int .i64 0, .int .i64 0, .int .i64 0, .int .i64 0, .int .i64 0, .int .i64 0] 106)).alloc (.cells #[.int .i64 0, .int .i64 0, .int .i64 0, .int .i64 0, .int .i64 0, .int .i64 0, .int .i64 0] 106) := ⟨_, rfl⟩
  have hR0 : Blk w0 w.heap.size 106 #[.int .i64 0, .int .i64 0, .int .i64 0, .int .i64 0, .int .i64 0, .int .i64 0, .int .i64 0] := by rw [ew]; exact (Blk.new _ _ _).alloc _
  have hX0 : Blk w0 (w.heap.size + 1) 106 #[.int .i64 0, .int .i64 0, .int .i64 0, .int .i64 0, .int .i64 0, .int .i64 0, .int .i64 0] := by
    rw [ew]
    have := Blk.new (w.alloc (.cells #[.int .i64 0, .int .i64 0, .int .i64 0, .int .i64 0, .int .i64 0, .int .i64 0, .int .i64 0] 106)) 106 #[.int .i64 0, .int .i64 0, .int .i64 0, .int .i64 0, .int .i64 0, .int .i64 0, .int .i64 0]
    rwa [show (w.alloc (.cells #[.int .i64 0, .int .i64 0, .int .i64 0, .int .i64 0, .int .i64 0, .int .i64 0, .int .i64 0] 106)).heap.size = w.heap.size + 1 by simp] at this
  have hb0 : Below w.heap.size w w0 := by rw [ew]; exact ((Below.refl _ _).alloc (Nat.le_refl _) _).alloc (by simp) _
  go_enter Tryz.func94, Tryz.ntmps94
  go_wp2_with fail
  rw [← ew]
  clear ew
  refine (Cth.out w0).mono ?_
  rintro e v1 ⟨rfl, hc1⟩
  have hR1' := hR0.on hc1
  have hX1' := hX0.on hc1
  have hb1' := Bl.tr hb0 hc1
  clear hR0 hX0 hb0 hc1
  have k1 : v1.cell? ⟨w.heap.size + 1, 3, none⟩ = some (.int .i64 (0)) := hX1'.cell 3
  have f1 := hX1'.free 3
  have hX1 := hX1'.set 3 (.int .i64 (th))
  have hR1 := hR1'.other (p := ⟨w.heap.size + 1, 3, none⟩) (by simp) (.int .i64 (th))
  have hb1 := hb1'.setCell (p := ⟨w.heap.size + 1, 3, none⟩) (by simp) (.int .i64 (th))
  have hX1 : Blk (v1.setCell ⟨w.heap.size + 1, 3, none⟩ (.int .i64 (th))) (w.heap.size + 1) 106 #[.int .i64 (0), .int .i64 (0), .int .i64 (0), .int .i64 (th), .int .i64 (0), .int .i64 (0), .int .i64 (0)] := by simpa using hX1
  go_wp2_with fail
  generalize v1.setCell ⟨w.heap.size + 1, 3, none⟩ (.int .i64 (th)) = w1 at *
  clear k1 f1 hX1' hR1' hb1'
  refine (Ctm.out w1).mono ?_
  rintro e v2 ⟨rfl, hc2⟩
  have hR2' := hR1.on hc2
  have hX2' := hX1.on hc2
  have hb2' := Bl.tr hb1 hc2
  clear hR1 hX1 hb1 hc2
  have k2 : v2.cell? ⟨w.heap.size + 1, 4, none⟩ = some (.int .i64 (0)) := hX2'.cell 4
  have f2 := hX2'.free 4
  have hX2 := hX2'.set 4 (.int .i64 (tm))
  have hR2 := hR2'.other (p := ⟨w.heap.size + 1, 4, none⟩) (by simp) (.int .i64 (tm))
  have hb2 := hb2'.setCell (p := ⟨w.heap.size + 1, 4, none⟩) (by simp) (.int .i64 (tm))
  have hX2 : Blk (v2.setCell ⟨w.heap.size + 1, 4, none⟩ (.int .i64 (tm))) (w.heap.size + 1) 106 #[.int .i64 (0), .int .i64 (0), .int .i64 (0), .int .i64 (th), .int .i64 (tm), .int .i64 (0), .int .i64 (0)] := by simpa using hX2
  go_wp2_with fail
  generalize v2.setCell ⟨w.heap.size + 1, 4, none⟩ (.int .i64 (tm)) = w2 at *
  clear k2 f2 hX2' hR2' hb2'
  refine (Cts.out w2).mono ?_
  rintro e v3 ⟨rfl, hc3⟩
  have hR3' := hR2.on hc3
  have hX3' := hX2.on hc3
  have hb3' := Bl.tr hb2 hc3
  clear hR2 hX2 hb2 hc3
  have k3 : v3.cell? ⟨w.heap.size + 1, 5, none⟩ = some (.int .i64 (0)) := hX3'.cell 5
  have f3 := hX3'.free 5
  have hX3 := hX3'.set 5 (.int .i64 (ts))
  have hR3 := hR3'.other (p := ⟨w.heap.size + 1, 5, none⟩) (by simp) (.int .i64 (ts))
  have hb3 := hb3'.setCell (p := ⟨w.heap.size + 1, 5, none⟩) (by simp) (.int .i64 (ts))
  have hX3 : Blk (v3.setCell ⟨w.heap.size + 1, 5, none⟩ (.int .i64 (ts))) (w.heap.size + 1) 106 #[.int .i64 (0), .int .i64 (0), .int .i64 (0), .int .i64 (th), .int .i64 (tm), .int .i64 (ts), .int .i64 (0)] := by simpa using hX3
  go_wp2_with fail
  generalize v3.setCell ⟨w.heap.size + 1, 5, none⟩ (.int .i64 (ts)) = w3 at *
  clear k3 f3 hX3' hR3' hb3'
  refine (Cmo.out w3).mono ?_
  rintro e v4 ⟨rfl, hc4⟩
  have hR4' := hR3.on hc4
  have hX4' := hX3.on hc4
  have hb4' := Bl.tr hb3 hc4
  clear hR3 hX3 hb3 hc4
  have k4 : v4.cell? ⟨w.heap.size + 1, 1, none⟩ = some (.int .i64 (0)) := hX4'.cell 1
  have f4 := hX4'.free 1
  have hX4 := hX4'.set 1 (.int .i64 ((mo : Nat)))
  have hR4 := hR4'.other (p := ⟨w.heap.size + 1, 1, none⟩) (by simp) (.int .i64 ((mo : Nat)))
  have hb4 := hb4'.setCell (p := ⟨w.heap.size + 1, 1, none⟩) (by simp) (.int .i64 ((mo : Nat)))
  have hX4 : Blk (v4.setCell ⟨w.heap.size + 1, 1, none⟩ (.int .i64 ((mo : Nat)))) (w.heap.size + 1) 106 #[.int .i64 (0), .int .i64 ((mo : Nat)), .int .i64 (0), .int .i64 (th), .int .i64 (tm), .int .i64 (ts), .int .i64 (0)] := by simpa using hX4
  go_wp2_with fail
  generalize v4.setCell ⟨w.heap.size + 1, 1, none⟩ (.int .i64 ((mo : Nat))) = w4 at *
  clear k4 f4 hX4' hR4' hb4'
  refine (Ctd.out w4).mono ?_
  rintro e v5 ⟨rfl, hc5⟩
  have hR5' := hR4.on hc5
  have hX5' := hX4.on hc5
  have hb5' := Bl.tr hb4 hc5
  clear hR4 hX4 hb4 hc5
  have k5 : v5.cell? ⟨w.heap.size + 1, 2, none⟩ = some (.int .i64 (0)) := hX5'.cell 2
  have f5 := hX5'.free 2
  have hX5 := hX5'.set 2 (.int .i64 (td))
  have hR5 := hR5'.other (p := ⟨w.heap.size + 1, 2, none⟩) (by simp) (.int .i64 (td))
  have hb5 := hb5'.setCell (p := ⟨w.heap.size + 1, 2, none⟩) (by simp) (.int .i64 (td))
  have hX5 : Blk (v5.setCell ⟨w.heap.size + 1, 2, none⟩ (.int .i64 (td))) (w.heap.size + 1) 106 #[.int .i64 (0), .int .i64 ((mo : Nat)), .int .i64 (td), .int .i64 (th), .int .i64 (tm), .int .i64 (ts), .int .i64 (0)] := by simpa using hX5
  go_wp2_with fail
  generalize v5.setCell ⟨w.heap.size + 1, 2, none⟩ (.int .i64 (td)) = w5 at *
  clear k5 f5 hX5' hR5' hb5'
  refine (D9.out _).mono ?_
  rintro e wd ⟨rfl, hwd⟩
  obtain rfl := hwd
  go_wp2_with fail
  refine (Cya.out w5).mono ?_
  rintro e v6 ⟨rfl, hc6⟩
  have hR6' := hR5.on hc6
  have hX6' := hX5.on hc6
  have hb6' := Bl.tr hb5 hc6
  clear hR5 hX5 hb5 hc6
  go_wp2_with fail
  have hR6 := hR6'
  have hX6 := hX6'
  have hb6 := hb6'
  clear hR6' hX6' hb6'
  generalize v6 = w6 at *
  refine (Cyb.out w6).mono ?_
  rintro e v7 ⟨rfl, hc7⟩
  have hR7' := hR6.on hc7
  have hX7' := hX6.on hc7
  have hb7' := Bl.tr hb6 hc7
  clear hR6 hX6 hb6 hc7
  (have x0 : v7.cell? ⟨w.heap.size + 1, 0, none⟩ = some (.int .i64 (0)) := hX7'.cell 0; have x1 : v7.cell? ⟨w.heap.size + 1, 1, none⟩ = some (.int .i64 ((mo : Nat))) := hX7'.cell 1; have x2 : v7.cell? ⟨w.heap.size + 1, 2, none⟩ = some (.int .i64 (td)) := hX7'.cell 2; have x3 : v7.cell? ⟨w.heap.size + 1, 3, none⟩ = some (.int .i64 (th)) := hX7'.cell 3; have x4 : v7.cell? ⟨w.heap.size + 1, 4, none⟩ = some (.int .i64 (tm)) := hX7'.cell 4; have x5 : v7.cell? ⟨w.heap.size + 1, 5, none⟩ = some (.int .i64 (ts)) := hX7'.cell 5; have x6 : v7.cell? ⟨w.heap.size + 1, 6, none⟩ = some (.int .i64 (0)) := hX7'.cell 6)
  (have z0 : v7.cell? ⟨w.heap.size, 0, none⟩ = some (.int .i64 0) := hR7'.cell 0; have z1 : v7.cell? ⟨w.heap.size, 1, none⟩ = some (.int .i64 0) := hR7'.cell 1; have z2 : v7.cell? ⟨w.heap.size, 2, none⟩ = some (.int .i64 0) := hR7'.cell 2; have z3 : v7.cell? ⟨w.heap.size, 3, none⟩ = some (.int .i64 0) := hR7'.cell 3; have z4 : v7.cell? ⟨w.heap.size, 4, none⟩ = some (.int .i64 0) := hR7'.cell 4; have z5 : v7.cell? ⟨w.heap.size, 5, none⟩ = some (.int .i64 0) := hR7'.cell 5; have z6 : v7.cell? ⟨w.heap.size, 6, none⟩ = some (.int .i64 0) := hR7'.cell 6)
  have fz := hR7'.free
  have fx := hX7'.free 0
  go_wp2_with fail
  have hR := ((((((((hR7'.other (p := ⟨w.heap.size + 1, 0, none⟩) (by simp) (.int .i64 (ya * 100 + yb))).set 0 (.int .i64 (ya * 100 + yb))).set 1 (.int .i64 ((mo : Nat)))).set 2 (.int .i64 (td))).set 3 (.int .i64 (th))).set 4 (.int .i64 (tm))).set 5 (.int .i64 (ts))).set 6 (.int .i64 (0)))
  rw [cells7] at hR
  exact ret_guess rfl hR ⟨rfl, ((((((((hb7'.setCell (p := ⟨w.heap.size + 1, 0, none⟩) (by simp) (.int .i64 (ya * 100 + yb))).setCell (p := ⟨w.heap.size, 0, none⟩) (Nat.le_refl _) (.int .i64 (ya * 100 + yb))).setCell (p := ⟨w.heap.size, 1, none⟩) (Nat.le_refl _) (.int .i64 ((mo : Nat)))).setCell (p := ⟨w.heap.size, 2, none⟩) (Nat.le_refl _) (.int .i64 (td))).setCell (p := ⟨w.heap.size, 3, none⟩) (Nat.le_refl _) (.int .i64 (th))).setCell (p := ⟨w.heap.size, 4, none⟩) (Nat.le_refl _) (.int .i64 (tm))).setCell (p := ⟨w.heap.size, 5, none⟩) (Nat.le_refl _) (.int .i64 (ts))).setCell (p := ⟨w.heap.size, 6, none⟩) (Nat.le_refl _) (.int .i64 (0)))⟩
set_option linter.unusedVariables false in
set_option maxRecDepth 100000 in
set_option maxHeartbeats 4000000 in
theorem guess_2d (s : Bytes) (now : Nat) (hl : 9 < s.length) (h8 : s[8] = 32) (h9 : isDig s[9] = true) (w : World) (hs : s.length ≤ 1099511627776) (hn : now ≤ 9999) : Calls Tryz.prog 94 #[S s, .int .i64 2, .int .i64 now] w fun e w' => e = .returned (.agg #[.int .i64 (twoF s 20 * 100 + twoF s 22), .int .i64 ((monthF s 4 : Nat)), .int .i64 ((s[9].toNat : Int) - 48), .int .i64 (twoF s ((s.length : Int) - 13)), .int .i64 (twoF s ((s.length : Int) - 13 + 3)), .int .i64 (twoF s ((s.length : Int) - 13 + 6)), .int .i64 0]) ∧ Below w.heap.size w w' := by
  have g8 : ((s[8].toNat : Int) == 32) = true := u8_eq h8
  have b9 := isDig_i _ h9
  have D9 := Lib.hid (fun w => refDigit_any s[9] w)
  rw [h9] at D9
  clear h8 h9
  have Cth := Lib.hid (fun w => refTwo_any s ((s.length : Int) - 13) w hs (by omega) (by omega))
  have Bth := twoF_bound s ((s.length : Int) - 13)
  generalize twoF s ((s.length : Int) - 13) = th at *
  have Ctm := Lib.hid (fun w => refTwo_any s ((s.length : Int) - 13 + 3) w hs (by omega) (by omega))
  have Btm := twoF_bound s ((s.length : Int) - 13 + 3)
  generalize twoF s ((s.length : Int) - 13 + 3) = tm at *
  have Cts := Lib.hid (fun w => refTwo_any s ((s.length : Int) - 13 + 6) w hs (by omega) (by omega))
  have Bts := twoF_bound s ((s.length : Int) - 13 + 6)
  generalize twoF s ((s.length : Int) - 13 + 6) = ts at *
  have Ctd := Lib.hid (fun w => refTwo_any s (8) w hs (by omega) (by omega))
  have Btd := twoF_bound s (8)
  generalize twoF s (8) = td at *
  have Cmo := Lib.hid (fun w => refMonth_any s (4) w hs (by omega) (by omega))
  have Bmo := monthF_le s (4)
  generalize monthF s (4) = mo at *
  have Cya := Lib.hid (fun w => refTwo_any s (20) w hs (by omega) (by omega))
  have Bya := twoF_bound s (20)
  generalize twoF s (20) = ya at *
  have Cyb := Lib.hid (fun w => refTwo_any s (22) w hs (by omega) (by omega))
  have Byb := twoF_bound s (22)
  generalize twoF s (22) = yb at *
  obtain ⟨w0, ew⟩ : ∃ w0 : World, w0 = (w.alloc (.cells #[.int .i64 0, .int .i64 0, .int .i64 0, .int .i64 0, .int .i64 0, .int .i64 0, .int .i64 0] 106)).alloc (.cells #[.int .i64 0, .int .i64 0, .int .i64 0, .int .i64 0, .int .i64 0, .int .i64 0, .int .i64 0] 106) := ⟨_, rfl⟩
  have hR0 : Blk w0 w.heap.size 106 #[.int .i64 0, .int .i64 0, .int .i64 0, .int .i64 0, .int .i64 0, .int .i64 0, .int .i64 0] := by rw [ew]; exact (Blk.new _ _ _).alloc _
  have hX0 : Blk w0 (w.heap.size + 1) 106 #[.int .i64 0, .int .i64 0, .int .i64 0, .int .i64 0, .int .i64 0, .int .i64 0, .int .i64 0] := by
    rw [ew]
    have := Blk.new (w.alloc (.cells #[.int .i64 0, .int .i64 0, .int .i64 0, .int .i64 0, .int .i64 0, .int .i64 0, .int .i64 0] 106)) 106 #[.int .i64 0, .int .i64 0, .int .i64 0, .int .i64 0, .int .i64 0, .int .i64 0, .int .i64 0]
    rwa [show (w.alloc (.cells #[.int .i64 0, .int .i64 0, .int .i64 0, .int .i64 0, .int .i64 0, .int .i64 0, .int .i64 0] 106)).heap.size = w.heap.size + 1 by simp] at this
  have hb0 : Below w.heap.size w w0 := by rw [ew]; exact ((Below.refl _ _).alloc (Nat.le_refl _) _).alloc (by simp) _
  go_enter Tryz.func94, Tryz.ntmps94
  go_wp2_with fail
  rw [← ew]
  clear ew
  refine (Cth.out w0).mono ?_
  rintro e v1 ⟨rfl, hc1⟩
  have hR1' := hR0.on hc1
  have hX1' := hX0.on hc1
  have hb1' := Bl.tr hb0 hc1
  clear hR0 hX0 hb0 hc1
  have k1 : v1.cell? ⟨w.heap.size + 1, 3, none⟩ = some (.int .i64 (0)) := hX1'.cell 3
  have f1 := hX1'.free 3
  have hX1 := hX1'.set 3 (.int .i64 (th))
  have hR1 := hR1'.other (p := ⟨w.heap.size + 1, 3, none⟩) (by simp) (.int .i64 (th))
  have hb1 := hb1'.setCell (p := ⟨w.heap.size + 1, 3, none⟩) (by simp) (.int .i64 (th))
  have hX1 : Blk (v1.setCell ⟨w.heap.size + 1, 3, none⟩ (.int .i64 (th))) (w.heap.size + 1) 106 #[.int .i64 (0), .int .i64 (0), .int .i64 (0), .int .i64 (th), .int .i64 (0), .int .i64 (0), .int .i64 (0)] := by simpa using hX1
  go_wp2_with fail
  generalize v1.setCell ⟨w.heap.size + 1, 3, none⟩ (.int .i64 (th)) = w1 at *
  clear k1 f1 hX1' hR1' hb1'
  refine (Ctm.out w1).mono ?_
  rintro e v2 ⟨rfl, hc2⟩
  have hR2' := hR1.on hc2
  have hX2' := hX1.on hc2
  have hb2' := Bl.tr hb1 hc2
  clear hR1 hX1 hb1 hc2
  have k2 : v2.cell? ⟨w.heap.size + 1, 4, none⟩ = some (.int .i64 (0)) := hX2'.cell 4
  have f2 := hX2'.free 4
  have hX2 := hX2'.set 4 (.int .i64 (tm))
  have hR2 := hR2'.other (p := ⟨w.heap.size + 1, 4, none⟩) (by simp) (.int .i64 (tm))
  have hb2 := hb2'.setCell (p := ⟨w.heap.size + 1, 4, none⟩) (by simp) (.int .i64 (tm))
  have hX2 : Blk (v2.setCell ⟨w.heap.size + 1, 4, none⟩ (.int .i64 (tm))) (w.heap.size + 1) 106 #[.int .i64 (0), .int .i64 (0), .int .i64 (0), .int .i64 (th), .int .i64 (tm), .int .i64 (0), .int .i64 (0)] := by simpa using hX2
  go_wp2_with fail
  generalize v2.setCell ⟨w.heap.size + 1, 4, none⟩ (.int .i64 (tm)) = w2 at *
  clear k2 f2 hX2' hR2' hb2'
  refine (Cts.out w2).mono ?_
  rintro e v3 ⟨rfl, hc3⟩
  have hR3' := hR2.on hc3
  have hX3' := hX2.on hc3
  have hb3' := Bl.tr hb2 hc3
  clear hR2 hX2 hb2 hc3
  have k3 : v3.cell? ⟨w.heap.size + 1, 5, none⟩ = some (.int .i64 (0)) := hX3'.cell 5
  have f3 := hX3'.free 5
  have hX3 := hX3'.set 5 (.int .i64 (ts))
  have hR3 := hR3'.other (p := ⟨w.heap.size + 1, 5, none⟩) (by simp) (.int .i64 (ts))
  have hb3 := hb3'.setCell (p := ⟨w.heap.size + 1, 5, none⟩) (by simp) (.int .i64 (ts))
  have hX3 : Blk (v3.setCell ⟨w.heap.size + 1, 5, none⟩ (.int .i64 (ts))) (w.heap.size + 1) 106 #[.int .i64 (0), .int .i64 (0), .int .i64 (0), .int .i64 (th), .int .i64 (tm), .int .i64 (ts), .int .i64 (0)] := by simpa using hX3
  go_wp2_with fail
  generalize v3.setCell ⟨w.heap.size + 1, 5, none⟩ (.int .i64 (ts)) = w3 at *
  clear k3 f3 hX3' hR3' hb3'
  refine (Cmo.out w3).mono ?_
  rintro e v4 ⟨rfl, hc4⟩
  have hR4' := hR3.on hc4
  have hX4' := hX3.on hc4
  have hb4' := Bl.tr hb3 hc4
  clear hR3 hX3 hb3 hc4
  have k4 : v4.cell? ⟨w.heap.size + 1, 1, none⟩ = some (.int .i64 (0)) := hX4'.cell 1
  have f4 := hX4'.free 1
  have hX4 := hX4'.set 1 (.int .i64 ((mo : Nat)))
  have hR4 := hR4'.other (p := ⟨w.heap.size + 1, 1, none⟩) (by simp) (.int .i64 ((mo : Nat)))
  have hb4 := hb4'.setCell (p := ⟨w.heap.size + 1, 1, none⟩) (by simp) (.int .i64 ((mo : Nat)))
  have hX4 : Blk (v4.setCell ⟨w.heap.size + 1, 1, none⟩ (.int .i64 ((mo : Nat)))) (w.heap.size + 1) 106 #[.int .i64 (0), .int .i64 ((mo : Nat)), .int .i64 (0), .int .i64 (th), .int .i64 (tm), .int .i64 (ts), .int .i64 (0)] := by simpa using hX4
  go_wp2_with fail
  generalize v4.setCell ⟨w.heap.size + 1, 1, none⟩ (.int .i64 ((mo : Nat))) = w4 at *
  clear k4 f4 hX4' hR4' hb4'
  refine (Ctd.out w4).mono ?_
  rintro e v5 ⟨rfl, hc5⟩
  have hR5' := hR4.on hc5
  have hX5' := hX4.on hc5
  have hb5' := Bl.tr hb4 hc5
  clear hR4 hX4 hb4 hc5
  have k5 : v5.cell? ⟨w.heap.size + 1, 2, none⟩ = some (.int .i64 (0)) := hX5'.cell 2
  have f5 := hX5'.free 2
  have hX5 := hX5'.set 2 (.int .i64 (td))
  have hR5 := hR5'.other (p := ⟨w.heap.size + 1, 2, none⟩) (by simp) (.int .i64 (td))
  have hb5 := hb5'.setCell (p := ⟨w.heap.size + 1, 2, none⟩) (by simp) (.int .i64 (td))
  have hX5 : Blk (v5.setCell ⟨w.heap.size + 1, 2, none⟩ (.int .i64 (td))) (w.heap.size + 1) 106 #[.int .i64 (0), .int .i64 ((mo : Nat)), .int .i64 (td), .int .i64 (th), .int .i64 (tm), .int .i64 (ts), .int .i64 (0)] := by simpa using hX5
  go_wp2_with fail
  generalize v5.setCell ⟨w.heap.size + 1, 2, none⟩ (.int .i64 (td)) = w5 at *
  clear k5 f5 hX5' hR5' hb5'
  have kd : w5.cell? ⟨w.heap.size + 1, 2, none⟩ = some (.int .i64 (td)) := hX5.cell 2
  have fd := hX5.free 2
  refine (D9.out _).mono ?_
  rintro e wd ⟨rfl, hwd⟩
  obtain rfl := hwd
  go_wp2_with fail
  have hX6 := hX5.set 2 (.int .i64 ((s[9].toNat : Int) - 48))
  have hR6 := hR5.other (p := ⟨w.heap.size + 1, 2, none⟩) (by simp) (.int .i64 ((s[9].toNat : Int) - 48))
  have hb6 := hb5.setCell (p := ⟨w.heap.size + 1, 2, none⟩) (by simp) (.int .i64 ((s[9].toNat : Int) - 48))
  have hX6 : Blk (w5.setCell ⟨w.heap.size + 1, 2, none⟩ (.int .i64 ((s[9].toNat : Int) - 48))) (w.heap.size + 1) 106 #[.int .i64 (0), .int .i64 ((mo : Nat)), .int .i64 ((s[9].toNat : Int) - 48), .int .i64 (th), .int .i64 (tm), .int .i64 (ts), .int .i64 (0)] := by simpa using hX6
  generalize w5.setCell ⟨w.heap.size + 1, 2, none⟩ (.int .i64 ((s[9].toNat : Int) - 48)) = w6 at *
  clear kd fd hX5 hR5 hb5
  refine (Cya.out w6).mono ?_
  rintro e v7 ⟨rfl, hc7⟩
  have hR7' := hR6.on hc7
  have hX7' := hX6.on hc7
  have hb7' := Bl.tr hb6 hc7
  clear hR6 hX6 hb6 hc7
  go_wp2_with fail
  have hR7 := hR7'
  have hX7 := hX7'
  have hb7 := hb7'
  clear hR7' hX7' hb7'
  generalize v7 = w7 at *
  refine (Cyb.out w7).mono ?_
  rintro e v8 ⟨rfl, hc8⟩
  have hR8' := hR7.on hc8
  have hX8' := hX7.on hc8
  have hb8' := Bl.tr hb7 hc8
  clear hR7 hX7 hb7 hc8
  (have x0 : v8.cell? ⟨w.heap.size + 1, 0, none⟩ = some (.int .i64 (0)) := hX8'.cell 0; have x1 : v8.cell? ⟨w.heap.size + 1, 1, none⟩ = some (.int .i64 ((mo : Nat))) := hX8'.cell 1; have x2 : v8.cell? ⟨w.heap.size + 1, 2, none⟩ = some (.int .i64 ((s[9].toNat : Int) - 48)) := hX8'.cell 2; have x3 : v8.cell? ⟨w.heap.size + 1, 3, none⟩ = some (.int .i64 (th)) := hX8'.cell 3; have x4 : v8.cell? ⟨w.heap.size + 1, 4, none⟩ = some (.int .i64 (tm)) := hX8'.cell 4; have x5 : v8.cell? ⟨w.heap.size + 1, 5, none⟩ = some (.int .i64 (ts)) := hX8'.cell 5; have x6 : v8.cell? ⟨w.heap.size + 1, 6, none⟩ = some (.int .i64 (0)) := hX8'.cell 6)
  (have z0 : v8.cell? ⟨w.heap.size, 0, none⟩ = some (.int .i64 0) := hR8'.cell 0; have z1 : v8.cell? ⟨w.heap.size, 1, none⟩ = some (.int .i64 0) := hR8'.cell 1; have z2 : v8.cell? ⟨w.heap.size, 2, none⟩ = some (.int .i64 0) := hR8'.cell 2; have z3 : v8.cell? ⟨w.heap.size, 3, none⟩ = some (.int .i64 0) := hR8'.cell 3; have z4 : v8.cell? ⟨w.heap.size, 4, none⟩ = some (.int .i64 0) := hR8'.cell 4; have z5 : v8.cell? ⟨w.heap.size, 5, none⟩ = some (.int .i64 0) := hR8'.cell 5; have z6 : v8.cell? ⟨w.heap.size, 6, none⟩ = some (.int .i64 0) := hR8'.cell 6)
  have fz := hR8'.free
  have fx := hX8'.free 0
  go_wp2_with fail
  have hR := ((((((((hR8'.other (p := ⟨w.heap.size + 1, 0, none⟩) (by simp) (.int .i64 (ya * 100 + yb))).set 0 (.int .i64 (ya * 100 + yb))).set 1 (.int .i64 ((mo : Nat)))).set 2 (.int .i64 ((s[9].toNat : Int) - 48))).set 3 (.int .i64 (th))).set 4 (.int .i64 (tm))).set 5 (.int .i64 (ts))).set 6 (.int .i64 (0)))
  rw [cells7] at hR
  exact ret_guess rfl hR ⟨rfl, ((((((((hb8'.setCell (p := ⟨w.heap.size + 1, 0, none⟩) (by simp) (.int .i64 (ya * 100 + yb))).setCell (p := ⟨w.heap.size, 0, none⟩) (Nat.le_refl _) (.int .i64 (ya * 100 + yb))).setCell (p := ⟨w.heap.size, 1, none⟩) (Nat.le_refl _) (.int .i64 ((mo : Nat)))).setCell (p := ⟨w.heap.size, 2, none⟩) (Nat.le_refl _) (.int .i64 ((s[9].toNat : Int) - 48))).setCell (p := ⟨w.heap.size, 3, none⟩) (Nat.le_refl _) (.int .i64 (th))).setCell (p := ⟨w.heap.size, 4, none⟩) (Nat.le_refl _) (.int .i64 (tm))).setCell (p := ⟨w.heap.size, 5, none⟩) (Nat.le_refl _) (.int .i64 (ts))).setCell (p := ⟨w.heap.size, 6, none⟩) (Nat.le_refl _) (.int .i64 (0)))⟩

theorem guess_any (s : Bytes) (k now : Nat) (hk : k < 3) (w : World) (hs : s.length ≤ 1099511627776) (hn : now ≤ 9999) : Calls Tryz.prog 94 #[S s, .int .i64 k, .int .i64 now] w fun e w' => e = .returned (.agg #[.int .i64 (guessF s k now).year, .int .i64 ((guessF s k now).month : Nat), .int .i64 (guessF s k now).day, .int .i64 (guessF s k now).hour, .int .i64 (guessF s k now).min, .int .i64 (guessF s k now).sec, .int .i64 0]) ∧ Below w.heap.size w w' := by
  match k, hk with
  | 0, _ => exact guess_0 s now w hs hn
  | 1, _ =>
    by_cases hw : (now : Int) / 100 * 100 + twoF s ((s.length : Int) - 12 - 3) > (now : Int) + 50
    · exact guess_1b s now hw w hs hn
    · exact guess_1a s now hw w hs hn
  | 2, _ =>
    have e : ∀ d : Int, gDay s = d → guessF s 2 now = ⟨twoF s 20 * 100 + twoF s 22, monthF s 4, d, twoF s ((s.length : Int) - 13), twoF s ((s.length : Int) - 13 + 3), twoF s ((s.length : Int) - 13 + 6)⟩ := by
      intro d hd; subst hd; rfl
    by_cases hl : 9 < s.length
    · have e8 := getD_at s 8 (by omega)
      have e9 := getD_at s 9 hl
      by_cases h8 : s[8] = 32
      · cases h9 : isDig s[9] with
        | true =>
          rw [e ((s[9].toNat : Int) - 48) (by unfold gDay; rw [e8, e9, if_pos ⟨hl, h8, h9⟩])]
          exact guess_2d s now hl h8 h9 w hs hn
        | false =>
          rw [e (twoF s 8) (by unfold gDay; rw [e8, e9, if_neg (by rw [h9]; simp)])]
          exact guess_2c s now hl h8 h9 w hs hn
      · rw [e (twoF s 8) (by unfold gDay; rw [e8, e9, if_neg (by simp [h8])])]
        exact guess_2b s now hl h8 w hs hn
    · rw [e (twoF s 8) (by unfold gDay; rw [if_neg (by simp [hl])])]
      exact guess_2a s now (by omega) w hs hn
end Go.Proofs.YtghggooaaefdcaaGreatDoor
