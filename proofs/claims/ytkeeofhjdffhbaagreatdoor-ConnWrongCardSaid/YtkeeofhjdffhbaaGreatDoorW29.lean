/- Parts of the proof of wr_root: the texts Cnc7 HpkA HpkB Cnc9. -/
import Derived.Test.YtkeeofhjdffhbaaGreatDoorW28
set_option linter.unusedSimpArgs false
set_option linter.unusedVariables false
set_option linter.unnecessarySimpa false
namespace Go.Proofs.YtkeeofhjdffhbaaGreatDoor
open Go Go.RowKit Go.Dr
variable {w w' : World} {n : Nm} {m : Mm} {q q' : Cq}
/-- a connection that failed -/
abbrev Cq.failed (q : Cq) (code l : Nat) : Cq := { q with over := true, off := outs q, live := [], bytes := q.bytes ++ awayB l code, news := q.news ++ overN code }
set_option maxRecDepth 100000 in
set_option maxHeartbeats 4000000 in
/-- a request of an even stream -/
theorem Headers_even {F : Nat → Prop} {c1 c3 c4 c5 c6 c7 c8 c9 c10 c11 : Value} (w : World) (h : Cw w n q F) (i : Int) (hev : i.tmod 2 = 0) (hdr : q.drained = false) (l : Nat) (hl : q.last = l) (hll : l < 2147483648) (hbl : q.bytes.length ≤ 1000000) (hnl : q.news.length ≤ 1000000) :
  Calls Tryz.prog 131 #[Ptr n.c, .agg #[.int .i64 1, c1, .int .i64 i, c3, c4, c5, c6, c7, c8, c9, c10, c11]] w fun r w' => r = .returned (.tuple #[]) ∧ Goes w n F w' (q.failed 1 l) := by
 have g0 := GoesF.refl h
 obtain ⟨W, eW⟩ : ∃ W, W = w.alloc (.cells #[.int .i64 1, c1, .int .i64 i, c3, c4, c5, c6, c7, c8, c9, c10, c11] 34) := ⟨_, rfl⟩
 have hF : Blk W w.heap.size 34 #[.int .i64 1, c1, .int .i64 i, c3, c4, c5, c6, c7, c8, c9, c10, c11] := by rw [eW];exact Blk.new _ _ _
 have hb : Below w.heap.size w W := by rw [eW];exact (Below.refl _ _).alloc (Nat.le_refl _) _
 have gW := g0.on hb
 have f2 : W.cell? ⟨w.heap.size, 2, none⟩ = some (.int .i64 i) := hF.cell 2
 have hFa := (show Calls Tryz.prog 92 #[Ptr n.c, .int .i64 1] W (fun e w' => e = .returned (.tuple #[]) ∧ Goes W n F w' (q.failed 1 l)) from Fail_any W gW.h 1 l (by decide) hdr hl hll hbl hnl)
 go_enter Tryz.func131, Tryz.ntmps131
 go_upto_region 1 with fail
 rw [← eW]
 clear eW
 go_wp2_with (go_at_call 92;go_must ((with_reducible refine hFa.mono ?_);rintro r w3 ⟨rfl, hg3⟩;obtain ⟨F3, k3⟩ := gW.step hg3))
 refine bodyPost_ret (v := .tuple #[]) (by simp [results, Tryz.results131, go_sem]) rfl ?_
 exact ⟨rfl, k3.goes⟩
set_option maxRecDepth 100000 in
set_option maxHeartbeats 4000000 in
/-- a reset of an idle stream -/
theorem Gone_idle {F : Nat → Prop} {c1 c3 c4 c5 c6 c7 c8 c9 c10 c11 : Value} (w : World) (h : Cw w n q F) (i : Int) (hi0 : i ≠ 0) (hi : i < 1 ∨ q.last < i ∨ i % 2 = 0) (hdr : q.drained = false) (l : Nat) (hl : q.last = l) (hll : l < 2147483648) (hbl : q.bytes.length ≤ 1000000) (hnl : q.news.length ≤ 1000000) :
  Calls Tryz.prog 132 #[Ptr n.c, .agg #[.int .i64 3, c1, .int .i64 i, c3, c4, c5, c6, c7, c8, c9, c10, c11]] w fun r w' => r = .returned (.tuple #[]) ∧ Goes w n F w' (q.failed 1 l) := by
 have g0 := GoesF.refl h
 obtain ⟨W, eW⟩ : ∃ W, W = w.alloc (.cells #[.int .i64 3, c1, .int .i64 i, c3, c4, c5, c6, c7, c8, c9, c10, c11] 34) := ⟨_, rfl⟩
 have hF : Blk W w.heap.size 34 #[.int .i64 3, c1, .int .i64 i, c3, c4, c5, c6, c7, c8, c9, c10, c11] := by rw [eW];exact Blk.new _ _ _
 have hb : Below w.heap.size w W := by rw [eW];exact (Below.refl _ _).alloc (Nat.le_refl _) _
 have gW := g0.on hb
 have f2 : W.cell? ⟨w.heap.size, 2, none⟩ = some (.int .i64 i) := hF.cell 2
 have b2 : (i == 0) = false := by simp [hi0]
 have hMv := (show Calls Tryz.prog 181 #[Ptr n.c, .int .i64 i, .int .i64 3, .bool false] W (fun r w' => r = .returned (.tuple #[wholeM 0 1, .bool false]) ∧ Goes W n F w' (q.failed 1 l)) from Move_whole W gW.h i 3 0 false 0 1 l (by decide) hdr hl hll hbl hnl (State_idle _ (gW.h.on ((Below.refl _ _).alloc (Nat.le_refl _) _)) i hi) (fun w => come_0_3_false w))
 go_enter Tryz.func132, Tryz.ntmps132
 go_upto_region 1 with fail
 rw [← eW]
 clear eW
 go_wp2_with (go_at_call 181;go_must ((with_reducible refine hMv.mono ?_);rintro r w3 ⟨rfl, hg3⟩;obtain ⟨F3, k3⟩ := gW.step hg3))
 go_end0
 exact ⟨rfl, k3.goes.on ((Below.refl _ _).alloc (Nat.le_refl _) _)⟩
set_option maxRecDepth 100000 in
set_option maxHeartbeats 4000000 in
/-- a window of an idle stream -/
theorem Grow_idle {F : Nat → Prop} {c1 c3 c4 c5 c6 c7 c8 c9 c10 c11 : Value} (w : World) (h : Cw w n q F) (i : Int) (hi0 : i ≠ 0) (hi : i < 1 ∨ q.last < i ∨ i % 2 = 0) (hdr : q.drained = false) (l : Nat) (hl : q.last = l) (hll : l < 2147483648) (hbl : q.bytes.length ≤ 1000000) (hnl : q.news.length ≤ 1000000) :
  Calls Tryz.prog 135 #[Ptr n.c, .agg #[.int .i64 8, c1, .int .i64 i, c3, c4, c5, c6, c7, c8, c9, c10, c11]] w fun r w' => r = .returned (.tuple #[]) ∧ Goes w n F w' (q.failed 1 l) := by
 have g0 := GoesF.refl h
 obtain ⟨W, eW⟩ : ∃ W, W = w.alloc (.cells #[.int .i64 8, c1, .int .i64 i, c3, c4, c5, c6, c7, c8, c9, c10, c11] 34) := ⟨_, rfl⟩
 have hF : Blk W w.heap.size 34 #[.int .i64 8, c1, .int .i64 i, c3, c4, c5, c6, c7, c8, c9, c10, c11] := by rw [eW];exact Blk.new _ _ _
 have hb : Below w.heap.size w W := by rw [eW];exact (Below.refl _ _).alloc (Nat.le_refl _) _
 have gW := g0.on hb
 have f2 : W.cell? ⟨w.heap.size, 2, none⟩ = some (.int .i64 i) := hF.cell 2
 have b2 : (i == 0) = false := by simp [hi0]
 have hMv := (show Calls Tryz.prog 181 #[Ptr n.c, .int .i64 i, .int .i64 8, .bool false] W (fun r w' => r = .returned (.tuple #[wholeM 0 1, .bool false]) ∧ Goes W n F w' (q.failed 1 l)) from Move_whole W gW.h i 8 0 false 0 1 l (by decide) hdr hl hll hbl hnl (State_idle _ (gW.h.on ((Below.refl _ _).alloc (Nat.le_refl _) _)) i hi) (fun w => come_0_8_false w))
 go_enter Tryz.func135, Tryz.ntmps135
 go_upto_region 1 with fail
 rw [← eW]
 clear eW
 go_upto_region 5 with (go_at_call 181;go_must ((with_reducible refine hMv.mono ?_);rintro r w3 ⟨rfl, hg3⟩;obtain ⟨F3, k3⟩ := gW.step hg3))
 go_region
 go_wp2
 go_end0
 exact ⟨rfl, (k3.goes.on ((Below.refl _ _).alloc (Nat.le_refl _) _)).on (Below.refl _ _).drew⟩
set_option maxRecDepth 100000 in
set_option maxHeartbeats 4000000 in
/-- a body's bytes of a stream that is idle -/
theorem Data_idle {F : Nat → Prop} {c5 c6 c7 c8 c9 c10 c11 : Value} (w : World) (h : Cw w n q F) (i : Nat) (d : Bytes) (hd : d.length ≤ 16384) (hi : (i : Int) < 1 ∨ q.last < (i : Int) ∨ (i : Int) % 2 = 0) (hdr : q.drained = false) (l : Nat) (hl : q.last = l) (hll : l < 2147483648) (hbl : q.bytes.length ≤ 1000000) (hnl : q.news.length ≤ 1000000) :
  Calls Tryz.prog 130 #[Ptr n.c, .agg #[.int .i64 0, .int .i64 0, .int .i64 (i : Int), S d, .int .i64 0, c5, c6, c7, c8, c9, c10, c11]] w fun r w' => r = .returned (.tuple #[]) ∧ Goes w n F w' (q.failed 1 l) := by
 have g0 := GoesF.refl h
 obtain ⟨W, eW⟩ : ∃ W, W = w.alloc (.cells #[.int .i64 0, .int .i64 0, .int .i64 (i : Int), S d, .int .i64 0, c5, c6, c7, c8, c9, c10, c11] 34) := ⟨_, rfl⟩
 have hF : Blk W w.heap.size 34 #[.int .i64 0, .int .i64 0, .int .i64 (i : Int), S d, .int .i64 0, c5, c6, c7, c8, c9, c10, c11] := by rw [eW];exact Blk.new _ _ _
 have hb : Below w.heap.size w W := by rw [eW];exact (Below.refl _ _).alloc (Nat.le_refl _) _
 have gW := g0.on hb
 (have f0 : W.cell? ⟨w.heap.size, 0, none⟩ = some (.int .i64 0) := hF.cell 0;have f1 : W.cell? ⟨w.heap.size, 1, none⟩ = some (.int .i64 0) := hF.cell 1;have f2 : W.cell? ⟨w.heap.size, 2, none⟩ = some (.int .i64 (i : Int)) := hF.cell 2;have f3 : W.cell? ⟨w.heap.size, 3, none⟩ = some (S d) := hF.cell 3;have f4 : W.cell? ⟨w.heap.size, 4, none⟩ = some (.int .i64 0) := hF.cell 4;have f5 : W.cell? ⟨w.heap.size, 5, none⟩ = some (c5) := hF.cell 5;have f6 : W.cell? ⟨w.heap.size, 6, none⟩ = some (c6) := hF.cell 6;have f7 : W.cell? ⟨w.heap.size, 7, none⟩ = some (c7) := hF.cell 7;have f8 : W.cell? ⟨w.heap.size, 8, none⟩ = some (c8) := hF.cell 8;have f9 : W.cell? ⟨w.heap.size, 9, none⟩ = some (c9) := hF.cell 9;have f10 : W.cell? ⟨w.heap.size, 10, none⟩ = some (c10) := hF.cell 10;have f11 : W.cell? ⟨w.heap.size, 11, none⟩ = some (c11) := hF.cell 11)
 have hSt : Calls Tryz.prog 29 #[Ptr n.c, .int .i64 (i : Int)] W (fun e w' => e = .returned (.int .i64 0) ∧ w' = W) := State_idle W gW.h (i : Int) hi
 have hCm := fun w => (show Calls Tryz.prog 180 #[.int .i64 0, .int .i64 0, .bool false] w (fun r w' => r = .returned (wholeM 0 1) ∧ Below w.heap.size w w') from come_0_0_false w)
 have b1 : bits .and .i64 0 8 = 0 := by decide
 have b2 : bits .and .i64 0 1 = 0 := by decide
 go_enter Tryz.func130, Tryz.ntmps130
 go_upto_region 1 with fail
 rw [← eW]
 clear eW
 go_upto_region 6 with first
  | (go_at_call 29;go_must ((with_reducible refine hSt.mono ?_);rintro r w1 ⟨rfl, e1⟩;have e2 := e1.symm;subst e2))
  | (go_at_call 180;go_must ((with_reducible refine (hCm _).mono ?_);rintro r w2 ⟨rfl, hb2⟩))
 refine wp_cut (R := fun X => Blk X w2.heap.size 263 #[.int .i64 0, .bool false, .bool true, .int .i64 1, .bool true] ∧ GoesF w n F X q F) ⟨Blk.new _ _ _, (gW.on hb2).on ((Below.refl _ _).alloc (Nat.le_refl _) _)⟩ ?_
 rintro W3 ⟨hM3, g3⟩
 (have m0 : W3.cell? ⟨w2.heap.size, 0, none⟩ = some (.int .i64 0) := hM3.cell 0;have m1 : W3.cell? ⟨w2.heap.size, 1, none⟩ = some (.bool false) := hM3.cell 1;have m2 : W3.cell? ⟨w2.heap.size, 2, none⟩ = some (.bool true) := hM3.cell 2;have m3 : W3.cell? ⟨w2.heap.size, 3, none⟩ = some (.int .i64 1) := hM3.cell 3;have m4 : W3.cell? ⟨w2.heap.size, 4, none⟩ = some (.bool true) := hM3.cell 4)
 have hFa := (show Calls Tryz.prog 92 #[Ptr n.c, .int .i64 1] W3 (fun e w' => e = .returned (.tuple #[]) ∧ Goes W3 n F w' (q.failed 1 l)) from Fail_any W3 g3.h 1 l (by decide) hdr hl hll hbl hnl)
 go_wp2_with (go_at_call 92;go_must ((with_reducible refine hFa.mono ?_);rintro r w3 ⟨rfl, hg3⟩;obtain ⟨F3, k3⟩ := g3.step hg3))
 refine bodyPost_ret (v := .tuple #[]) (by simp [results, Tryz.results130, go_sem]) rfl ?_
 exact ⟨rfl, k3.goes⟩
set_option maxRecDepth 100000 in
set_option maxHeartbeats 4000000 in
/-- a body's bytes of a stream that is done -/
theorem Data_done {F : Nat → Prop} {c5 c6 c7 c8 c9 c10 c11 : Value} (w : World) (h : Cw w n q F) (i : Nat) (d : Bytes) (hd : d.length ≤ 16384) (hs : ∀ p ∈ q.how, p.1 ≠ (i : Int)) (ho : ∀ p ∈ q.live, p.1 ≠ (i : Int)) (h1 : ¬ (i : Int) < 1) (h2 : ¬ q.last < (i : Int)) (h3 : (i : Int) % 2 = 1) (hl4 : q.last < 4294967296) (hdr : q.drained = false) (l : Nat) (hl : q.last = l) (hll : l < 2147483648) (hbl : q.bytes.length ≤ 1000000) (hnl : q.news.length ≤ 1000000) :
  Calls Tryz.prog 130 #[Ptr n.c, .agg #[.int .i64 0, .int .i64 0, .int .i64 (i : Int), S d, .int .i64 0, c5, c6, c7, c8, c9, c10, c11]] w fun r w' => r = .returned (.tuple #[]) ∧ Goes w n F w' (q.failed 5 l) := by
 have g0 := GoesF.refl h
 obtain ⟨W, eW⟩ : ∃ W, W = w.alloc (.cells #[.int .i64 0, .int .i64 0, .int .i64 (i : Int), S d, .int .i64 0, c5, c6, c7, c8, c9, c10, c11] 34) := ⟨_, rfl⟩
 have hF : Blk W w.heap.size 34 #[.int .i64 0, .int .i64 0, .int .i64 (i : Int), S d, .int .i64 0, c5, c6, c7, c8, c9, c10, c11] := by rw [eW];exact Blk.new _ _ _
 have hb : Below w.heap.size w W := by rw [eW];exact (Below.refl _ _).alloc (Nat.le_refl _) _
 have gW := g0.on hb
 (have f0 : W.cell? ⟨w.heap.size, 0, none⟩ = some (.int .i64 0) := hF.cell 0;have f1 : W.cell? ⟨w.heap.size, 1, none⟩ = some (.int .i64 0) := hF.cell 1;have f2 : W.cell? ⟨w.heap.size, 2, none⟩ = some (.int .i64 (i : Int)) := hF.cell 2;have f3 : W.cell? ⟨w.heap.size, 3, none⟩ = some (S d) := hF.cell 3;have f4 : W.cell? ⟨w.heap.size, 4, none⟩ = some (.int .i64 0) := hF.cell 4;have f5 : W.cell? ⟨w.heap.size, 5, none⟩ = some (c5) := hF.cell 5;have f6 : W.cell? ⟨w.heap.size, 6, none⟩ = some (c6) := hF.cell 6;have f7 : W.cell? ⟨w.heap.size, 7, none⟩ = some (c7) := hF.cell 7;have f8 : W.cell? ⟨w.heap.size, 8, none⟩ = some (c8) := hF.cell 8;have f9 : W.cell? ⟨w.heap.size, 9, none⟩ = some (c9) := hF.cell 9;have f10 : W.cell? ⟨w.heap.size, 10, none⟩ = some (c10) := hF.cell 10;have f11 : W.cell? ⟨w.heap.size, 11, none⟩ = some (c11) := hF.cell 11)
 have hSt : Calls Tryz.prog 29 #[Ptr n.c, .int .i64 (i : Int)] W (fun e w' => e = .returned (.int .i64 4) ∧ w' = W) := State_done W gW.h (i : Int) hs ho h1 h2 h3 hl4
 have hCm := fun w => (show Calls Tryz.prog 180 #[.int .i64 4, .int .i64 0, .bool false] w (fun r w' => r = .returned (wholeM 4 5) ∧ Below w.heap.size w w') from come_4_0_false w)
 have b1 : bits .and .i64 0 8 = 0 := by decide
 have b2 : bits .and .i64 0 1 = 0 := by decide
 go_enter Tryz.func130, Tryz.ntmps130
 go_upto_region 1 with fail
 rw [← eW]
 clear eW
 go_upto_region 6 with first
  | (go_at_call 29;go_must ((with_reducible refine hSt.mono ?_);rintro r w1 ⟨rfl, e1⟩;have e2 := e1.symm;subst e2))
  | (go_at_call 180;go_must ((with_reducible refine (hCm _).mono ?_);rintro r w2 ⟨rfl, hb2⟩))
 refine wp_cut (R := fun X => Blk X w2.heap.size 263 #[.int .i64 4, .bool false, .bool true, .int .i64 5, .bool true] ∧ GoesF w n F X q F) ⟨Blk.new _ _ _, (gW.on hb2).on ((Below.refl _ _).alloc (Nat.le_refl _) _)⟩ ?_
 rintro W3 ⟨hM3, g3⟩
 (have m0 : W3.cell? ⟨w2.heap.size, 0, none⟩ = some (.int .i64 4) := hM3.cell 0;have m1 : W3.cell? ⟨w2.heap.size, 1, none⟩ = some (.bool false) := hM3.cell 1;have m2 : W3.cell? ⟨w2.heap.size, 2, none⟩ = some (.bool true) := hM3.cell 2;have m3 : W3.cell? ⟨w2.heap.size, 3, none⟩ = some (.int .i64 5) := hM3.cell 3;have m4 : W3.cell? ⟨w2.heap.size, 4, none⟩ = some (.bool true) := hM3.cell 4)
 have hFa := (show Calls Tryz.prog 92 #[Ptr n.c, .int .i64 5] W3 (fun e w' => e = .returned (.tuple #[]) ∧ Goes W3 n F w' (q.failed 5 l)) from Fail_any W3 g3.h 5 l (by decide) hdr hl hll hbl hnl)
 go_wp2_with (go_at_call 92;go_must ((with_reducible refine hFa.mono ?_);rintro r w3 ⟨rfl, hg3⟩;obtain ⟨F3, k3⟩ := g3.step hg3))
 refine bodyPost_ret (v := .tuple #[]) (by simp [results, Tryz.results130, go_sem]) rfl ?_
 exact ⟨rfl, k3.goes⟩
end Go.Proofs.YtkeeofhjdffhbaaGreatDoor
namespace Go.Proofs.YtkeeofhjdffhbaaGreatDoor
open Go Go.RowKit Go.Dr
/-- a fault of a block, as it is thrown -/
abbrev Thrown (b : Bool) : PanicEntry := { v := .iface 215 (.agg #[.int .i64 40]), recovered := b }
set_option maxRecDepth 100000 in
set_option maxHeartbeats 4000000 in
theorem At_zero {t : Nat} (w : World) :
  Calls Tryz.prog 200 #[Ptr t, .int .i64 0] w fun e w' => e = .returned (.tuple #[.agg #[S [], S [], .bool false], .int .i64 40]) ∧ Below w.heap.size w w' := by
 go_enter Tryz.func200, Tryz.ntmps200
 go_wp2
 refine bodyPost_ret (results_cell_tmp Tryz.results200 rfl rfl (run_loadVar_row _ w.heap.size 41 41 _ (0, 0) _ ((Blk.new w _ _).alloc _) Tryz.underlying41 (by rfl) (by kernel_rfl))) rfl ⟨rfl, ((Below.refl _ _).alloc (Nat.le_refl _) _).alloc (by simp) _⟩
set_option maxRecDepth 100000 in
set_option maxHeartbeats 4000000 in
theorem Row_zero {r d t : Nat} (w : World) (h0 : w.cell? ⟨r, 0, none⟩ = some (Ptr d)) (h2 : w.cell? ⟨d, 2, none⟩ = some (Ptr t)) (hr : r < w.heap.size) (hd : d < w.heap.size) :
  Calls Tryz.prog 166 #[Ptr r, .int .i64 0] w fun e w' => e = .panicked [Thrown false] ∧ Below w.heap.size w w' := by
 go_enter Tryz.func166, Tryz.ntmps166
 go_wp2_with (go_at_call 200;go_must ((with_reducible refine (At_zero _).mono ?_);rintro e w2 ⟨rfl, hb2⟩))
 exact ⟨rfl, rfl, (((Below.refl _ _).alloc (Nat.le_refl _) _).trans (hb2.mono (by simp))).alloc (by have := hb2.size;simp at this;omega) _⟩
set_option maxRecDepth 100000 in
set_option maxHeartbeats 400000 in
theorem catch_fault {a b c d t : Nat} {tab lst : Int} {bk : Bool} {x y : Value} (older : List PanicEntry) (w : World) (hA : Blk w a 94 #[Ptr d]) (hB : Blk w b 42 #[x]) (hC : Blk w c 27 #[y]) (hD : Blk w d 163 #[.int .i64 tab, .int .i64 lst, Ptr t, .bool bk]) (hbc : b ≠ c) (hdb : d ≠ b) (hdc : d ≠ c) :
  CallsD Tryz.prog 117 #[.pointer (some ⟨a, 0, none⟩), .pointer (some ⟨b, 0, none⟩), .pointer (some ⟨c, 0, none⟩)] (.panicking (Thrown false :: older)) w fun e u' w' => e = .returned (.tuple #[]) ∧ u' = .panicking (Thrown true :: older) ∧ Blk w' b 42 #[.slice none 0 0] ∧ Blk w' c 27 #[.int .i64 40] ∧ Blk w' d 163 #[.int .i64 tab, .int .i64 lst, Ptr t, .bool true] ∧ But (fun k => k = d ∨ k = b ∨ k = c) w w' := by
 have hta : ∀ (v : Value) (w : World), (Instr.typeAssert (.iface 215 v) 20 215 true).run Tryz.prog w = .ok (.tuple #[v, .bool true]) w := fun _ _ => by kernel_rfl
 have hne : ∀ (v : Value) (w : World), (binOp .neq 20 (.iface 215 v) .nilIface).run Tryz.prog w = .ok (.bool true) w := fun _ _ => by kernel_rfl
 have a0 : w.cell? ⟨a, 0, none⟩ = some (Ptr d) := hA.cell 0
 have d3 := hD.free 3
 have b0 := hB.free 0
 have c0 := hC.free 0
 refine callsD_of_wpS Tryz.func117 rfl fun c₀ cs hu => ?_
 apply wpS_seq
 apply wpS_region
 simp [wpOpsS, go_sem, recoverD, hu, Tryz.ntmps117, Exit.thenS]
 apply wpS_seq
 apply wpS_region
 simp [wpOpsS, go_sem, Exit.thenS, Array.replicate, hne]
 refine wpS_cond (t := true) (by simp [Act.eval]) ?_
 simp only [if_true]
 apply wpS_seq
 apply wpS_region
 simp [wpOpsS, go_sem, Exit.thenS, hta]
 apply wpS_seq
 apply wpS_seq
 apply wpS_region
 simp [wpOpsS, go_sem, Exit.thenS]
 refine wpS_cond (t := false) (by simp [Act.eval]) ?_
 simp only [Bool.false_eq_true, if_false]
 refine wpS_of_wp (wp_skip ?_)
 simp only [Exit.thenS]
 apply wpS_seq
 obtain ⟨W, eW⟩ : ∃ W, W = w.alloc (.cells #[.int .i64 40] 215) := ⟨_, rfl⟩
 have hF : Blk W w.heap.size 215 #[.int .i64 40] := by rw [eW];exact Blk.new _ _ _
 have hb : Below w.heap.size w W := by rw [eW];exact (Below.refl _ _).alloc (Nat.le_refl _) _
 have hA1 := hA.on hb
 have hB1 := hB.on hb
 have hC1 := hC.on hb
 have hD1 := hD.on hb
 have hbl := hB.lt
 have hcl := hC.lt
 have hdl := hD.lt
 rw [← eW]
 clear eW
 have a1 : W.cell? ⟨a, 0, none⟩ = some (Ptr d) := hA1.cell 0
 have d31 := hD1.free 3
 have d3c : W.cell? ⟨d, 3, none⟩ = some (.bool bk) := hD1.cell 3
 apply wpS_region
 simp [wpOpsS, go_sem, Exit.thenS, a1, d31, d3c]
 refine wpS_of_wp ?_
 obtain ⟨W2, eW2⟩ : ∃ W2, W2 = W.setCell ⟨d, 3, none⟩ (.bool true) := ⟨_, rfl⟩
 have hF2 : Blk W2 w.heap.size 215 #[.int .i64 40] := by rw [eW2];exact hF.other (by show w.heap.size ≠ d;omega) _
 have hB2 : Blk W2 b 42 #[x] := by rw [eW2];exact hB1.other (by show b ≠ d;omega) _
 have hC2 : Blk W2 c 27 #[y] := by rw [eW2];exact hC1.other (by show c ≠ d;omega) _
 have hD2 : Blk W2 d 163 #[.int .i64 tab, .int .i64 lst, Ptr t, .bool true] := by rw [eW2];exact hD1.set 3 _
 have hb2 : But (fun k => k = d ∨ k = b ∨ k = c) w W2 := by rw [eW2];exact (But.of_below hb).setCell (p := ⟨d, 3, none⟩) (.inl (.inl rfl)) _
 rw [← eW2]
 clear eW2
 have f0 : W2.cell? ⟨w.heap.size, 0, none⟩ = some (.int .i64 40) := hF2.cell 0
 have b2 := hB2.free 0
 have bx : W2.cell? ⟨b, 0, none⟩ = some x := hB2.cell 0
 have cx : W2.cell? ⟨c, 0, none⟩ = some y := hC2.cell 0
 have c2 := hC2.free 0
 have nb : w.heap.size ≠ b := by omega
 have nc : w.heap.size ≠ c := by omega
 go_region
 all_goals (
  have hB3 : Blk ((W2.setCell ⟨b, 0, none⟩ (.slice none 0 0)).setCell ⟨c, 0, none⟩ (.int .i64 40)).drew b 42 #[.slice none 0 0] := ((hB2.set 0 _).other (by show b ≠ c;exact hbc) _).drew
  have hC3 : Blk ((W2.setCell ⟨b, 0, none⟩ (.slice none 0 0)).setCell ⟨c, 0, none⟩ (.int .i64 40)).drew c 27 #[.int .i64 40] := ((hC2.other (by show c ≠ b;omega) _).set 0 _).drew
  have hD3 := ((hD2.other (p := ⟨b, 0, none⟩) (by show d ≠ b;exact hdb) (.slice none 0 0)).other (p := ⟨c, 0, none⟩) (by show d ≠ c;exact hdc) (.int .i64 40)).drew
  have hb3 := ((hb2.setCell (p := ⟨b, 0, none⟩) (.inl (.inr (.inl rfl))) (.slice none 0 0)).setCell (p := ⟨c, 0, none⟩) (.inl (.inr (.inr rfl))) (.int .i64 40)).drew
  generalize ((W2.setCell ⟨b, 0, none⟩ (.slice none 0 0)).setCell ⟨c, 0, none⟩ (.int .i64 40)).drew = W3 at *
  simp [bodyPostS, results, Tryz.results117]
  exact ⟨hB3, hC3, hD3, hb3⟩)
set_option maxRecDepth 100000 in
set_option maxHeartbeats 4000000 in
/-- a part that is the row of number nothing -/
theorem Part_bad {r d t B : Nat} {v fv cv hv : Value} (w : World) (hR : Blk w r 219 #[Ptr d, v, fv, cv, hv]) (h : By B w v [128]) (hBr : B ≤ r) (hd : w.cell? ⟨d, 2, none⟩ = some (Ptr t)) (hdl : d < w.heap.size) (hdr : d ≠ r) :
  Calls Tryz.prog 118 #[Ptr r] w fun e w' => e = .panicked [Thrown false] ∧ But (fun k => k = r) w w' := by
 obtain ⟨av, cv', rfl, hcv, hcm⟩ := h.form
 obtain ⟨b, off, rfl, hb, x0⟩ := h.at 0 (by simp)
 have hN := Number_byte 7 0 128 [] (.inr (.inr (.inr rfl))) (by decide) (by decide) w hR h hBr
 have y1 : w.cell? ⟨r, 1, none⟩ = some (.slice (some ⟨b, off, none⟩) 1 cv') := hR.cell 1
 have x0 : w.cell? ⟨b, off, none⟩ = some (.int .u8 128) := x0
 clear h
 go_enter Tryz.func118, Tryz.ntmps118
 go_wp2_with first
  | (go_at_call 167;go_must (refine hN.mono ?_;rintro e w2 ⟨rfl, ⟨v2, hR2, hB2⟩, hb2⟩;have p0 : w2.cell? ⟨r, 0, none⟩ = some (Ptr d) := hR2.cell 0;have p2 : w2.cell? ⟨d, 2, none⟩ = some (Ptr t) := (by rw [← hd];simp only [World.cell?, hb2.block d hdl hdr]);have hRw := Row_zero w2 p0 p2 hR2.lt (Nat.lt_of_lt_of_le hdl hb2.size)))
  | (go_at_call 166;go_must ((with_reducible refine hRw.mono ?_);rintro e w3 ⟨rfl, hb3⟩))
 exact ⟨rfl, rfl, hb2.trans (But.of_below hb3)⟩
end Go.Proofs.YtkeeofhjdffhbaaGreatDoor
namespace Go.Proofs.YtkeeofhjdffhbaaGreatDoor
open Go Go.RowKit Go.Dr
set_option maxRecDepth 100000 in
set_option maxHeartbeats 4000000 in
theorem Decode_bad {d t : Nat} {v : Value} {tab lst : Int} (w : World) (hD : Blk w d 163 #[.int .i64 tab, .int .i64 lst, Ptr t, .bool false]) (h : By w.heap.size w v [128]) :
  Calls Tryz.prog 88 #[Ptr d, v] w fun e w' => e = .returned (.tuple #[.slice none 0 0, .int .i64 40]) ∧ Blk w' d 163 #[.int .i64 tab, .int .i64 lst, Ptr t, .bool true] ∧ But (fun k => k = d) w w' := by
 have hmf : ∀ (fn : Fn) (first cap : Array Value) (w : World), (Instr.makeFunc fn first cap).run Tryz.prog w = .ok (.func fn first cap) w := fun _ _ _ _ => rfl
 have d3 : w.cell? ⟨d, 3, none⟩ = some (.bool false) := hD.cell 3
 have hdl := hD.lt
 obtain ⟨av, cv, rfl, hcv, hcm⟩ := h.form
 have h : By w.heap.size w (.slice av 1 cv) [128] := h
 have hrefl := Below.refl w.heap.size w
 obtain ⟨W, eW⟩ : ∃ W, W = ((w.alloc (.cells #[Ptr d] 94)).alloc (.cells #[.slice none 0 0] 42)).alloc (.cells #[.int .i64 0] 27) := ⟨_, rfl⟩
 have hb : Below w.heap.size w W := by rw [eW];exact ((hrefl.alloc (Nat.le_refl _) _).alloc (by simp) _).alloc (by simp;omega) _
 have hA : Blk W w.heap.size 94 #[Ptr d] := by rw [eW];exact ((Blk.new w _ _).alloc _).alloc _
 have hB : Blk W (w.heap.size + 1) 42 #[.slice none 0 0] := by rw [eW];exact (bnew_at (w.alloc (.cells #[Ptr d] 94)) _ _ _ (by simp)).alloc _
 have hC : Blk W (w.heap.size + 1 + 1) 27 #[.int .i64 0] := by rw [eW];exact bnew_at ((w.alloc (.cells #[Ptr d] 94)).alloc (.cells #[.slice none 0 0] 42)) _ _ _ (by simp)
 have hz : W.heap.size = w.heap.size + 3 := by rw [eW];simp
 have hDW := hD.on hb
 have d3 : W.cell? ⟨d, 3, none⟩ = some (.bool false) := hDW.cell 3
 have a0 : W.cell? ⟨w.heap.size, 0, none⟩ = some (Ptr d) := hA.cell 0
 have n1 : w.heap.size + 3 ≠ w.heap.size := by omega
 obtain ⟨W1, eW1⟩ : ∃ W1, W1 = W.alloc (.cells #[Ptr d, .slice av 1 cv, .slice none 0 0, .int .i64 0, .int .i64 0] 219) := ⟨_, rfl⟩
 have hb1 : Below W.heap.size W W1 := by rw [eW1];exact (Below.refl _ _).alloc (Nat.le_refl _) _
 have hR1 : Blk W1 (w.heap.size + 3) 219 #[Ptr d, .slice av 1 cv, .slice none 0 0, .int .i64 0, .int .i64 0] := by rw [eW1];exact bnew_at W _ _ _ hz
 have hD1 := hDW.on hb1
 have h1 : By w.heap.size W1 (.slice av 1 cv) [128] := (h.below hb).below (hb1.mono (by omega))
 have q2 : W1.cell? ⟨d, 2, none⟩ = some (Ptr t) := hD1.cell 2
 have hdR : d ≠ w.heap.size + 3 := by omega
 have hP := Part_bad W1 hR1 h1 (by omega) q2 hD1.lt hdR
 have r1 : W1.cell? ⟨w.heap.size + 3, 1, none⟩ = some (.slice av 1 cv) := hR1.cell 1
 have hA1 := hA.on hb1
 have hB1 := hB.on hb1
 have hC1 := hC.on hb1
 have hw1 : Below w.heap.size w W1 := hb.trans (hb1.mono (by omega))
 go_enter_defers Tryz.func88, Tryz.ntmps88
 go_upto_region 1 with fail
 rw [← eW]
 clear eW
 go_upto_region 5 with fail
 rw [← eW1]
 clear eW1 hz
 refine wp_loop_rounds 2 ?_
 rw [rounds_succ]
 go_wp2_with (go_at_call 118;go_must ((with_reducible refine hP.mono ?_);rintro e w4 ⟨rfl, hb4⟩;have hA4 := hA1.but hb4 (fun e => by omega);have hB4 := hB1.but hb4 (fun e => by omega);have hC4 := hC1.but hb4 (fun e => by omega);have hD4 := hD1.but hb4 (fun e => hdR e)))
 refine leaves_cons (f := 117) (args := #[.pointer (some ⟨w.heap.size, 0, none⟩), .pointer (some ⟨w.heap.size + 1, 0, none⟩), .pointer (some ⟨w.heap.size + 1 + 1, 0, none⟩)]) (by simp) (by simp [go_sem]) ?_
 refine (catch_fault [] w4 hA4 hB4 hC4 hD4 (by omega) (by omega) (by omega)).mono ?_
 rintro e u' Wf ⟨rfl, rfl, hBf, hCf, hDf, hbf⟩
 have z1 : Wf.cell? ⟨w.heap.size + 1, 0, none⟩ = some (.slice none 0 0) := hBf.cell 0
 have z2 : Wf.cell? ⟨w.heap.size + 1 + 1, 0, none⟩ = some (.int .i64 40) := hCf.cell 0
 have hbt : But (fun k => k = d) w Wf := ((But.of_below hw1).trans2 hb4 (fun g hg => .inr (by omega))).trans2 hbf (fun g hg => by rcases hg with hg | hg | hg <;> first | exact .inl hg | exact .inr (by omega))
 simp [Leaves, settle, results, Tryz.results88, go_sem, z1, z2]
 exact ⟨hDf, hbt⟩
end Go.Proofs.YtkeeofhjdffhbaaGreatDoor
namespace Go.Proofs.YtkeeofhjdffhbaaGreatDoor
open Go Go.RowKit Go.Dr
variable {w w' : World} {n : Nm} {m : Mm} {q q' : Cq}
set_option maxRecDepth 100000 in
set_option maxHeartbeats 8000000 in
/-- a block that breaks the decoder -/
theorem Piece_bad {F : Nat → Prop} {c4 c5 c6 c7 c8 c9 c10 c11 : Value} (w : World) (h : Cw w n q F) (i : Int) (hi : I64 i) (hfo : q.fo = i) (fl : Int) (hfl : fl = 4 ∨ fl = 5) (d : Bytes) (hdd : d = [128]) (hbrk : q.brk = false) (hdr : q.drained = false) (l : Nat) (hl : q.last = l) (hll : l < 2147483648) (hbl : q.bytes.length ≤ 1000000) (hnl : q.news.length ≤ 1000000) :
  Calls Tryz.prog 136 #[Ptr n.c, .agg #[.int .i64 1, .int .i64 fl, .int .i64 i, S d, c4, c5, c6, c7, c8, c9, c10, c11]] w fun r w' => r = .returned (.tuple #[]) ∧ Goes w n F w' (({ q with fo := 0, brk := true } : Cq).failed 9 l) := by
 have g0 := GoesF.refl h
 obtain ⟨m, hx, rfl⟩ := h
 have hdl : d.length ≤ 100 := by rw [hdd];simp
 have hd0 : 0 < d.length := by rw [hdd];simp
 have hB : n.B ≤ w.heap.size := Nat.le_trans (hx.lo _ (Foot.c _ _ _)) (Nat.le_of_lt hx.blk.lt)
 obtain ⟨W, eW⟩ : ∃ W, W = w.alloc (.cells #[.int .i64 1, .int .i64 fl, .int .i64 i, S d, c4, c5, c6, c7, c8, c9, c10, c11] 34) := ⟨_, rfl⟩
 have hF : Blk W w.heap.size 34 #[.int .i64 1, .int .i64 fl, .int .i64 i, S d, c4, c5, c6, c7, c8, c9, c10, c11] := by rw [eW];exact Blk.new _ _ _
 have hb : Below w.heap.size w W := by rw [eW];exact (Below.refl _ _).alloc (Nat.le_refl _) _
 have hWz : W.heap.size = w.heap.size + 1 := by rw [eW];simp
 have hxW := hx.on hb
 have y13 : W.cell? ⟨n.c, 13, none⟩ = some (.slice none 0 0) := hxW.blk.cell 13
 have f3 : W.cell? ⟨w.heap.size, 3, none⟩ = some (S d) := hF.cell 3
 have hcl := hx.blk.lt
 have HD := Lib.hid hdd
 clear hdd
 have hfb := bnd_fl hfl
 clear hfl
 go_enter Tryz.func136, Tryz.ntmps136
 go_upto_region 1 with fail
 rw [← eW]
 clear eW
 go_region_law (refine step_of ?_ (by rfl);refine wp_apStr _ _ _ _ rfl (w.heap.size + 1) 5 Tryz.underlying26 Tryz.underlying9 (by kernel_rfl) _ _ _ rfl (World.ownsRow_nil _ _ _ _) d rfl (by omega) (by show _ ≤ W.heap.size;omega) ?_;intro av cv w2 hv hb2;have hc2 : Blk w2 n.c _ _ := hxW.blk.drew.below hb2 (by omega);have z13 : w2.cell? ⟨n.c, 13, none⟩ = some (.slice none 0 0) := hc2.cell 13;have zf := hc2.free 13)
 all_goals (
  have hF2 : Blk w2 w.heap.size _ _ := hF.drew.below hb2 (by omega)
  have hx2 : Cx w2 n m q := hxW.drew.keep (fun g hg => hb2.block g (by have := hx.foot_lt hg;omega))
  have hb02 : Below w.heap.size w w2 := hb.drew.trans (hb2.mono (Nat.le_succ _))
  obtain ⟨bv, ebv⟩ : ∃ bv : Value, bv = .slice av d.length cv := ⟨_, rfl⟩
  have hC3 := hx2.blk.set 13 (.slice av d.length cv)
  have hF3 := hF2.other (p := ⟨n.c, 13, none⟩) (by show w.heap.size ≠ n.c;omega) (.slice av d.length cv)
  have z13' : (w2.setCell ⟨n.c, 13, none⟩ (.slice av d.length cv)).cell? ⟨n.c, 13, none⟩ = some (.slice av d.length cv) := hC3.cell 13
  have z14' : (w2.setCell ⟨n.c, 13, none⟩ (.slice av d.length cv)).cell? ⟨n.c, 14, none⟩ = some (.int .i64 i) := by rw [← hfo];exact hC3.cell 14
  have zf1 : (w2.setCell ⟨n.c, 13, none⟩ (.slice av d.length cv)).cell? ⟨w.heap.size, 1, none⟩ = some (.int .i64 fl) := hF3.cell 1
  have zf13 := hC3.free 13
  have zf14 := hC3.free 14
  clear z13 zf
  go_upto_region 5 with fail
  go_region
  all_goals (
   go_upto_region 7 with fail
   have hbt : But (fun g => g = n.c) w2 (((w2.setCell ⟨n.c, 13, none⟩ (.slice av d.length cv)).setCell ⟨n.c, 14, none⟩ (.int .i64 0)).setCell ⟨n.c, 13, none⟩ (.slice none 0 0)).drew := ((((But.refl (fun g => g = n.c) w2).setCell (p := ⟨n.c, 13, none⟩) (.inl rfl) _).setCell (p := ⟨n.c, 14, none⟩) (.inl rfl) _).setCell (p := ⟨n.c, 13, none⟩) (.inl rfl) _).drew
   obtain ⟨hx4, k4⟩ := hx2.goesC hbt { q with fo := 0 } ((((hx2.blk.set 13 (.slice av d.length cv)).set 14 (.int .i64 0)).set 13 (.slice none 0 0)).drew) rfl rfl
   have hv4 := own_same hv (fun g hg => hbt.block g (hv.lt g hg.symm).2 (fun e => by have := (hv.lt g hg.symm).1;omega))
   have g4 := (g0.on hb02).comp k4
   refine wp_cut (R := fun W => Cx W n m { q with fo := 0 } ∧ GoesF w n (Foot n m q) W { q with fo := 0 } (Foot n m { q with fo := 0 }) ∧ By W.heap.size W (.slice av d.length cv) d) ⟨hx4, g4, own_by (by simpa using hv4)⟩ ?_
   clear hbt hx4 k4 hv4 g4 hx2 hF2 hF3 hC3 z13' z14' zf1 zf13 zf14 hc2 hv hb2 hb02 ebv bv hF hb hWz hxW y13 f3
   rintro W4 ⟨hx4, g4, hv4⟩
   have hdec := hx4.dec
   rw [show ({ q with fo := 0 } : Cq).brk = false from hbrk] at hdec
   have y5 : W4.cell? ⟨n.c, 5, none⟩ = some (Ptr n.d) := hx4.blk.cell 5
   have htd : n.t1 ≠ n.d := fun e1 => by
    obtain ⟨-, -, k1, k2, -⟩ := hx4.kinds
    rw [e1] at k2
    omega
   obtain ⟨bx, ebx⟩ : ∃ x : Value, x = .slice av d.length cv := ⟨_, rfl⟩
   rw [← ebx, HD.out] at hv4
   have hDec := Decode_bad W4 hdec hv4
   rw [ebx] at hDec
   clear ebx
   go_wp2_with first
    | (go_at_call 88;go_must ((with_reducible refine hDec.mono ?_);rintro r w5 ⟨rfl, hD5, hb5⟩;have hx5 := hx4.upD hb5 (fun g hg => .inl (by rw [hg];exact kd_blk hx4.dec)) (fun e1 => by { obtain ⟨-, -, k1, -, -, k2, -⟩ := hx4.kinds;have e2 : n.t2 = n.d := e1;rw [e2] at k2;omega }) q.tm true hD5 (hx4.t1.but hb5 htd);have k5 : GoesF W4 n (Foot n m { q with fo := 0 }) w5 { q with fo := 0, brk := true } (Foot n m { q with fo := 0, brk := true }) := ⟨⟨m, hx5, rfl⟩, hb5.more (fun g hg => by rw [hg];exact Foot.d), fun g hg => .inl hg⟩;have g5 := g4.comp k5;have hFa := (show Calls Tryz.prog 92 #[Ptr n.c, .int .i64 9] w5 (fun e w' => e = .returned (.tuple #[]) ∧ Goes w5 n (Foot n m { q with fo := 0, brk := true }) w' (({ q with fo := 0, brk := true } : Cq).failed 9 l)) from Fail_any w5 k5.h 9 l (by decide) hdr hl hll hbl hnl)))
    | (go_at_call 92;go_must ((with_reducible refine hFa.mono ?_);rintro r w6 ⟨rfl, hg6⟩;obtain ⟨F6, g6⟩ := g5.step hg6))
   go_end0
   exact ⟨rfl, g6.goes⟩))
set_option maxRecDepth 100000 in
set_option maxHeartbeats 8000000 in
theorem Headers_bad {F : Nat → Prop} {c4 c5 c6 c7 c8 c9 c10 c11 : Value} (w : World) (h : Cw w n q F) (i : Int) (hi : I64 i) (hodd : i.tmod 2 = 1) (e : Bool) (d : Bytes) (hdd : d = [128]) (hbrk : q.brk = false) (hdr : q.drained = false) (l : Nat) (hl : q.last = l) (hll : l < 2147483648) (hbl : q.bytes.length ≤ 1000000) (hnl : q.news.length ≤ 1000000) :
  Calls Tryz.prog 131 #[Ptr n.c, .agg #[.int .i64 1, .int .i64 (if e then 5 else 4), .int .i64 i, S d, c4, c5, c6, c7, c8, c9, c10, c11]] w fun r w' => r = .returned (.tuple #[]) ∧ Goes w n F w' (({ q with fo := 0, endOf := e, brk := true } : Cq).failed 9 l) := by
 have g0 := GoesF.refl h
 obtain ⟨m, hx, rfl⟩ := h
 obtain ⟨fl, efl⟩ : ∃ fl : Int, fl = if e then 5 else 4 := ⟨_, rfl⟩
 rw [← efl]
 have hfl : fl = 4 ∨ fl = 5 := by rw [efl];cases e <;> simp
 have hb1 : bits .and .i64 fl 1 = if e then 1 else 0 := by rw [efl];cases e <;> rfl
 clear efl
 have HD := Lib.hid hdd
 clear hdd
 obtain ⟨W, eW⟩ : ∃ W, W = w.alloc (.cells #[.int .i64 1, .int .i64 fl, .int .i64 i, S d, c4, c5, c6, c7, c8, c9, c10, c11] 34) := ⟨_, rfl⟩
 have hF : Blk W w.heap.size 34 #[.int .i64 1, .int .i64 fl, .int .i64 i, S d, c4, c5, c6, c7, c8, c9, c10, c11] := by rw [eW];exact Blk.new _ _ _
 have hb : Below w.heap.size w W := by rw [eW];exact (Below.refl _ _).alloc (Nat.le_refl _) _
 have hxW := hx.on hb
 have hcl := hx.blk.lt
 have f1 : W.cell? ⟨w.heap.size, 1, none⟩ = some (.int .i64 fl) := hF.cell 1
 have f2 : W.cell? ⟨w.heap.size, 2, none⟩ = some (.int .i64 i) := hF.cell 2
 have y13 : W.cell? ⟨n.c, 13, none⟩ = some (.slice none 0 0) := hxW.blk.cell 13
 have y14 : W.cell? ⟨n.c, 14, none⟩ = some (.int .i64 q.fo) := hxW.blk.cell 14
 have y15 : W.cell? ⟨n.c, 15, none⟩ = some (.bool q.endOf) := hxW.blk.cell 15
 have v13 := hxW.blk.free 13
 have v14 := hxW.blk.free 14
 have v15 := hxW.blk.free 15
 cases e
 ·go_enter Tryz.func131, Tryz.ntmps131
  go_upto_region 3 with fail
  rw [← eW]
  clear eW
  go_region
  go_upto_region 4 with fail
  have hbt : But (fun g => g = n.c) W (((W.setCell ⟨n.c, 14, none⟩ (.int .i64 i)).setCell ⟨n.c, 15, none⟩ (.bool false)).setCell ⟨n.c, 13, none⟩ (.slice none 0 0)).drew := ((((But.refl (fun g => g = n.c) W).setCell (p := ⟨n.c, 14, none⟩) (.inl rfl) _).setCell (p := ⟨n.c, 15, none⟩) (.inl rfl) _).setCell (p := ⟨n.c, 13, none⟩) (.inl rfl) _).drew
  obtain ⟨hx4, k4⟩ := hxW.goesC hbt { q with fo := i, endOf := false } ((((hxW.blk.set 14 (.int .i64 i)).set 15 (.bool false)).set 13 (.slice none 0 0)).drew) rfl rfl
  have g4 := (g0.on hb).comp k4
  have hF4 := hF.but hbt (fun e => by omega)
  refine wp_cut (R := fun W => Cx W n m { q with fo := i, endOf := false } ∧ GoesF w n (Foot n m q) W { q with fo := i, endOf := false } (Foot n m { q with fo := i, endOf := false }) ∧ Blk W w.heap.size 34 #[.int .i64 1, .int .i64 fl, .int .i64 i, S d, c4, c5, c6, c7, c8, c9, c10, c11]) ⟨hx4, g4, hF4⟩ ?_
  clear hbt hx4 k4 g4 hF4 f1 f2 y13 y14 y15 v13 v14 v15 hxW hb hF
  rintro W4 ⟨hx4, g4, hF4⟩
  (have x0 : W4.cell? ⟨w.heap.size, 0, none⟩ = some (.int .i64 1) := hF4.cell 0;have x1 : W4.cell? ⟨w.heap.size, 1, none⟩ = some (.int .i64 fl) := hF4.cell 1;have x2 : W4.cell? ⟨w.heap.size, 2, none⟩ = some (.int .i64 i) := hF4.cell 2;have x3 : W4.cell? ⟨w.heap.size, 3, none⟩ = some (S d) := hF4.cell 3;have x4 : W4.cell? ⟨w.heap.size, 4, none⟩ = some (c4) := hF4.cell 4;have x5 : W4.cell? ⟨w.heap.size, 5, none⟩ = some (c5) := hF4.cell 5;have x6 : W4.cell? ⟨w.heap.size, 6, none⟩ = some (c6) := hF4.cell 6;have x7 : W4.cell? ⟨w.heap.size, 7, none⟩ = some (c7) := hF4.cell 7;have x8 : W4.cell? ⟨w.heap.size, 8, none⟩ = some (c8) := hF4.cell 8;have x9 : W4.cell? ⟨w.heap.size, 9, none⟩ = some (c9) := hF4.cell 9;have x10 : W4.cell? ⟨w.heap.size, 10, none⟩ = some (c10) := hF4.cell 10;have x11 : W4.cell? ⟨w.heap.size, 11, none⟩ = some (c11) := hF4.cell 11)
  have hP := Piece_bad (c4 := c4) (c5 := c5) (c6 := c6) (c7 := c7) (c8 := c8) (c9 := c9) (c10 := c10) (c11 := c11) W4 g4.h i hi rfl fl hfl d HD.out hbrk hdr l hl hll hbl hnl
  go_wp2_with first
   | (go_at_call 136;go_must ((with_reducible refine hP.mono ?_);rintro r w6 ⟨rfl, hg6⟩;obtain ⟨F6, g6⟩ := g4.step hg6))
  go_end0
  exact ⟨rfl, g6.goes⟩
 ·go_enter Tryz.func131, Tryz.ntmps131
  go_upto_region 3 with fail
  rw [← eW]
  clear eW
  go_region
  go_upto_region 4 with fail
  have hbt : But (fun g => g = n.c) W (((W.setCell ⟨n.c, 14, none⟩ (.int .i64 i)).setCell ⟨n.c, 15, none⟩ (.bool true)).setCell ⟨n.c, 13, none⟩ (.slice none 0 0)).drew := ((((But.refl (fun g => g = n.c) W).setCell (p := ⟨n.c, 14, none⟩) (.inl rfl) _).setCell (p := ⟨n.c, 15, none⟩) (.inl rfl) _).setCell (p := ⟨n.c, 13, none⟩) (.inl rfl) _).drew
  obtain ⟨hx4, k4⟩ := hxW.goesC hbt { q with fo := i, endOf := true } ((((hxW.blk.set 14 (.int .i64 i)).set 15 (.bool true)).set 13 (.slice none 0 0)).drew) rfl rfl
  have g4 := (g0.on hb).comp k4
  have hF4 := hF.but hbt (fun e => by omega)
  refine wp_cut (R := fun W => Cx W n m { q with fo := i, endOf := true } ∧ GoesF w n (Foot n m q) W { q with fo := i, endOf := true } (Foot n m { q with fo := i, endOf := true }) ∧ Blk W w.heap.size 34 #[.int .i64 1, .int .i64 fl, .int .i64 i, S d, c4, c5, c6, c7, c8, c9, c10, c11]) ⟨hx4, g4, hF4⟩ ?_
  clear hbt hx4 k4 g4 hF4 f1 f2 y13 y14 y15 v13 v14 v15 hxW hb hF
  rintro W4 ⟨hx4, g4, hF4⟩
  (have x0 : W4.cell? ⟨w.heap.size, 0, none⟩ = some (.int .i64 1) := hF4.cell 0;have x1 : W4.cell? ⟨w.heap.size, 1, none⟩ = some (.int .i64 fl) := hF4.cell 1;have x2 : W4.cell? ⟨w.heap.size, 2, none⟩ = some (.int .i64 i) := hF4.cell 2;have x3 : W4.cell? ⟨w.heap.size, 3, none⟩ = some (S d) := hF4.cell 3;have x4 : W4.cell? ⟨w.heap.size, 4, none⟩ = some (c4) := hF4.cell 4;have x5 : W4.cell? ⟨w.heap.size, 5, none⟩ = some (c5) := hF4.cell 5;have x6 : W4.cell? ⟨w.heap.size, 6, none⟩ = some (c6) := hF4.cell 6;have x7 : W4.cell? ⟨w.heap.size, 7, none⟩ = some (c7) := hF4.cell 7;have x8 : W4.cell? ⟨w.heap.size, 8, none⟩ = some (c8) := hF4.cell 8;have x9 : W4.cell? ⟨w.heap.size, 9, none⟩ = some (c9) := hF4.cell 9;have x10 : W4.cell? ⟨w.heap.size, 10, none⟩ = some (c10) := hF4.cell 10;have x11 : W4.cell? ⟨w.heap.size, 11, none⟩ = some (c11) := hF4.cell 11)
  have hP := Piece_bad (c4 := c4) (c5 := c5) (c6 := c6) (c7 := c7) (c8 := c8) (c9 := c9) (c10 := c10) (c11 := c11) W4 g4.h i hi rfl fl hfl d HD.out hbrk hdr l hl hll hbl hnl
  go_wp2_with first
   | (go_at_call 136;go_must ((with_reducible refine hP.mono ?_);rintro r w6 ⟨rfl, hg6⟩;obtain ⟨F6, g6⟩ := g4.step hg6))
  go_end0
  exact ⟨rfl, g6.goes⟩
end Go.Proofs.YtkeeofhjdffhbaaGreatDoor
