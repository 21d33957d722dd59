/- Parts of the proof of gr_root: the texts Cnc4. -/
import Derived.Test.YtlkfmhbmcicmfaaGreatDoorG30
set_option linter.unusedSimpArgs false
set_option linter.unusedVariables false
set_option linter.unnecessarySimpa false
namespace Go.Proofs.YtlkfmhbmcicmfaaGreatDoor
open Go Go.RowKit Go.Dr
variable {n : Nm} {q : Cq}

set_option maxRecDepth 100000 in
set_option maxHeartbeats 16000000 in
theorem Data_pad {F : Nat → Prop} {c5 c6 c7 c8 c9 c10 c11 : Value} (d : Bytes) (p : Nat) (hp : p ≤ 255) (w : World) (h : Cw w n q F) (i : Nat) (hi0 : 0 < i) (hi : i < 2147483648) (hodd : (i : Int) % 2 = 1) {a c : List (Int × Sp)} {s : Sp} (hq : q.live = a ++ ((i : Int), s) :: c) (hst : s.st = 1) (htl : s.told = false) (hlast : ¬ q.last < i) (hl2 : q.last < 4294967296) (hdl : d.length ≤ 16384) (hwin : (((d.length : Int) + (p : Int) + 1) : Int) ≤ q.win) (hc0 : 0 ≤ s.came) (hc1 : s.came ≤ 1000000000) (hbl : q.bytes.length ≤ 1000000) (hnl : q.news.length ≤ 1000000) :
    Calls Tryz.prog 140 #[Ptr n.c, .agg #[.int .i64 0, .int .i64 8, .int .i64 (i : Int), S d, .int .i64 (p : Int), c5, c6, c7, c8, c9, c10, c11]] w fun r w' => r = .returned (.tuple #[]) ∧ Goes w n F w' { q with bytes := q.bytes ++ frB 8 0 0 (beP (d.length + p + 1) 4) ++ frB 8 0 i (beP (d.length + p + 1) 4), live := a ++ ((i : Int), { s with came := s.came + (d.length : Int) }) :: c, news := q.news ++ [.int .i64 3, .int .i64 (i : Int), S [], S [], S [], S [], .slice none 0 0, S d, .bool false, .int .i64 0] } := by
  have g0 := GoesF.refl h
  have hIi : I64 (i : Int) := by constructor <;> omega
  obtain ⟨W, eW⟩ : ∃ W, W = w.alloc (.cells #[.int .i64 0, .int .i64 8, .int .i64 (i : Int), S d, .int .i64 (p : Int), c5, c6, c7, c8, c9, c10, c11] 34) := ⟨_, rfl⟩
  have hF : Blk W w.heap.size 34 #[.int .i64 0, .int .i64 8, .int .i64 (i : Int), S d, .int .i64 (p : Int), c5, c6, c7, c8, c9, c10, c11] := by rw [eW]; exact Blk.new _ _ _
  have hb : Below w.heap.size w W := by rw [eW]; exact (Below.refl _ _).alloc (Nat.le_refl _) _
  have hFlt : ∀ g, F g → g < w.heap.size := fun g hg => h.lt hg
  (have f0 : W.cell? ⟨w.heap.size, 0, none⟩ = some (.int .i64 0) := hF.cell 0; have f1 : W.cell? ⟨w.heap.size, 1, none⟩ = some (.int .i64 8) := hF.cell 1; have f2 : W.cell? ⟨w.heap.size, 2, none⟩ = some (.int .i64 (i : Int)) := hF.cell 2; have f3 : W.cell? ⟨w.heap.size, 3, none⟩ = some (S d) := hF.cell 3; have f4 : W.cell? ⟨w.heap.size, 4, none⟩ = some (.int .i64 (p : Int)) := hF.cell 4; have f5 : W.cell? ⟨w.heap.size, 5, none⟩ = some (c5) := hF.cell 5; have f6 : W.cell? ⟨w.heap.size, 6, none⟩ = some (c6) := hF.cell 6; have f7 : W.cell? ⟨w.heap.size, 7, none⟩ = some (c7) := hF.cell 7; have f8 : W.cell? ⟨w.heap.size, 8, none⟩ = some (c8) := hF.cell 8; have f9 : W.cell? ⟨w.heap.size, 9, none⟩ = some (c9) := hF.cell 9; have f10 : W.cell? ⟨w.heap.size, 10, none⟩ = some (c10) := hF.cell 10; have f11 : W.cell? ⟨w.heap.size, 11, none⟩ = some (c11) := hF.cell 11)
  have gW := g0.on hb
  have hSt : Calls Tryz.prog 30 #[Ptr n.c, .int .i64 (i : Int)] W (fun e w' => e = .returned (.int .i64 1) ∧ w' = W) := by
    have := State_live W gW.h (i : Int) s (by rw [hq]; simp) (by omega) hlast hodd hl2
    rwa [hst] at this
  have hCm := fun w => (show Calls Tryz.prog 188 #[.int .i64 1, .int .i64 0, .bool false] w (fun r w' => r = .returned (.agg #[.int .i64 1, .bool false, .bool false, .int .i64 0, .bool false]) ∧ Below w.heap.size w w') from come_1_0_false w)
  have b1 : bits .and .i64 8 8 = 8 := by decide
  have b2 : bits .and .i64 8 1 = 0 := by decide
  have eN : (((d.length + p + 1) : Nat) : Int) = ((d.length : Int) + (p : Int) + 1) := by simp
  go_enter Tryz.func140, Tryz.ntmps140
  go_upto_region 1 with fail
  rw [← eW]
  clear eW
  go_upto_region 6 with first
    | (go_at_call 30; go_must ((with_reducible refine hSt.mono ?_); rintro r w1 ⟨rfl, e1⟩; have e2 := e1.symm; subst e2))
    | (go_at_call 188; go_must ((with_reducible refine (hCm _).mono ?_); rintro r w2 ⟨rfl, hb2⟩))
  have hz2 : w.heap.size < w2.heap.size := Nat.lt_of_lt_of_le hF.lt hb2.size
  refine wp_cut (R := fun X => Blk X w.heap.size 34 #[.int .i64 0, .int .i64 8, .int .i64 (i : Int), S d, .int .i64 (p : Int), c5, c6, c7, c8, c9, c10, c11] ∧ Blk X w2.heap.size 267 #[.int .i64 1, .bool false, .bool false, .int .i64 0, .bool false] ∧ GoesF w n F X q F) ⟨(hF.on hb2).alloc _, Blk.new _ _ _, (gW.on hb2).on ((Below.refl _ _).alloc (Nat.le_refl _) _)⟩ ?_
  clear f0 f1 f2 f3 f4 f5 f6 f7 f8 f9 f10 f11 hF hb gW hSt hb2
  rintro W3 ⟨hF3, hM3, g3⟩
  (have m0 : W3.cell? ⟨w2.heap.size, 0, none⟩ = some (.int .i64 1) := hM3.cell 0; have m1 : W3.cell? ⟨w2.heap.size, 1, none⟩ = some (.bool false) := hM3.cell 1; have m2 : W3.cell? ⟨w2.heap.size, 2, none⟩ = some (.bool false) := hM3.cell 2; have m3 : W3.cell? ⟨w2.heap.size, 3, none⟩ = some (.int .i64 0) := hM3.cell 3; have m4 : W3.cell? ⟨w2.heap.size, 4, none⟩ = some (.bool false) := hM3.cell 4)
  have hW1 := Write_any (c0 := .int .i64 8) (c1 := .int .i64 0) (c2 := .int .i64 0) (c3 := S []) (c4 := .int .i64 0) (c5 := .slice none 0 0) (c6 := .int .i64 0) (c7 := .int .i64 0) (c8 := .int .i64 ((d.length : Int) + (p : Int) + 1)) (c9 := .int .i64 0) (c10 := .int .i64 0) (c11 := .bool false) W3 g3.h (frB 8 0 0 (beP (d.length + p + 1) 4)) (fun w1 _ => by have hw := pPut_Win 0 0 (d.length + p + 1) (by decide) (by decide) (by omega) w1; rw [eN] at hw; exact hw) (by rw [frB_length, beP_length _ _ (by decide)]; omega)
  have hn0 : decide ((0 : Int) < ((d.length : Int) + (p : Int) + 1)) = true := by simp; omega
  have hn0' : (0 : Int) < ((d.length : Int) + (p : Int) + 1) := by omega
  have EN := Lib.hid eN
  clear eN
  go_upto_region 12 with (go_at_call 65; go_must ((with_reducible refine hW1.mono ?_); rintro r w4 ⟨rfl, hg4⟩; have hbt4 := (let ⟨_, _, x, _⟩ := hg4; x); obtain ⟨F4, g4⟩ := g3.step hg4; have hF4 := hF3.but hbt4 (fun hf => by have := hFlt _ hf; omega); have hM4 := hM3.but hbt4 (fun hf => by have := hFlt _ hf; omega); (have o0 : w4.cell? ⟨w2.heap.size, 0, none⟩ = some (.int .i64 1) := hM4.cell 0; have o1 : w4.cell? ⟨w2.heap.size, 1, none⟩ = some (.bool false) := hM4.cell 1; have o2 : w4.cell? ⟨w2.heap.size, 2, none⟩ = some (.bool false) := hM4.cell 2; have o3 : w4.cell? ⟨w2.heap.size, 3, none⟩ = some (.int .i64 0) := hM4.cell 3; have o4 : w4.cell? ⟨w2.heap.size, 4, none⟩ = some (.bool false) := hM4.cell 4)))
  refine wp_cut (R := fun X => Blk X w.heap.size 34 #[.int .i64 0, .int .i64 8, .int .i64 (i : Int), S d, .int .i64 (p : Int), c5, c6, c7, c8, c9, c10, c11] ∧ Blk X w2.heap.size 267 #[.int .i64 1, .bool false, .bool false, .int .i64 0, .bool false] ∧ ∃ F4, GoesF w n F X { q with bytes := q.bytes ++ frB 8 0 0 (beP (d.length + p + 1) 4) } F4) ⟨hF4, hM4, F4, g4⟩ ?_
  clear m0 m1 m2 m3 m4 hF3 hM3 g3 hF4 hM4 g4 hg4 hbt4 F4 hW1
  rintro W4 ⟨hF4, hM4, F4, g4⟩
  obtain ⟨m, hx4, rfl⟩ := g4.h
  (have f0 : W4.cell? ⟨w.heap.size, 0, none⟩ = some (.int .i64 0) := hF4.cell 0; have f1 : W4.cell? ⟨w.heap.size, 1, none⟩ = some (.int .i64 8) := hF4.cell 1; have f2 : W4.cell? ⟨w.heap.size, 2, none⟩ = some (.int .i64 (i : Int)) := hF4.cell 2; have f3 : W4.cell? ⟨w.heap.size, 3, none⟩ = some (S d) := hF4.cell 3; have f4 : W4.cell? ⟨w.heap.size, 4, none⟩ = some (.int .i64 (p : Int)) := hF4.cell 4; have f5 : W4.cell? ⟨w.heap.size, 5, none⟩ = some (c5) := hF4.cell 5; have f6 : W4.cell? ⟨w.heap.size, 6, none⟩ = some (c6) := hF4.cell 6; have f7 : W4.cell? ⟨w.heap.size, 7, none⟩ = some (c7) := hF4.cell 7; have f8 : W4.cell? ⟨w.heap.size, 8, none⟩ = some (c8) := hF4.cell 8; have f9 : W4.cell? ⟨w.heap.size, 9, none⟩ = some (c9) := hF4.cell 9; have f10 : W4.cell? ⟨w.heap.size, 10, none⟩ = some (c10) := hF4.cell 10; have f11 : W4.cell? ⟨w.heap.size, 11, none⟩ = some (c11) := hF4.cell 11)
  have y9 : W4.cell? ⟨n.c, 9, none⟩ = some (.map (some n.lm)) := hx4.blk.cell 9
  have hmem : ((i : Int), s) ∈ q.live := by rw [hq]; simp
  have hk := (hx4.live.inn hIi (List.mem_map.2 ⟨_, hmem, rfl⟩)).2
  have hkd := (hx4.drew.live.inn hIi (List.mem_map.2 ⟨_, hmem, rfl⟩)).2
  go_region
  go_upto_region 13 with fail
  refine wp_cut (R := fun X => Blk X w.heap.size 34 #[.int .i64 0, .int .i64 8, .int .i64 (i : Int), S d, .int .i64 (p : Int), c5, c6, c7, c8, c9, c10, c11] ∧ Blk X w2.heap.size 267 #[.int .i64 1, .bool false, .bool false, .int .i64 0, .bool false] ∧ Cx X n m { q with bytes := q.bytes ++ frB 8 0 0 (beP (d.length + p + 1) 4) } ∧ GoesF w n F X { q with bytes := q.bytes ++ frB 8 0 0 (beP (d.length + p + 1) 4) } (Foot n m { q with bytes := q.bytes ++ frB 8 0 0 (beP (d.length + p + 1) 4) })) ⟨hF4.drew, hM4.drew, hx4.drew, g4.on (Below.refl _ _).drew⟩ ?_
  clear f0 f1 f2 f3 f4 f5 f6 f7 f8 f9 f10 f11 y9 hk hkd hF4 hM4 hx4 g4 W4
  rintro W5 ⟨hF5, hM5, hx5, g5⟩
  (have f0 : W5.cell? ⟨w.heap.size, 0, none⟩ = some (.int .i64 0) := hF5.cell 0; have f1 : W5.cell? ⟨w.heap.size, 1, none⟩ = some (.int .i64 8) := hF5.cell 1; have f2 : W5.cell? ⟨w.heap.size, 2, none⟩ = some (.int .i64 (i : Int)) := hF5.cell 2; have f3 : W5.cell? ⟨w.heap.size, 3, none⟩ = some (S d) := hF5.cell 3; have f4 : W5.cell? ⟨w.heap.size, 4, none⟩ = some (.int .i64 (p : Int)) := hF5.cell 4; have f5 : W5.cell? ⟨w.heap.size, 5, none⟩ = some (c5) := hF5.cell 5; have f6 : W5.cell? ⟨w.heap.size, 6, none⟩ = some (c6) := hF5.cell 6; have f7 : W5.cell? ⟨w.heap.size, 7, none⟩ = some (c7) := hF5.cell 7; have f8 : W5.cell? ⟨w.heap.size, 8, none⟩ = some (c8) := hF5.cell 8; have f9 : W5.cell? ⟨w.heap.size, 9, none⟩ = some (c9) := hF5.cell 9; have f10 : W5.cell? ⟨w.heap.size, 10, none⟩ = some (c10) := hF5.cell 10; have f11 : W5.cell? ⟨w.heap.size, 11, none⟩ = some (c11) := hF5.cell 11)
  have hS5 := hx5.side _ hmem
  have s0 : W5.cell? ⟨m.sb i, 0, none⟩ = some (.int .i64 s.came) := hS5.cell 0
  have v0 := hS5.free 0
  have hwr : IntKind.i64.wrap (s.came + (d.length : Int)) = s.came + (d.length : Int) := IntWalk.i64_in _ (by omega)
  have hfl5 : w.heap.size ≠ m.sb i := fun e => by
    have k1 := kd_blk hF5
    have k2 := kd_blk hS5
    rw [e] at k1
    rw [k1] at k2
    exact absurd k2 (by decide)
  have hml5 : w2.heap.size ≠ m.sb i := fun e => by
    have k1 := kd_blk hM5
    have k2 := kd_blk hS5
    rw [e] at k1
    rw [k1] at k2
    exact absurd k2 (by decide)
  go_region
  go_upto_region 14 with fail
  have hbt : But (fun g => g = m.sb i) W5 ((W5.setCell ⟨m.sb i, 0, none⟩ (.int .i64 (s.came + (d.length : Int)))).drew) := ((But.refl (fun g => g = m.sb i) W5).setCell (p := ⟨m.sb i, 0, none⟩) (.inl rfl) _).drew
  obtain ⟨hx6, k6⟩ := hx5.goesS hq { s with came := s.came + (d.length : Int) } hbt ((hS5.set 0 (.int .i64 (s.came + (d.length : Int)))).drew) rfl
  refine wp_cut (R := fun X => Blk X w.heap.size 34 #[.int .i64 0, .int .i64 8, .int .i64 (i : Int), S d, .int .i64 (p : Int), c5, c6, c7, c8, c9, c10, c11] ∧ Blk X w2.heap.size 267 #[.int .i64 1, .bool false, .bool false, .int .i64 0, .bool false] ∧ Cx X n m { q with bytes := q.bytes ++ frB 8 0 0 (beP (d.length + p + 1) 4), live := a ++ ((i : Int), { s with came := s.came + (d.length : Int) }) :: c } ∧ GoesF w n F X { q with bytes := q.bytes ++ frB 8 0 0 (beP (d.length + p + 1) 4), live := a ++ ((i : Int), { s with came := s.came + (d.length : Int) }) :: c } (Foot n m { q with bytes := q.bytes ++ frB 8 0 0 (beP (d.length + p + 1) 4), live := a ++ ((i : Int), { s with came := s.came + (d.length : Int) }) :: c })) ⟨(hF5.other (p := ⟨m.sb i, 0, none⟩) hfl5 _).drew, (hM5.other (p := ⟨m.sb i, 0, none⟩) hml5 _).drew, hx6, g5.comp k6⟩ ?_
  clear f0 f1 f2 f3 f4 f5 f6 f7 f8 f9 f10 f11 s0 v0 hF5 hM5 hx5 g5 hS5 hfl5 hml5 hbt hx6 k6 W5
  rintro W6 ⟨hF6, hM6, hx6, g6⟩
  (have f0 : W6.cell? ⟨w.heap.size, 0, none⟩ = some (.int .i64 0) := hF6.cell 0; have f1 : W6.cell? ⟨w.heap.size, 1, none⟩ = some (.int .i64 8) := hF6.cell 1; have f2 : W6.cell? ⟨w.heap.size, 2, none⟩ = some (.int .i64 (i : Int)) := hF6.cell 2; have f3 : W6.cell? ⟨w.heap.size, 3, none⟩ = some (S d) := hF6.cell 3; have f4 : W6.cell? ⟨w.heap.size, 4, none⟩ = some (.int .i64 (p : Int)) := hF6.cell 4; have f5 : W6.cell? ⟨w.heap.size, 5, none⟩ = some (c5) := hF6.cell 5; have f6 : W6.cell? ⟨w.heap.size, 6, none⟩ = some (c6) := hF6.cell 6; have f7 : W6.cell? ⟨w.heap.size, 7, none⟩ = some (c7) := hF6.cell 7; have f8 : W6.cell? ⟨w.heap.size, 8, none⟩ = some (c8) := hF6.cell 8; have f9 : W6.cell? ⟨w.heap.size, 9, none⟩ = some (c9) := hF6.cell 9; have f10 : W6.cell? ⟨w.heap.size, 10, none⟩ = some (c10) := hF6.cell 10; have f11 : W6.cell? ⟨w.heap.size, 11, none⟩ = some (c11) := hF6.cell 11)
  have y1 : W6.cell? ⟨n.c, 1, none⟩ = some (.int .i64 q.win) := hx6.blk.cell 1
  have hS6 := hx6.side ((i : Int), { s with came := s.came + (d.length : Int) }) (by simp)
  have s2 : W6.cell? ⟨m.sb i, 2, none⟩ = some (.bool false) := by rw [← htl]; exact hS6.cell 2
  have hw1 : decide (q.win < ((d.length : Int) + (p : Int) + 1)) = false := by simp; omega
  have hw2 : ¬ q.win < ((d.length : Int) + (p : Int) + 1) := by omega
  go_upto_region 16 with fail
  go_region
  go_upto_region 18 with fail
  refine wp_cut (R := fun X => Blk X w.heap.size 34 #[.int .i64 0, .int .i64 8, .int .i64 (i : Int), S d, .int .i64 (p : Int), c5, c6, c7, c8, c9, c10, c11] ∧ Blk X w2.heap.size 267 #[.int .i64 1, .bool false, .bool false, .int .i64 0, .bool false] ∧ Cx X n m { q with bytes := q.bytes ++ frB 8 0 0 (beP (d.length + p + 1) 4), live := a ++ ((i : Int), { s with came := s.came + (d.length : Int) }) :: c } ∧ GoesF w n F X { q with bytes := q.bytes ++ frB 8 0 0 (beP (d.length + p + 1) 4), live := a ++ ((i : Int), { s with came := s.came + (d.length : Int) }) :: c } (Foot n m { q with bytes := q.bytes ++ frB 8 0 0 (beP (d.length + p + 1) 4), live := a ++ ((i : Int), { s with came := s.came + (d.length : Int) }) :: c })) ⟨hF6.drew, hM6.drew, hx6.drew, g6.on (Below.refl _ _).drew⟩ ?_
  clear f0 f1 f2 f3 f4 f5 f6 f7 f8 f9 f10 f11 y1 s2 hF6 hM6 hx6 g6 hS6 hw1 hw2 W6
  rintro W7 ⟨hF7, hM7, hx7, g7⟩
  (have f0 : W7.cell? ⟨w.heap.size, 0, none⟩ = some (.int .i64 0) := hF7.cell 0; have f1 : W7.cell? ⟨w.heap.size, 1, none⟩ = some (.int .i64 8) := hF7.cell 1; have f2 : W7.cell? ⟨w.heap.size, 2, none⟩ = some (.int .i64 (i : Int)) := hF7.cell 2; have f3 : W7.cell? ⟨w.heap.size, 3, none⟩ = some (S d) := hF7.cell 3; have f4 : W7.cell? ⟨w.heap.size, 4, none⟩ = some (.int .i64 (p : Int)) := hF7.cell 4; have f5 : W7.cell? ⟨w.heap.size, 5, none⟩ = some (c5) := hF7.cell 5; have f6 : W7.cell? ⟨w.heap.size, 6, none⟩ = some (c6) := hF7.cell 6; have f7 : W7.cell? ⟨w.heap.size, 7, none⟩ = some (c7) := hF7.cell 7; have f8 : W7.cell? ⟨w.heap.size, 8, none⟩ = some (c8) := hF7.cell 8; have f9 : W7.cell? ⟨w.heap.size, 9, none⟩ = some (c9) := hF7.cell 9; have f10 : W7.cell? ⟨w.heap.size, 10, none⟩ = some (c10) := hF7.cell 10; have f11 : W7.cell? ⟨w.heap.size, 11, none⟩ = some (c11) := hF7.cell 11)
  (have m0 : W7.cell? ⟨w2.heap.size, 0, none⟩ = some (.int .i64 1) := hM7.cell 0; have m1 : W7.cell? ⟨w2.heap.size, 1, none⟩ = some (.bool false) := hM7.cell 1; have m2 : W7.cell? ⟨w2.heap.size, 2, none⟩ = some (.bool false) := hM7.cell 2; have m3 : W7.cell? ⟨w2.heap.size, 3, none⟩ = some (.int .i64 0) := hM7.cell 3; have m4 : W7.cell? ⟨w2.heap.size, 4, none⟩ = some (.bool false) := hM7.cell 4)
  have hFo7 : ∀ g, Foot n m { q with bytes := q.bytes ++ frB 8 0 0 (beP (d.length + p + 1) 4), live := a ++ ((i : Int), { s with came := s.came + (d.length : Int) }) :: c } g → F g ∨ w.heap.size ≤ g := g7.s
  have hne7 : ¬ Foot n m { q with bytes := q.bytes ++ frB 8 0 0 (beP (d.length + p + 1) 4), live := a ++ ((i : Int), { s with came := s.came + (d.length : Int) }) :: c } w.heap.size := fun hf => by
    have := (show Cw W7 n { q with bytes := q.bytes ++ frB 8 0 0 (beP (d.length + p + 1) 4), live := a ++ ((i : Int), { s with came := s.came + (d.length : Int) }) :: c } (Foot n m { q with bytes := q.bytes ++ frB 8 0 0 (beP (d.length + p + 1) 4), live := a ++ ((i : Int), { s with came := s.came + (d.length : Int) }) :: c }) from ⟨m, hx7, rfl⟩).sort hf
    rw [kd_blk hF7] at this
    exact absurd this (by decide)
  have hnm7 : ¬ Foot n m { q with bytes := q.bytes ++ frB 8 0 0 (beP (d.length + p + 1) 4), live := a ++ ((i : Int), { s with came := s.came + (d.length : Int) }) :: c } w2.heap.size := fun hf => by
    have := (show Cw W7 n { q with bytes := q.bytes ++ frB 8 0 0 (beP (d.length + p + 1) 4), live := a ++ ((i : Int), { s with came := s.came + (d.length : Int) }) :: c } (Foot n m { q with bytes := q.bytes ++ frB 8 0 0 (beP (d.length + p + 1) 4), live := a ++ ((i : Int), { s with came := s.came + (d.length : Int) }) :: c }) from ⟨m, hx7, rfl⟩).sort hf
    rw [kd_blk hM7] at this
    exact absurd this (by decide)
  have hW2 := Write_any (c0 := .int .i64 8) (c1 := .int .i64 0) (c2 := .int .i64 (i : Int)) (c3 := S []) (c4 := .int .i64 0) (c5 := .slice none 0 0) (c6 := .int .i64 0) (c7 := .int .i64 0) (c8 := .int .i64 ((d.length : Int) + (p : Int) + 1)) (c9 := .int .i64 0) (c10 := .int .i64 0) (c11 := .bool false) W7 g7.h (frB 8 0 i (beP (d.length + p + 1) 4)) (fun w1 _ => by have hw := pPut_Win 0 i (d.length + p + 1) (by decide) hi (by omega) w1; rw [EN.out] at hw; exact hw) (by rw [frB_length, beP_length _ _ (by decide)]; show (q.bytes ++ frB 8 0 0 (beP (d.length + p + 1) 4)).length + _ ≤ _; rw [List.length_append, frB_length, beP_length _ _ (by decide)]; omega)
  go_wp2_with first
    | (go_at_call 65; go_must ((with_reducible refine hW2.mono ?_); rintro r w8 ⟨rfl, hg8⟩; have hbt8 := (let ⟨_, _, x, _⟩ := hg8; x); obtain ⟨F8, g8⟩ := g7.step hg8; have hF8 := hF7.but hbt8 hne7; have hM8 := hM7.but hbt8 hnm7; have hne8 : ¬ F8 w.heap.size := (by intro hf; have := g8.h.sort hf; rw [kd_blk hF8] at this; exact absurd this (by decide)); (have j0 : w8.cell? ⟨w.heap.size, 0, none⟩ = some (.int .i64 0) := hF8.cell 0; have j1 : w8.cell? ⟨w.heap.size, 1, none⟩ = some (.int .i64 8) := hF8.cell 1; have j2 : w8.cell? ⟨w.heap.size, 2, none⟩ = some (.int .i64 (i : Int)) := hF8.cell 2; have j3 : w8.cell? ⟨w.heap.size, 3, none⟩ = some (S d) := hF8.cell 3; have j4 : w8.cell? ⟨w.heap.size, 4, none⟩ = some (.int .i64 (p : Int)) := hF8.cell 4; have j5 : w8.cell? ⟨w.heap.size, 5, none⟩ = some (c5) := hF8.cell 5; have j6 : w8.cell? ⟨w.heap.size, 6, none⟩ = some (c6) := hF8.cell 6; have j7 : w8.cell? ⟨w.heap.size, 7, none⟩ = some (c7) := hF8.cell 7; have j8 : w8.cell? ⟨w.heap.size, 8, none⟩ = some (c8) := hF8.cell 8; have j9 : w8.cell? ⟨w.heap.size, 9, none⟩ = some (c9) := hF8.cell 9; have j10 : w8.cell? ⟨w.heap.size, 10, none⟩ = some (c10) := hF8.cell 10; have j11 : w8.cell? ⟨w.heap.size, 11, none⟩ = some (c11) := hF8.cell 11); (have o0 : w8.cell? ⟨w2.heap.size, 0, none⟩ = some (.int .i64 1) := hM8.cell 0; have o1 : w8.cell? ⟨w2.heap.size, 1, none⟩ = some (.bool false) := hM8.cell 1; have o2 : w8.cell? ⟨w2.heap.size, 2, none⟩ = some (.bool false) := hM8.cell 2; have o3 : w8.cell? ⟨w2.heap.size, 3, none⟩ = some (.int .i64 0) := hM8.cell 3; have o4 : w8.cell? ⟨w2.heap.size, 4, none⟩ = some (.bool false) := hM8.cell 4); have hTu := Turn_live (a := a) (c := c) (s := ({ s with came := s.came + (d.length : Int) } : Sp)) w8 g8.h (i : Int) hIi 1 (.inl rfl) rfl))
    | (go_at_call 116; go_must ((with_reducible refine hTu.mono ?_); rintro r w9 ⟨rfl, hg9⟩; have hbt9 := (let ⟨_, _, x, _⟩ := hg9; x); obtain ⟨F9, g9⟩ := g8.step hg9; have hF9 := hF8.but hbt9 hne8; (have k0 : w9.cell? ⟨w.heap.size, 0, none⟩ = some (.int .i64 0) := hF9.cell 0; have k1 : w9.cell? ⟨w.heap.size, 1, none⟩ = some (.int .i64 8) := hF9.cell 1; have k2 : w9.cell? ⟨w.heap.size, 2, none⟩ = some (.int .i64 (i : Int)) := hF9.cell 2; have k3 : w9.cell? ⟨w.heap.size, 3, none⟩ = some (S d) := hF9.cell 3; have k4 : w9.cell? ⟨w.heap.size, 4, none⟩ = some (.int .i64 (p : Int)) := hF9.cell 4; have k5 : w9.cell? ⟨w.heap.size, 5, none⟩ = some (c5) := hF9.cell 5; have k6 : w9.cell? ⟨w.heap.size, 6, none⟩ = some (c6) := hF9.cell 6; have k7 : w9.cell? ⟨w.heap.size, 7, none⟩ = some (c7) := hF9.cell 7; have k8 : w9.cell? ⟨w.heap.size, 8, none⟩ = some (c8) := hF9.cell 8; have k9 : w9.cell? ⟨w.heap.size, 9, none⟩ = some (c9) := hF9.cell 9; have k10 : w9.cell? ⟨w.heap.size, 10, none⟩ = some (c10) := hF9.cell 10; have k11 : w9.cell? ⟨w.heap.size, 11, none⟩ = some (c11) := hF9.cell 11); have hTe := Tell_any (h0 := .int .i64 3) (h1 := .int .i64 (i : Int)) (h2 := S []) (h3 := S []) (h4 := S []) (h5 := S []) (h6 := .slice none 0 0) (h7 := S d) (h8 := .bool false) (h9 := .int .i64 0) w9 g9.h (by intro u hu; simp only [List.mem_cons, List.not_mem_nil, or_false] at hu; rcases hu with rfl | rfl | rfl | rfl | rfl | rfl | rfl | rfl | rfl | rfl <;> rfl) (by show q.news.length ≤ _; omega)))
    | (go_at_call 139; go_must ((with_reducible refine hTe.mono ?_); rintro r w10 ⟨rfl, hg10⟩; obtain ⟨F10, g10⟩ := g9.step hg10))
  go_end0
  refine ⟨rfl, ?_⟩
  have e9 := g10.goes
  rw [hst]
  exact e9


set_option maxRecDepth 100000 in
set_option maxHeartbeats 16000000 in
theorem Data_some {F : Nat → Prop} {c5 c6 c7 c8 c9 c10 c11 : Value} (d : Bytes) (hd0 : 0 < d.length) (w : World) (h : Cw w n q F) (i : Nat) (hi0 : 0 < i) (hi : i < 2147483648) (hodd : (i : Int) % 2 = 1) {a c : List (Int × Sp)} {s : Sp} (hq : q.live = a ++ ((i : Int), s) :: c) (hst : s.st = 1) (htl : s.told = false) (hlast : ¬ q.last < i) (hl2 : q.last < 4294967296) (hdl : d.length ≤ 16384) (hwin : ((d.length : Int) : Int) ≤ q.win) (hc0 : 0 ≤ s.came) (hc1 : s.came ≤ 1000000000) (hbl : q.bytes.length ≤ 1000000) (hnl : q.news.length ≤ 1000000) :
    Calls Tryz.prog 140 #[Ptr n.c, .agg #[.int .i64 0, .int .i64 0, .int .i64 (i : Int), S d, .int .i64 0, c5, c6, c7, c8, c9, c10, c11]] w fun r w' => r = .returned (.tuple #[]) ∧ Goes w n F w' { q with bytes := q.bytes ++ frB 8 0 0 (beP d.length 4) ++ frB 8 0 i (beP d.length 4), live := a ++ ((i : Int), { s with came := s.came + (d.length : Int) }) :: c, news := q.news ++ [.int .i64 3, .int .i64 (i : Int), S [], S [], S [], S [], .slice none 0 0, S d, .bool false, .int .i64 0] } := by
  have g0 := GoesF.refl h
  have hIi : I64 (i : Int) := by constructor <;> omega
  obtain ⟨W, eW⟩ : ∃ W, W = w.alloc (.cells #[.int .i64 0, .int .i64 0, .int .i64 (i : Int), S d, .int .i64 0, c5, c6, c7, c8, c9, c10, c11] 34) := ⟨_, rfl⟩
  have hF : Blk W w.heap.size 34 #[.int .i64 0, .int .i64 0, .int .i64 (i : Int), S d, .int .i64 0, c5, c6, c7, c8, c9, c10, c11] := by rw [eW]; exact Blk.new _ _ _
  have hb : Below w.heap.size w W := by rw [eW]; exact (Below.refl _ _).alloc (Nat.le_refl _) _
  have hFlt : ∀ g, F g → g < w.heap.size := fun g hg => h.lt hg
  (have f0 : W.cell? ⟨w.heap.size, 0, none⟩ = some (.int .i64 0) := hF.cell 0; have f1 : W.cell? ⟨w.heap.size, 1, none⟩ = some (.int .i64 0) := hF.cell 1; have f2 : W.cell? ⟨w.heap.size, 2, none⟩ = some (.int .i64 (i : Int)) := hF.cell 2; have f3 : W.cell? ⟨w.heap.size, 3, none⟩ = some (S d) := hF.cell 3; have f4 : W.cell? ⟨w.heap.size, 4, none⟩ = some (.int .i64 0) := hF.cell 4; have f5 : W.cell? ⟨w.heap.size, 5, none⟩ = some (c5) := hF.cell 5; have f6 : W.cell? ⟨w.heap.size, 6, none⟩ = some (c6) := hF.cell 6; have f7 : W.cell? ⟨w.heap.size, 7, none⟩ = some (c7) := hF.cell 7; have f8 : W.cell? ⟨w.heap.size, 8, none⟩ = some (c8) := hF.cell 8; have f9 : W.cell? ⟨w.heap.size, 9, none⟩ = some (c9) := hF.cell 9; have f10 : W.cell? ⟨w.heap.size, 10, none⟩ = some (c10) := hF.cell 10; have f11 : W.cell? ⟨w.heap.size, 11, none⟩ = some (c11) := hF.cell 11)
  have gW := g0.on hb
  have hSt : Calls Tryz.prog 30 #[Ptr n.c, .int .i64 (i : Int)] W (fun e w' => e = .returned (.int .i64 1) ∧ w' = W) := by
    have := State_live W gW.h (i : Int) s (by rw [hq]; simp) (by omega) hlast hodd hl2
    rwa [hst] at this
  have hCm := fun w => (show Calls Tryz.prog 188 #[.int .i64 1, .int .i64 0, .bool false] w (fun r w' => r = .returned (.agg #[.int .i64 1, .bool false, .bool false, .int .i64 0, .bool false]) ∧ Below w.heap.size w w') from come_1_0_false w)
  have b1 : bits .and .i64 0 8 = 0 := by decide
  have b2 : bits .and .i64 0 1 = 0 := by decide
  have eN : ((d.length : Nat) : Int) = (d.length : Int) := by simp
  go_enter Tryz.func140, Tryz.ntmps140
  go_upto_region 1 with fail
  rw [← eW]
  clear eW
  go_upto_region 6 with first
    | (go_at_call 30; go_must ((with_reducible refine hSt.mono ?_); rintro r w1 ⟨rfl, e1⟩; have e2 := e1.symm; subst e2))
    | (go_at_call 188; go_must ((with_reducible refine (hCm _).mono ?_); rintro r w2 ⟨rfl, hb2⟩))
  have hz2 : w.heap.size < w2.heap.size := Nat.lt_of_lt_of_le hF.lt hb2.size
  refine wp_cut (R := fun X => Blk X w.heap.size 34 #[.int .i64 0, .int .i64 0, .int .i64 (i : Int), S d, .int .i64 0, c5, c6, c7, c8, c9, c10, c11] ∧ Blk X w2.heap.size 267 #[.int .i64 1, .bool false, .bool false, .int .i64 0, .bool false] ∧ GoesF w n F X q F) ⟨(hF.on hb2).alloc _, Blk.new _ _ _, (gW.on hb2).on ((Below.refl _ _).alloc (Nat.le_refl _) _)⟩ ?_
  clear f0 f1 f2 f3 f4 f5 f6 f7 f8 f9 f10 f11 hF hb gW hSt hb2
  rintro W3 ⟨hF3, hM3, g3⟩
  (have m0 : W3.cell? ⟨w2.heap.size, 0, none⟩ = some (.int .i64 1) := hM3.cell 0; have m1 : W3.cell? ⟨w2.heap.size, 1, none⟩ = some (.bool false) := hM3.cell 1; have m2 : W3.cell? ⟨w2.heap.size, 2, none⟩ = some (.bool false) := hM3.cell 2; have m3 : W3.cell? ⟨w2.heap.size, 3, none⟩ = some (.int .i64 0) := hM3.cell 3; have m4 : W3.cell? ⟨w2.heap.size, 4, none⟩ = some (.bool false) := hM3.cell 4)
  have hW1 := Write_any (c0 := .int .i64 8) (c1 := .int .i64 0) (c2 := .int .i64 0) (c3 := S []) (c4 := .int .i64 0) (c5 := .slice none 0 0) (c6 := .int .i64 0) (c7 := .int .i64 0) (c8 := .int .i64 (d.length : Int)) (c9 := .int .i64 0) (c10 := .int .i64 0) (c11 := .bool false) W3 g3.h (frB 8 0 0 (beP d.length 4)) (fun w1 _ => by have hw := pPut_Win 0 0 d.length (by decide) (by decide) (by omega) w1; exact hw) (by rw [frB_length, beP_length _ _ (by decide)]; omega)
  have hn0 : decide ((0 : Int) < (d.length : Int)) = true := by simp; omega
  have hn0' : (0 : Int) < (d.length : Int) := by omega
  have EN := Lib.hid eN
  clear eN
  go_upto_region 12 with (go_at_call 65; go_must ((with_reducible refine hW1.mono ?_); rintro r w4 ⟨rfl, hg4⟩; have hbt4 := (let ⟨_, _, x, _⟩ := hg4; x); obtain ⟨F4, g4⟩ := g3.step hg4; have hF4 := hF3.but hbt4 (fun hf => by have := hFlt _ hf; omega); have hM4 := hM3.but hbt4 (fun hf => by have := hFlt _ hf; omega); (have o0 : w4.cell? ⟨w2.heap.size, 0, none⟩ = some (.int .i64 1) := hM4.cell 0; have o1 : w4.cell? ⟨w2.heap.size, 1, none⟩ = some (.bool false) := hM4.cell 1; have o2 : w4.cell? ⟨w2.heap.size, 2, none⟩ = some (.bool false) := hM4.cell 2; have o3 : w4.cell? ⟨w2.heap.size, 3, none⟩ = some (.int .i64 0) := hM4.cell 3; have o4 : w4.cell? ⟨w2.heap.size, 4, none⟩ = some (.bool false) := hM4.cell 4)))
  refine wp_cut (R := fun X => Blk X w.heap.size 34 #[.int .i64 0, .int .i64 0, .int .i64 (i : Int), S d, .int .i64 0, c5, c6, c7, c8, c9, c10, c11] ∧ Blk X w2.heap.size 267 #[.int .i64 1, .bool false, .bool false, .int .i64 0, .bool false] ∧ ∃ F4, GoesF w n F X { q with bytes := q.bytes ++ frB 8 0 0 (beP d.length 4) } F4) ⟨hF4, hM4, F4, g4⟩ ?_
  clear m0 m1 m2 m3 m4 hF3 hM3 g3 hF4 hM4 g4 hg4 hbt4 F4 hW1
  rintro W4 ⟨hF4, hM4, F4, g4⟩
  obtain ⟨m, hx4, rfl⟩ := g4.h
  (have f0 : W4.cell? ⟨w.heap.size, 0, none⟩ = some (.int .i64 0) := hF4.cell 0; have f1 : W4.cell? ⟨w.heap.size, 1, none⟩ = some (.int .i64 0) := hF4.cell 1; have f2 : W4.cell? ⟨w.heap.size, 2, none⟩ = some (.int .i64 (i : Int)) := hF4.cell 2; have f3 : W4.cell? ⟨w.heap.size, 3, none⟩ = some (S d) := hF4.cell 3; have f4 : W4.cell? ⟨w.heap.size, 4, none⟩ = some (.int .i64 0) := hF4.cell 4; have f5 : W4.cell? ⟨w.heap.size, 5, none⟩ = some (c5) := hF4.cell 5; have f6 : W4.cell? ⟨w.heap.size, 6, none⟩ = some (c6) := hF4.cell 6; have f7 : W4.cell? ⟨w.heap.size, 7, none⟩ = some (c7) := hF4.cell 7; have f8 : W4.cell? ⟨w.heap.size, 8, none⟩ = some (c8) := hF4.cell 8; have f9 : W4.cell? ⟨w.heap.size, 9, none⟩ = some (c9) := hF4.cell 9; have f10 : W4.cell? ⟨w.heap.size, 10, none⟩ = some (c10) := hF4.cell 10; have f11 : W4.cell? ⟨w.heap.size, 11, none⟩ = some (c11) := hF4.cell 11)
  have y9 : W4.cell? ⟨n.c, 9, none⟩ = some (.map (some n.lm)) := hx4.blk.cell 9
  have hmem : ((i : Int), s) ∈ q.live := by rw [hq]; simp
  have hk := (hx4.live.inn hIi (List.mem_map.2 ⟨_, hmem, rfl⟩)).2
  have hkd := (hx4.drew.live.inn hIi (List.mem_map.2 ⟨_, hmem, rfl⟩)).2
  go_region
  go_upto_region 13 with fail
  refine wp_cut (R := fun X => Blk X w.heap.size 34 #[.int .i64 0, .int .i64 0, .int .i64 (i : Int), S d, .int .i64 0, c5, c6, c7, c8, c9, c10, c11] ∧ Blk X w2.heap.size 267 #[.int .i64 1, .bool false, .bool false, .int .i64 0, .bool false] ∧ Cx X n m { q with bytes := q.bytes ++ frB 8 0 0 (beP d.length 4) } ∧ GoesF w n F X { q with bytes := q.bytes ++ frB 8 0 0 (beP d.length 4) } (Foot n m { q with bytes := q.bytes ++ frB 8 0 0 (beP d.length 4) })) ⟨hF4.drew, hM4.drew, hx4.drew, g4.on (Below.refl _ _).drew⟩ ?_
  clear f0 f1 f2 f3 f4 f5 f6 f7 f8 f9 f10 f11 y9 hk hkd hF4 hM4 hx4 g4 W4
  rintro W5 ⟨hF5, hM5, hx5, g5⟩
  (have f0 : W5.cell? ⟨w.heap.size, 0, none⟩ = some (.int .i64 0) := hF5.cell 0; have f1 : W5.cell? ⟨w.heap.size, 1, none⟩ = some (.int .i64 0) := hF5.cell 1; have f2 : W5.cell? ⟨w.heap.size, 2, none⟩ = some (.int .i64 (i : Int)) := hF5.cell 2; have f3 : W5.cell? ⟨w.heap.size, 3, none⟩ = some (S d) := hF5.cell 3; have f4 : W5.cell? ⟨w.heap.size, 4, none⟩ = some (.int .i64 0) := hF5.cell 4; have f5 : W5.cell? ⟨w.heap.size, 5, none⟩ = some (c5) := hF5.cell 5; have f6 : W5.cell? ⟨w.heap.size, 6, none⟩ = some (c6) := hF5.cell 6; have f7 : W5.cell? ⟨w.heap.size, 7, none⟩ = some (c7) := hF5.cell 7; have f8 : W5.cell? ⟨w.heap.size, 8, none⟩ = some (c8) := hF5.cell 8; have f9 : W5.cell? ⟨w.heap.size, 9, none⟩ = some (c9) := hF5.cell 9; have f10 : W5.cell? ⟨w.heap.size, 10, none⟩ = some (c10) := hF5.cell 10; have f11 : W5.cell? ⟨w.heap.size, 11, none⟩ = some (c11) := hF5.cell 11)
  have hS5 := hx5.side _ hmem
  have s0 : W5.cell? ⟨m.sb i, 0, none⟩ = some (.int .i64 s.came) := hS5.cell 0
  have v0 := hS5.free 0
  have hwr : IntKind.i64.wrap (s.came + (d.length : Int)) = s.came + (d.length : Int) := IntWalk.i64_in _ (by omega)
  have hfl5 : w.heap.size ≠ m.sb i := fun e => by
    have k1 := kd_blk hF5
    have k2 := kd_blk hS5
    rw [e] at k1
    rw [k1] at k2
    exact absurd k2 (by decide)
  have hml5 : w2.heap.size ≠ m.sb i := fun e => by
    have k1 := kd_blk hM5
    have k2 := kd_blk hS5
    rw [e] at k1
    rw [k1] at k2
    exact absurd k2 (by decide)
  go_region
  go_upto_region 14 with fail
  have hbt : But (fun g => g = m.sb i) W5 ((W5.setCell ⟨m.sb i, 0, none⟩ (.int .i64 (s.came + (d.length : Int)))).drew) := ((But.refl (fun g => g = m.sb i) W5).setCell (p := ⟨m.sb i, 0, none⟩) (.inl rfl) _).drew
  obtain ⟨hx6, k6⟩ := hx5.goesS hq { s with came := s.came + (d.length : Int) } hbt ((hS5.set 0 (.int .i64 (s.came + (d.length : Int)))).drew) rfl
  refine wp_cut (R := fun X => Blk X w.heap.size 34 #[.int .i64 0, .int .i64 0, .int .i64 (i : Int), S d, .int .i64 0, c5, c6, c7, c8, c9, c10, c11] ∧ Blk X w2.heap.size 267 #[.int .i64 1, .bool false, .bool false, .int .i64 0, .bool false] ∧ Cx X n m { q with bytes := q.bytes ++ frB 8 0 0 (beP d.length 4), live := a ++ ((i : Int), { s with came := s.came + (d.length : Int) }) :: c } ∧ GoesF w n F X { q with bytes := q.bytes ++ frB 8 0 0 (beP d.length 4), live := a ++ ((i : Int), { s with came := s.came + (d.length : Int) }) :: c } (Foot n m { q with bytes := q.bytes ++ frB 8 0 0 (beP d.length 4), live := a ++ ((i : Int), { s with came := s.came + (d.length : Int) }) :: c })) ⟨(hF5.other (p := ⟨m.sb i, 0, none⟩) hfl5 _).drew, (hM5.other (p := ⟨m.sb i, 0, none⟩) hml5 _).drew, hx6, g5.comp k6⟩ ?_
  clear f0 f1 f2 f3 f4 f5 f6 f7 f8 f9 f10 f11 s0 v0 hF5 hM5 hx5 g5 hS5 hfl5 hml5 hbt hx6 k6 W5
  rintro W6 ⟨hF6, hM6, hx6, g6⟩
  (have f0 : W6.cell? ⟨w.heap.size, 0, none⟩ = some (.int .i64 0) := hF6.cell 0; have f1 : W6.cell? ⟨w.heap.size, 1, none⟩ = some (.int .i64 0) := hF6.cell 1; have f2 : W6.cell? ⟨w.heap.size, 2, none⟩ = some (.int .i64 (i : Int)) := hF6.cell 2; have f3 : W6.cell? ⟨w.heap.size, 3, none⟩ = some (S d) := hF6.cell 3; have f4 : W6.cell? ⟨w.heap.size, 4, none⟩ = some (.int .i64 0) := hF6.cell 4; have f5 : W6.cell? ⟨w.heap.size, 5, none⟩ = some (c5) := hF6.cell 5; have f6 : W6.cell? ⟨w.heap.size, 6, none⟩ = some (c6) := hF6.cell 6; have f7 : W6.cell? ⟨w.heap.size, 7, none⟩ = some (c7) := hF6.cell 7; have f8 : W6.cell? ⟨w.heap.size, 8, none⟩ = some (c8) := hF6.cell 8; have f9 : W6.cell? ⟨w.heap.size, 9, none⟩ = some (c9) := hF6.cell 9; have f10 : W6.cell? ⟨w.heap.size, 10, none⟩ = some (c10) := hF6.cell 10; have f11 : W6.cell? ⟨w.heap.size, 11, none⟩ = some (c11) := hF6.cell 11)
  have y1 : W6.cell? ⟨n.c, 1, none⟩ = some (.int .i64 q.win) := hx6.blk.cell 1
  have hS6 := hx6.side ((i : Int), { s with came := s.came + (d.length : Int) }) (by simp)
  have s2 : W6.cell? ⟨m.sb i, 2, none⟩ = some (.bool false) := by rw [← htl]; exact hS6.cell 2
  have hw1 : decide (q.win < (d.length : Int)) = false := by simp; omega
  have hw2 : ¬ q.win < (d.length : Int) := by omega
  go_upto_region 16 with fail
  go_region
  go_upto_region 18 with fail
  refine wp_cut (R := fun X => Blk X w.heap.size 34 #[.int .i64 0, .int .i64 0, .int .i64 (i : Int), S d, .int .i64 0, c5, c6, c7, c8, c9, c10, c11] ∧ Blk X w2.heap.size 267 #[.int .i64 1, .bool false, .bool false, .int .i64 0, .bool false] ∧ Cx X n m { q with bytes := q.bytes ++ frB 8 0 0 (beP d.length 4), live := a ++ ((i : Int), { s with came := s.came + (d.length : Int) }) :: c } ∧ GoesF w n F X { q with bytes := q.bytes ++ frB 8 0 0 (beP d.length 4), live := a ++ ((i : Int), { s with came := s.came + (d.length : Int) }) :: c } (Foot n m { q with bytes := q.bytes ++ frB 8 0 0 (beP d.length 4), live := a ++ ((i : Int), { s with came := s.came + (d.length : Int) }) :: c })) ⟨hF6.drew, hM6.drew, hx6.drew, g6.on (Below.refl _ _).drew⟩ ?_
  clear f0 f1 f2 f3 f4 f5 f6 f7 f8 f9 f10 f11 y1 s2 hF6 hM6 hx6 g6 hS6 hw1 hw2 W6
  rintro W7 ⟨hF7, hM7, hx7, g7⟩
  (have f0 : W7.cell? ⟨w.heap.size, 0, none⟩ = some (.int .i64 0) := hF7.cell 0; have f1 : W7.cell? ⟨w.heap.size, 1, none⟩ = some (.int .i64 0) := hF7.cell 1; have f2 : W7.cell? ⟨w.heap.size, 2, none⟩ = some (.int .i64 (i : Int)) := hF7.cell 2; have f3 : W7.cell? ⟨w.heap.size, 3, none⟩ = some (S d) := hF7.cell 3; have f4 : W7.cell? ⟨w.heap.size, 4, none⟩ = some (.int .i64 0) := hF7.cell 4; have f5 : W7.cell? ⟨w.heap.size, 5, none⟩ = some (c5) := hF7.cell 5; have f6 : W7.cell? ⟨w.heap.size, 6, none⟩ = some (c6) := hF7.cell 6; have f7 : W7.cell? ⟨w.heap.size, 7, none⟩ = some (c7) := hF7.cell 7; have f8 : W7.cell? ⟨w.heap.size, 8, none⟩ = some (c8) := hF7.cell 8; have f9 : W7.cell? ⟨w.heap.size, 9, none⟩ = some (c9) := hF7.cell 9; have f10 : W7.cell? ⟨w.heap.size, 10, none⟩ = some (c10) := hF7.cell 10; have f11 : W7.cell? ⟨w.heap.size, 11, none⟩ = some (c11) := hF7.cell 11)
  (have m0 : W7.cell? ⟨w2.heap.size, 0, none⟩ = some (.int .i64 1) := hM7.cell 0; have m1 : W7.cell? ⟨w2.heap.size, 1, none⟩ = some (.bool false) := hM7.cell 1; have m2 : W7.cell? ⟨w2.heap.size, 2, none⟩ = some (.bool false) := hM7.cell 2; have m3 : W7.cell? ⟨w2.heap.size, 3, none⟩ = some (.int .i64 0) := hM7.cell 3; have m4 : W7.cell? ⟨w2.heap.size, 4, none⟩ = some (.bool false) := hM7.cell 4)
  have hFo7 : ∀ g, Foot n m { q with bytes := q.bytes ++ frB 8 0 0 (beP d.length 4), live := a ++ ((i : Int), { s with came := s.came + (d.length : Int) }) :: c } g → F g ∨ w.heap.size ≤ g := g7.s
  have hne7 : ¬ Foot n m { q with bytes := q.bytes ++ frB 8 0 0 (beP d.length 4), live := a ++ ((i : Int), { s with came := s.came + (d.length : Int) }) :: c } w.heap.size := fun hf => by
    have := (show Cw W7 n { q with bytes := q.bytes ++ frB 8 0 0 (beP d.length 4), live := a ++ ((i : Int), { s with came := s.came + (d.length : Int) }) :: c } (Foot n m { q with bytes := q.bytes ++ frB 8 0 0 (beP d.length 4), live := a ++ ((i : Int), { s with came := s.came + (d.length : Int) }) :: c }) from ⟨m, hx7, rfl⟩).sort hf
    rw [kd_blk hF7] at this
    exact absurd this (by decide)
  have hnm7 : ¬ Foot n m { q with bytes := q.bytes ++ frB 8 0 0 (beP d.length 4), live := a ++ ((i : Int), { s with came := s.came + (d.length : Int) }) :: c } w2.heap.size := fun hf => by
    have := (show Cw W7 n { q with bytes := q.bytes ++ frB 8 0 0 (beP d.length 4), live := a ++ ((i : Int), { s with came := s.came + (d.length : Int) }) :: c } (Foot n m { q with bytes := q.bytes ++ frB 8 0 0 (beP d.length 4), live := a ++ ((i : Int), { s with came := s.came + (d.length : Int) }) :: c }) from ⟨m, hx7, rfl⟩).sort hf
    rw [kd_blk hM7] at this
    exact absurd this (by decide)
  have hW2 := Write_any (c0 := .int .i64 8) (c1 := .int .i64 0) (c2 := .int .i64 (i : Int)) (c3 := S []) (c4 := .int .i64 0) (c5 := .slice none 0 0) (c6 := .int .i64 0) (c7 := .int .i64 0) (c8 := .int .i64 (d.length : Int)) (c9 := .int .i64 0) (c10 := .int .i64 0) (c11 := .bool false) W7 g7.h (frB 8 0 i (beP d.length 4)) (fun w1 _ => by have hw := pPut_Win 0 i d.length (by decide) hi (by omega) w1; exact hw) (by rw [frB_length, beP_length _ _ (by decide)]; show (q.bytes ++ frB 8 0 0 (beP d.length 4)).length + _ ≤ _; rw [List.length_append, frB_length, beP_length _ _ (by decide)]; omega)
  go_wp2_with first
    | (go_at_call 65; go_must ((with_reducible refine hW2.mono ?_); rintro r w8 ⟨rfl, hg8⟩; have hbt8 := (let ⟨_, _, x, _⟩ := hg8; x); obtain ⟨F8, g8⟩ := g7.step hg8; have hF8 := hF7.but hbt8 hne7; have hM8 := hM7.but hbt8 hnm7; have hne8 : ¬ F8 w.heap.size := (by intro hf; have := g8.h.sort hf; rw [kd_blk hF8] at this; exact absurd this (by decide)); (have j0 : w8.cell? ⟨w.heap.size, 0, none⟩ = some (.int .i64 0) := hF8.cell 0; have j1 : w8.cell? ⟨w.heap.size, 1, none⟩ = some (.int .i64 0) := hF8.cell 1; have j2 : w8.cell? ⟨w.heap.size, 2, none⟩ = some (.int .i64 (i : Int)) := hF8.cell 2; have j3 : w8.cell? ⟨w.heap.size, 3, none⟩ = some (S d) := hF8.cell 3; have j4 : w8.cell? ⟨w.heap.size, 4, none⟩ = some (.int .i64 0) := hF8.cell 4; have j5 : w8.cell? ⟨w.heap.size, 5, none⟩ = some (c5) := hF8.cell 5; have j6 : w8.cell? ⟨w.heap.size, 6, none⟩ = some (c6) := hF8.cell 6; have j7 : w8.cell? ⟨w.heap.size, 7, none⟩ = some (c7) := hF8.cell 7; have j8 : w8.cell? ⟨w.heap.size, 8, none⟩ = some (c8) := hF8.cell 8; have j9 : w8.cell? ⟨w.heap.size, 9, none⟩ = some (c9) := hF8.cell 9; have j10 : w8.cell? ⟨w.heap.size, 10, none⟩ = some (c10) := hF8.cell 10; have j11 : w8.cell? ⟨w.heap.size, 11, none⟩ = some (c11) := hF8.cell 11); (have o0 : w8.cell? ⟨w2.heap.size, 0, none⟩ = some (.int .i64 1) := hM8.cell 0; have o1 : w8.cell? ⟨w2.heap.size, 1, none⟩ = some (.bool false) := hM8.cell 1; have o2 : w8.cell? ⟨w2.heap.size, 2, none⟩ = some (.bool false) := hM8.cell 2; have o3 : w8.cell? ⟨w2.heap.size, 3, none⟩ = some (.int .i64 0) := hM8.cell 3; have o4 : w8.cell? ⟨w2.heap.size, 4, none⟩ = some (.bool false) := hM8.cell 4); have hTu := Turn_live (a := a) (c := c) (s := ({ s with came := s.came + (d.length : Int) } : Sp)) w8 g8.h (i : Int) hIi 1 (.inl rfl) rfl))
    | (go_at_call 116; go_must ((with_reducible refine hTu.mono ?_); rintro r w9 ⟨rfl, hg9⟩; have hbt9 := (let ⟨_, _, x, _⟩ := hg9; x); obtain ⟨F9, g9⟩ := g8.step hg9; have hF9 := hF8.but hbt9 hne8; (have k0 : w9.cell? ⟨w.heap.size, 0, none⟩ = some (.int .i64 0) := hF9.cell 0; have k1 : w9.cell? ⟨w.heap.size, 1, none⟩ = some (.int .i64 0) := hF9.cell 1; have k2 : w9.cell? ⟨w.heap.size, 2, none⟩ = some (.int .i64 (i : Int)) := hF9.cell 2; have k3 : w9.cell? ⟨w.heap.size, 3, none⟩ = some (S d) := hF9.cell 3; have k4 : w9.cell? ⟨w.heap.size, 4, none⟩ = some (.int .i64 0) := hF9.cell 4; have k5 : w9.cell? ⟨w.heap.size, 5, none⟩ = some (c5) := hF9.cell 5; have k6 : w9.cell? ⟨w.heap.size, 6, none⟩ = some (c6) := hF9.cell 6; have k7 : w9.cell? ⟨w.heap.size, 7, none⟩ = some (c7) := hF9.cell 7; have k8 : w9.cell? ⟨w.heap.size, 8, none⟩ = some (c8) := hF9.cell 8; have k9 : w9.cell? ⟨w.heap.size, 9, none⟩ = some (c9) := hF9.cell 9; have k10 : w9.cell? ⟨w.heap.size, 10, none⟩ = some (c10) := hF9.cell 10; have k11 : w9.cell? ⟨w.heap.size, 11, none⟩ = some (c11) := hF9.cell 11); have hTe := Tell_any (h0 := .int .i64 3) (h1 := .int .i64 (i : Int)) (h2 := S []) (h3 := S []) (h4 := S []) (h5 := S []) (h6 := .slice none 0 0) (h7 := S d) (h8 := .bool false) (h9 := .int .i64 0) w9 g9.h (by intro u hu; simp only [List.mem_cons, List.not_mem_nil, or_false] at hu; rcases hu with rfl | rfl | rfl | rfl | rfl | rfl | rfl | rfl | rfl | rfl <;> rfl) (by show q.news.length ≤ _; omega)))
    | (go_at_call 139; go_must ((with_reducible refine hTe.mono ?_); rintro r w10 ⟨rfl, hg10⟩; obtain ⟨F10, g10⟩ := g9.step hg10))
  go_end0
  refine ⟨rfl, ?_⟩
  have e9 := g10.goes
  rw [hst]
  exact e9


set_option maxRecDepth 100000 in
set_option maxHeartbeats 16000000 in
theorem Data_none {F : Nat → Prop} {c5 c6 c7 c8 c9 c10 c11 : Value} (d : Bytes) (hd0 : d = []) (w : World) (h : Cw w n q F) (i : Nat) (hi0 : 0 < i) (hi : i < 2147483648) (hodd : (i : Int) % 2 = 1) {a c : List (Int × Sp)} {s : Sp} (hq : q.live = a ++ ((i : Int), s) :: c) (hst : s.st = 1) (htl : s.told = false) (hlast : ¬ q.last < i) (hl2 : q.last < 4294967296) (hdl : d.length ≤ 16384) (hwin : 0 ≤ q.win) (hc0 : 0 ≤ s.came) (hc1 : s.came ≤ 1000000000) (hbl : q.bytes.length ≤ 1000000) (hnl : q.news.length ≤ 1000000) :
    Calls Tryz.prog 140 #[Ptr n.c, .agg #[.int .i64 0, .int .i64 0, .int .i64 (i : Int), S [], .int .i64 0, c5, c6, c7, c8, c9, c10, c11]] w fun r w' => r = .returned (.tuple #[]) ∧ Goes w n F w' { q with live := a ++ ((i : Int), s) :: c, news := q.news ++ [.int .i64 3, .int .i64 (i : Int), S [], S [], S [], S [], .slice none 0 0, S [], .bool false, .int .i64 0] } := by
  subst hd0
  have g0 := GoesF.refl h
  have hIi : I64 (i : Int) := by constructor <;> omega
  obtain ⟨W, eW⟩ : ∃ W, W = w.alloc (.cells #[.int .i64 0, .int .i64 0, .int .i64 (i : Int), S [], .int .i64 0, c5, c6, c7, c8, c9, c10, c11] 34) := ⟨_, rfl⟩
  have hF : Blk W w.heap.size 34 #[.int .i64 0, .int .i64 0, .int .i64 (i : Int), S [], .int .i64 0, c5, c6, c7, c8, c9, c10, c11] := by rw [eW]; exact Blk.new _ _ _
  have hb : Below w.heap.size w W := by rw [eW]; exact (Below.refl _ _).alloc (Nat.le_refl _) _
  have hFlt : ∀ g, F g → g < w.heap.size := fun g hg => h.lt hg
  (have f0 : W.cell? ⟨w.heap.size, 0, none⟩ = some (.int .i64 0) := hF.cell 0; have f1 : W.cell? ⟨w.heap.size, 1, none⟩ = some (.int .i64 0) := hF.cell 1; have f2 : W.cell? ⟨w.heap.size, 2, none⟩ = some (.int .i64 (i : Int)) := hF.cell 2; have f3 : W.cell? ⟨w.heap.size, 3, none⟩ = some (S []) := hF.cell 3; have f4 : W.cell? ⟨w.heap.size, 4, none⟩ = some (.int .i64 0) := hF.cell 4; have f5 : W.cell? ⟨w.heap.size, 5, none⟩ = some (c5) := hF.cell 5; have f6 : W.cell? ⟨w.heap.size, 6, none⟩ = some (c6) := hF.cell 6; have f7 : W.cell? ⟨w.heap.size, 7, none⟩ = some (c7) := hF.cell 7; have f8 : W.cell? ⟨w.heap.size, 8, none⟩ = some (c8) := hF.cell 8; have f9 : W.cell? ⟨w.heap.size, 9, none⟩ = some (c9) := hF.cell 9; have f10 : W.cell? ⟨w.heap.size, 10, none⟩ = some (c10) := hF.cell 10; have f11 : W.cell? ⟨w.heap.size, 11, none⟩ = some (c11) := hF.cell 11)
  have gW := g0.on hb
  have hSt : Calls Tryz.prog 30 #[Ptr n.c, .int .i64 (i : Int)] W (fun e w' => e = .returned (.int .i64 1) ∧ w' = W) := by
    have := State_live W gW.h (i : Int) s (by rw [hq]; simp) (by omega) hlast hodd hl2
    rwa [hst] at this
  have hCm := fun w => (show Calls Tryz.prog 188 #[.int .i64 1, .int .i64 0, .bool false] w (fun r w' => r = .returned (.agg #[.int .i64 1, .bool false, .bool false, .int .i64 0, .bool false]) ∧ Below w.heap.size w w') from come_1_0_false w)
  have b1 : bits .and .i64 0 8 = 0 := by decide
  have b2 : bits .and .i64 0 1 = 0 := by decide
  go_enter Tryz.func140, Tryz.ntmps140
  go_upto_region 1 with fail
  rw [← eW]
  clear eW
  go_upto_region 6 with first
    | (go_at_call 30; go_must ((with_reducible refine hSt.mono ?_); rintro r w1 ⟨rfl, e1⟩; have e2 := e1.symm; subst e2))
    | (go_at_call 188; go_must ((with_reducible refine (hCm _).mono ?_); rintro r w2 ⟨rfl, hb2⟩))
  have hz2 : w.heap.size < w2.heap.size := Nat.lt_of_lt_of_le hF.lt hb2.size
  refine wp_cut (R := fun X => Blk X w.heap.size 34 #[.int .i64 0, .int .i64 0, .int .i64 (i : Int), S [], .int .i64 0, c5, c6, c7, c8, c9, c10, c11] ∧ Blk X w2.heap.size 267 #[.int .i64 1, .bool false, .bool false, .int .i64 0, .bool false] ∧ GoesF w n F X q F) ⟨(hF.on hb2).alloc _, Blk.new _ _ _, (gW.on hb2).on ((Below.refl _ _).alloc (Nat.le_refl _) _)⟩ ?_
  clear f0 f1 f2 f3 f4 f5 f6 f7 f8 f9 f10 f11 hF hb gW hSt hb2
  rintro W3 ⟨hF3, hM3, g3⟩
  (have m0 : W3.cell? ⟨w2.heap.size, 0, none⟩ = some (.int .i64 1) := hM3.cell 0; have m1 : W3.cell? ⟨w2.heap.size, 1, none⟩ = some (.bool false) := hM3.cell 1; have m2 : W3.cell? ⟨w2.heap.size, 2, none⟩ = some (.bool false) := hM3.cell 2; have m3 : W3.cell? ⟨w2.heap.size, 3, none⟩ = some (.int .i64 0) := hM3.cell 3; have m4 : W3.cell? ⟨w2.heap.size, 4, none⟩ = some (.bool false) := hM3.cell 4)
  go_upto_region 12 with fail
  refine wp_cut (R := fun X => Blk X w.heap.size 34 #[.int .i64 0, .int .i64 0, .int .i64 (i : Int), S [], .int .i64 0, c5, c6, c7, c8, c9, c10, c11] ∧ Blk X w2.heap.size 267 #[.int .i64 1, .bool false, .bool false, .int .i64 0, .bool false] ∧ ∃ F4, GoesF w n F X q F4) ⟨hF3, hM3, F, g3⟩ ?_
  clear m0 m1 m2 m3 m4 hF3 hM3 g3
  rintro W4 ⟨hF4, hM4, F4, g4⟩
  obtain ⟨m, hx4, rfl⟩ := g4.h
  (have f0 : W4.cell? ⟨w.heap.size, 0, none⟩ = some (.int .i64 0) := hF4.cell 0; have f1 : W4.cell? ⟨w.heap.size, 1, none⟩ = some (.int .i64 0) := hF4.cell 1; have f2 : W4.cell? ⟨w.heap.size, 2, none⟩ = some (.int .i64 (i : Int)) := hF4.cell 2; have f3 : W4.cell? ⟨w.heap.size, 3, none⟩ = some (S []) := hF4.cell 3; have f4 : W4.cell? ⟨w.heap.size, 4, none⟩ = some (.int .i64 0) := hF4.cell 4; have f5 : W4.cell? ⟨w.heap.size, 5, none⟩ = some (c5) := hF4.cell 5; have f6 : W4.cell? ⟨w.heap.size, 6, none⟩ = some (c6) := hF4.cell 6; have f7 : W4.cell? ⟨w.heap.size, 7, none⟩ = some (c7) := hF4.cell 7; have f8 : W4.cell? ⟨w.heap.size, 8, none⟩ = some (c8) := hF4.cell 8; have f9 : W4.cell? ⟨w.heap.size, 9, none⟩ = some (c9) := hF4.cell 9; have f10 : W4.cell? ⟨w.heap.size, 10, none⟩ = some (c10) := hF4.cell 10; have f11 : W4.cell? ⟨w.heap.size, 11, none⟩ = some (c11) := hF4.cell 11)
  have y9 : W4.cell? ⟨n.c, 9, none⟩ = some (.map (some n.lm)) := hx4.blk.cell 9
  have hmem : ((i : Int), s) ∈ q.live := by rw [hq]; simp
  have hk := (hx4.live.inn hIi (List.mem_map.2 ⟨_, hmem, rfl⟩)).2
  have hkd := (hx4.drew.live.inn hIi (List.mem_map.2 ⟨_, hmem, rfl⟩)).2
  go_region
  go_upto_region 13 with fail
  refine wp_cut (R := fun X => Blk X w.heap.size 34 #[.int .i64 0, .int .i64 0, .int .i64 (i : Int), S [], .int .i64 0, c5, c6, c7, c8, c9, c10, c11] ∧ Blk X w2.heap.size 267 #[.int .i64 1, .bool false, .bool false, .int .i64 0, .bool false] ∧ Cx X n m q ∧ GoesF w n F X q (Foot n m q)) ⟨hF4.drew, hM4.drew, hx4.drew, g4.on (Below.refl _ _).drew⟩ ?_
  clear f0 f1 f2 f3 f4 f5 f6 f7 f8 f9 f10 f11 y9 hk hkd hF4 hM4 hx4 g4 W4
  rintro W5 ⟨hF5, hM5, hx5, g5⟩
  (have f0 : W5.cell? ⟨w.heap.size, 0, none⟩ = some (.int .i64 0) := hF5.cell 0; have f1 : W5.cell? ⟨w.heap.size, 1, none⟩ = some (.int .i64 0) := hF5.cell 1; have f2 : W5.cell? ⟨w.heap.size, 2, none⟩ = some (.int .i64 (i : Int)) := hF5.cell 2; have f3 : W5.cell? ⟨w.heap.size, 3, none⟩ = some (S []) := hF5.cell 3; have f4 : W5.cell? ⟨w.heap.size, 4, none⟩ = some (.int .i64 0) := hF5.cell 4; have f5 : W5.cell? ⟨w.heap.size, 5, none⟩ = some (c5) := hF5.cell 5; have f6 : W5.cell? ⟨w.heap.size, 6, none⟩ = some (c6) := hF5.cell 6; have f7 : W5.cell? ⟨w.heap.size, 7, none⟩ = some (c7) := hF5.cell 7; have f8 : W5.cell? ⟨w.heap.size, 8, none⟩ = some (c8) := hF5.cell 8; have f9 : W5.cell? ⟨w.heap.size, 9, none⟩ = some (c9) := hF5.cell 9; have f10 : W5.cell? ⟨w.heap.size, 10, none⟩ = some (c10) := hF5.cell 10; have f11 : W5.cell? ⟨w.heap.size, 11, none⟩ = some (c11) := hF5.cell 11)
  have hS5 := hx5.side _ hmem
  have s0 : W5.cell? ⟨m.sb i, 0, none⟩ = some (.int .i64 s.came) := hS5.cell 0
  have v0 := hS5.free 0
  have hwr : IntKind.i64.wrap s.came = s.came := IntWalk.i64_in _ (by omega)
  have hfl5 : w.heap.size ≠ m.sb i := fun e => by
    have k1 := kd_blk hF5
    have k2 := kd_blk hS5
    rw [e] at k1
    rw [k1] at k2
    exact absurd k2 (by decide)
  have hml5 : w2.heap.size ≠ m.sb i := fun e => by
    have k1 := kd_blk hM5
    have k2 := kd_blk hS5
    rw [e] at k1
    rw [k1] at k2
    exact absurd k2 (by decide)
  go_region
  go_upto_region 14 with fail
  have hbt : But (fun g => g = m.sb i) W5 ((W5.setCell ⟨m.sb i, 0, none⟩ (.int .i64 (s.came))).drew) := ((But.refl (fun g => g = m.sb i) W5).setCell (p := ⟨m.sb i, 0, none⟩) (.inl rfl) _).drew
  obtain ⟨hx6, k6⟩ := hx5.goesS hq s hbt ((hS5.set 0 (.int .i64 (s.came))).drew) rfl
  refine wp_cut (R := fun X => Blk X w.heap.size 34 #[.int .i64 0, .int .i64 0, .int .i64 (i : Int), S [], .int .i64 0, c5, c6, c7, c8, c9, c10, c11] ∧ Blk X w2.heap.size 267 #[.int .i64 1, .bool false, .bool false, .int .i64 0, .bool false] ∧ Cx X n m { q with live := a ++ ((i : Int), s) :: c } ∧ GoesF w n F X { q with live := a ++ ((i : Int), s) :: c } (Foot n m { q with live := a ++ ((i : Int), s) :: c })) ⟨(hF5.other (p := ⟨m.sb i, 0, none⟩) hfl5 _).drew, (hM5.other (p := ⟨m.sb i, 0, none⟩) hml5 _).drew, hx6, g5.comp k6⟩ ?_
  clear f0 f1 f2 f3 f4 f5 f6 f7 f8 f9 f10 f11 s0 v0 hF5 hM5 hx5 g5 hS5 hfl5 hml5 hbt hx6 k6 W5
  rintro W6 ⟨hF6, hM6, hx6, g6⟩
  (have f0 : W6.cell? ⟨w.heap.size, 0, none⟩ = some (.int .i64 0) := hF6.cell 0; have f1 : W6.cell? ⟨w.heap.size, 1, none⟩ = some (.int .i64 0) := hF6.cell 1; have f2 : W6.cell? ⟨w.heap.size, 2, none⟩ = some (.int .i64 (i : Int)) := hF6.cell 2; have f3 : W6.cell? ⟨w.heap.size, 3, none⟩ = some (S []) := hF6.cell 3; have f4 : W6.cell? ⟨w.heap.size, 4, none⟩ = some (.int .i64 0) := hF6.cell 4; have f5 : W6.cell? ⟨w.heap.size, 5, none⟩ = some (c5) := hF6.cell 5; have f6 : W6.cell? ⟨w.heap.size, 6, none⟩ = some (c6) := hF6.cell 6; have f7 : W6.cell? ⟨w.heap.size, 7, none⟩ = some (c7) := hF6.cell 7; have f8 : W6.cell? ⟨w.heap.size, 8, none⟩ = some (c8) := hF6.cell 8; have f9 : W6.cell? ⟨w.heap.size, 9, none⟩ = some (c9) := hF6.cell 9; have f10 : W6.cell? ⟨w.heap.size, 10, none⟩ = some (c10) := hF6.cell 10; have f11 : W6.cell? ⟨w.heap.size, 11, none⟩ = some (c11) := hF6.cell 11)
  have y1 : W6.cell? ⟨n.c, 1, none⟩ = some (.int .i64 q.win) := hx6.blk.cell 1
  have hS6 := hx6.side ((i : Int), s) (by simp)
  have s2 : W6.cell? ⟨m.sb i, 2, none⟩ = some (.bool false) := by rw [← htl]; exact hS6.cell 2
  have hw1 : decide (q.win < 0) = false := by simp; omega
  have hw2 : ¬ q.win < 0 := by omega
  go_upto_region 16 with fail
  go_region
  go_upto_region 18 with fail
  refine wp_cut (R := fun X => Blk X w.heap.size 34 #[.int .i64 0, .int .i64 0, .int .i64 (i : Int), S [], .int .i64 0, c5, c6, c7, c8, c9, c10, c11] ∧ Blk X w2.heap.size 267 #[.int .i64 1, .bool false, .bool false, .int .i64 0, .bool false] ∧ Cx X n m { q with live := a ++ ((i : Int), s) :: c } ∧ GoesF w n F X { q with live := a ++ ((i : Int), s) :: c } (Foot n m { q with live := a ++ ((i : Int), s) :: c })) ⟨hF6.drew, hM6.drew, hx6.drew, g6.on (Below.refl _ _).drew⟩ ?_
  clear f0 f1 f2 f3 f4 f5 f6 f7 f8 f9 f10 f11 y1 s2 hF6 hM6 hx6 g6 hS6 hw1 hw2 W6
  rintro W7 ⟨hF7, hM7, hx7, g7⟩
  (have f0 : W7.cell? ⟨w.heap.size, 0, none⟩ = some (.int .i64 0) := hF7.cell 0; have f1 : W7.cell? ⟨w.heap.size, 1, none⟩ = some (.int .i64 0) := hF7.cell 1; have f2 : W7.cell? ⟨w.heap.size, 2, none⟩ = some (.int .i64 (i : Int)) := hF7.cell 2; have f3 : W7.cell? ⟨w.heap.size, 3, none⟩ = some (S []) := hF7.cell 3; have f4 : W7.cell? ⟨w.heap.size, 4, none⟩ = some (.int .i64 0) := hF7.cell 4; have f5 : W7.cell? ⟨w.heap.size, 5, none⟩ = some (c5) := hF7.cell 5; have f6 : W7.cell? ⟨w.heap.size, 6, none⟩ = some (c6) := hF7.cell 6; have f7 : W7.cell? ⟨w.heap.size, 7, none⟩ = some (c7) := hF7.cell 7; have f8 : W7.cell? ⟨w.heap.size, 8, none⟩ = some (c8) := hF7.cell 8; have f9 : W7.cell? ⟨w.heap.size, 9, none⟩ = some (c9) := hF7.cell 9; have f10 : W7.cell? ⟨w.heap.size, 10, none⟩ = some (c10) := hF7.cell 10; have f11 : W7.cell? ⟨w.heap.size, 11, none⟩ = some (c11) := hF7.cell 11)
  (have m0 : W7.cell? ⟨w2.heap.size, 0, none⟩ = some (.int .i64 1) := hM7.cell 0; have m1 : W7.cell? ⟨w2.heap.size, 1, none⟩ = some (.bool false) := hM7.cell 1; have m2 : W7.cell? ⟨w2.heap.size, 2, none⟩ = some (.bool false) := hM7.cell 2; have m3 : W7.cell? ⟨w2.heap.size, 3, none⟩ = some (.int .i64 0) := hM7.cell 3; have m4 : W7.cell? ⟨w2.heap.size, 4, none⟩ = some (.bool false) := hM7.cell 4)
  have hFo7 : ∀ g, Foot n m { q with live := a ++ ((i : Int), s) :: c } g → F g ∨ w.heap.size ≤ g := g7.s
  have hne7 : ¬ Foot n m { q with live := a ++ ((i : Int), s) :: c } w.heap.size := fun hf => by
    have := (show Cw W7 n { q with live := a ++ ((i : Int), s) :: c } (Foot n m { q with live := a ++ ((i : Int), s) :: c }) from ⟨m, hx7, rfl⟩).sort hf
    rw [kd_blk hF7] at this
    exact absurd this (by decide)
  have hnm7 : ¬ Foot n m { q with live := a ++ ((i : Int), s) :: c } w2.heap.size := fun hf => by
    have := (show Cw W7 n { q with live := a ++ ((i : Int), s) :: c } (Foot n m { q with live := a ++ ((i : Int), s) :: c }) from ⟨m, hx7, rfl⟩).sort hf
    rw [kd_blk hM7] at this
    exact absurd this (by decide)
  have g8 := g7
  have hF8 := hF7
  have hne8 := hne7
  have hTu := Turn_live (a := a) (c := c) (s := s) W7 g8.h (i : Int) hIi 1 (.inl rfl) rfl
  go_wp2_with first
    | (go_at_call 116; go_must ((with_reducible refine hTu.mono ?_); rintro r w9 ⟨rfl, hg9⟩; have hbt9 := (let ⟨_, _, x, _⟩ := hg9; x); obtain ⟨F9, g9⟩ := g8.step hg9; have hF9 := hF8.but hbt9 hne8; (have k0 : w9.cell? ⟨w.heap.size, 0, none⟩ = some (.int .i64 0) := hF9.cell 0; have k1 : w9.cell? ⟨w.heap.size, 1, none⟩ = some (.int .i64 0) := hF9.cell 1; have k2 : w9.cell? ⟨w.heap.size, 2, none⟩ = some (.int .i64 (i : Int)) := hF9.cell 2; have k3 : w9.cell? ⟨w.heap.size, 3, none⟩ = some (S []) := hF9.cell 3; have k4 : w9.cell? ⟨w.heap.size, 4, none⟩ = some (.int .i64 0) := hF9.cell 4; have k5 : w9.cell? ⟨w.heap.size, 5, none⟩ = some (c5) := hF9.cell 5; have k6 : w9.cell? ⟨w.heap.size, 6, none⟩ = some (c6) := hF9.cell 6; have k7 : w9.cell? ⟨w.heap.size, 7, none⟩ = some (c7) := hF9.cell 7; have k8 : w9.cell? ⟨w.heap.size, 8, none⟩ = some (c8) := hF9.cell 8; have k9 : w9.cell? ⟨w.heap.size, 9, none⟩ = some (c9) := hF9.cell 9; have k10 : w9.cell? ⟨w.heap.size, 10, none⟩ = some (c10) := hF9.cell 10; have k11 : w9.cell? ⟨w.heap.size, 11, none⟩ = some (c11) := hF9.cell 11); have hTe := Tell_any (h0 := .int .i64 3) (h1 := .int .i64 (i : Int)) (h2 := S []) (h3 := S []) (h4 := S []) (h5 := S []) (h6 := .slice none 0 0) (h7 := S []) (h8 := .bool false) (h9 := .int .i64 0) w9 g9.h (by intro u hu; simp only [List.mem_cons, List.not_mem_nil, or_false] at hu; rcases hu with rfl | rfl | rfl | rfl | rfl | rfl | rfl | rfl | rfl | rfl <;> rfl) (by show q.news.length ≤ _; omega)))
    | (go_at_call 139; go_must ((with_reducible refine hTe.mono ?_); rintro r w10 ⟨rfl, hg10⟩; obtain ⟨F10, g10⟩ := g9.step hg10))
  go_end0
  refine ⟨rfl, ?_⟩
  have e9 := g10.goes
  rw [show ({ s with st := 1 } : Sp) = s by rw [← hst]] at e9
  exact e9

end Go.Proofs.YtlkfmhbmcicmfaaGreatDoor

