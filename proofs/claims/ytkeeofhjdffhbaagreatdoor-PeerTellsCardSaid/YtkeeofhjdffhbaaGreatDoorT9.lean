/- Parts of the proof of pt_root: the texts Frm7. -/
import Derived.Test.YtkeeofhjdffhbaaGreatDoorT8
set_option linter.unusedSimpArgs false
set_option linter.unusedVariables false
set_option linter.unnecessarySimpa false
namespace Go.Proofs.YtkeeofhjdffhbaaGreatDoor
open Go.RowKit Go.Dr
set_option maxHeartbeats 4000000 in
theorem set12 {w : World} {g : Nat} {t : TypeId} {z0 z1 z2 z3 z4 z5 z6 z7 z8 z9 z10 z11 : Value} (h : Blk w g t #[z0, z1, z2, z3, z4, z5, z6, z7, z8, z9, z10, z11]) (b0 b1 b2 b3 b4 b5 b6 b7 b8 b9 b10 b11 : Value) : Blk ((((((((((((w.setCell ⟨g, 0, none⟩ b0).setCell ⟨g, 1, none⟩ b1).setCell ⟨g, 2, none⟩ b2).setCell ⟨g, 3, none⟩ b3).setCell ⟨g, 4, none⟩ b4).setCell ⟨g, 5, none⟩ b5).setCell ⟨g, 6, none⟩ b6).setCell ⟨g, 7, none⟩ b7).setCell ⟨g, 8, none⟩ b8).setCell ⟨g, 9, none⟩ b9).setCell ⟨g, 10, none⟩ b10).setCell ⟨g, 11, none⟩ b11) g t #[b0, b1, b2, b3, b4, b5, b6, b7, b8, b9, b10, b11] := by
 have := ((((((((((((h.set 0 b0).set 1 b1).set 2 b2).set 3 b3).set 4 b4).set 5 b5).set 6 b6).set 7 b7).set 8 b8).set 9 b9).set 10 b10).set 11 b11)
 simpa using this
theorem set3 {w : World} {g : Nat} {t : TypeId} {z0 z1 z2 : Value} (h : Blk w g t #[z0, z1, z2]) (b0 b1 b2 : Value) : Blk (((w.setCell ⟨g, 0, none⟩ b0).setCell ⟨g, 1, none⟩ b1).setCell ⟨g, 2, none⟩ b2) g t #[b0, b1, b2] := ((h.set 0 b0).set 1 b1).set 2 b2
theorem oth12 {w : World} {b g : Nat} {t : TypeId} {xs : Array Value} (h : Blk w b t xs) (hn : b ≠ g) (b0 b1 b2 b3 b4 b5 b6 b7 b8 b9 b10 b11 : Value) : Blk ((((((((((((w.setCell ⟨g, 0, none⟩ b0).setCell ⟨g, 1, none⟩ b1).setCell ⟨g, 2, none⟩ b2).setCell ⟨g, 3, none⟩ b3).setCell ⟨g, 4, none⟩ b4).setCell ⟨g, 5, none⟩ b5).setCell ⟨g, 6, none⟩ b6).setCell ⟨g, 7, none⟩ b7).setCell ⟨g, 8, none⟩ b8).setCell ⟨g, 9, none⟩ b9).setCell ⟨g, 10, none⟩ b10).setCell ⟨g, 11, none⟩ b11) b t xs := ((((((((((((h.other hn b0).other hn b1).other hn b2).other hn b3).other hn b4).other hn b5).other hn b6).other hn b7).other hn b8).other hn b9).other hn b10).other hn b11)
theorem oth3 {w : World} {b g : Nat} {t : TypeId} {xs : Array Value} (h : Blk w b t xs) (hn : b ≠ g) (b0 b1 b2 : Value) : Blk (((w.setCell ⟨g, 0, none⟩ b0).setCell ⟨g, 1, none⟩ b1).setCell ⟨g, 2, none⟩ b2) b t xs := ((h.other hn b0).other hn b1).other hn b2
theorem bel12 {B : Nat} {a w : World} {g : Nat} (h : Below B a w) (hg : B ≤ g) (b0 b1 b2 b3 b4 b5 b6 b7 b8 b9 b10 b11 : Value) : Below B a ((((((((((((w.setCell ⟨g, 0, none⟩ b0).setCell ⟨g, 1, none⟩ b1).setCell ⟨g, 2, none⟩ b2).setCell ⟨g, 3, none⟩ b3).setCell ⟨g, 4, none⟩ b4).setCell ⟨g, 5, none⟩ b5).setCell ⟨g, 6, none⟩ b6).setCell ⟨g, 7, none⟩ b7).setCell ⟨g, 8, none⟩ b8).setCell ⟨g, 9, none⟩ b9).setCell ⟨g, 10, none⟩ b10).setCell ⟨g, 11, none⟩ b11) := ((((((((((((h.setCell (p := ⟨g, 0, none⟩) hg b0).setCell (p := ⟨g, 1, none⟩) hg b1).setCell (p := ⟨g, 2, none⟩) hg b2).setCell (p := ⟨g, 3, none⟩) hg b3).setCell (p := ⟨g, 4, none⟩) hg b4).setCell (p := ⟨g, 5, none⟩) hg b5).setCell (p := ⟨g, 6, none⟩) hg b6).setCell (p := ⟨g, 7, none⟩) hg b7).setCell (p := ⟨g, 8, none⟩) hg b8).setCell (p := ⟨g, 9, none⟩) hg b9).setCell (p := ⟨g, 10, none⟩) hg b10).setCell (p := ⟨g, 11, none⟩) hg b11)
theorem bel3 {B : Nat} {a w : World} {g : Nat} (h : Below B a w) (hg : B ≤ g) (b0 b1 b2 : Value) : Below B a (((w.setCell ⟨g, 0, none⟩ b0).setCell ⟨g, 1, none⟩ b1).setCell ⟨g, 2, none⟩ b2) := ((h.setCell (p := ⟨g, 0, none⟩) hg b0).setCell (p := ⟨g, 1, none⟩) hg b1).setCell (p := ⟨g, 2, none⟩) hg b2
theorem own12 {base : Nat} {w : World} {e : TypeId} {size : Nat} {v : Value} {n : Nat} {xs : List Value} {g : Nat} (h : w.ownsRow base e size v n xs) (hg : g < base) (b0 b1 b2 b3 b4 b5 b6 b7 b8 b9 b10 b11 : Value) : ((((((((((((w.setCell ⟨g, 0, none⟩ b0).setCell ⟨g, 1, none⟩ b1).setCell ⟨g, 2, none⟩ b2).setCell ⟨g, 3, none⟩ b3).setCell ⟨g, 4, none⟩ b4).setCell ⟨g, 5, none⟩ b5).setCell ⟨g, 6, none⟩ b6).setCell ⟨g, 7, none⟩ b7).setCell ⟨g, 8, none⟩ b8).setCell ⟨g, 9, none⟩ b9).setCell ⟨g, 10, none⟩ b10).setCell ⟨g, 11, none⟩ b11).ownsRow base e size v n xs := (ownsRow_setCell_below (ownsRow_setCell_below (ownsRow_setCell_below (ownsRow_setCell_below (ownsRow_setCell_below (ownsRow_setCell_below (ownsRow_setCell_below (ownsRow_setCell_below (ownsRow_setCell_below (ownsRow_setCell_below (ownsRow_setCell_below (ownsRow_setCell_below h (a := ⟨g, 0, none⟩) hg b0) (a := ⟨g, 1, none⟩) hg b1) (a := ⟨g, 2, none⟩) hg b2) (a := ⟨g, 3, none⟩) hg b3) (a := ⟨g, 4, none⟩) hg b4) (a := ⟨g, 5, none⟩) hg b5) (a := ⟨g, 6, none⟩) hg b6) (a := ⟨g, 7, none⟩) hg b7) (a := ⟨g, 8, none⟩) hg b8) (a := ⟨g, 9, none⟩) hg b9) (a := ⟨g, 10, none⟩) hg b10) (a := ⟨g, 11, none⟩) hg b11)
theorem own3 {base : Nat} {w : World} {e : TypeId} {size : Nat} {v : Value} {n : Nat} {xs : List Value} {g : Nat} (h : w.ownsRow base e size v n xs) (hg : g < base) (b0 b1 b2 : Value) : (((w.setCell ⟨g, 0, none⟩ b0).setCell ⟨g, 1, none⟩ b1).setCell ⟨g, 2, none⟩ b2).ownsRow base e size v n xs := (ownsRow_setCell_below (ownsRow_setCell_below (ownsRow_setCell_below h (a := ⟨g, 0, none⟩) hg b0) (a := ⟨g, 1, none⟩) hg b1) (a := ⟨g, 2, none⟩) hg b2)
theorem ret_take {W : World} {tmps : Array Value} {r0 r1 : Nat} {n : Int} {c0 c1 c2 c3 c4 c5 c6 c7 c8 c9 c10 c11 x0 x1 x2 : Value} {R : Ending → World → Prop} (h4 : tmps[4]? = some (.pointer (some ⟨r0, 0, none⟩))) (h5 : tmps[5]? = some (.int .i64 n)) (h6 : tmps[6]? = some (.pointer (some ⟨r1, 0, none⟩)))
  (h : Blk W r0 34 #[c0, c1, c2, c3, c4, c5, c6, c7, c8, c9, c10, c11]) (h' : Blk W r1 72 #[x0, x1, x2]) (hR : R (.returned (.tuple #[.agg #[c0, c1, c2, c3, c4, c5, c6, c7, c8, c9, c10, c11], .int .i64 n, .agg #[x0, x1, x2]])) W) :
  bodyPost Tryz.prog Tryz.f114 R .ret { tmps := tmps, defers := [] } W := by
 have g0 : W.cell? ⟨r0, 0, none⟩ = some c0 := h.cell 0
 have g1 : W.cell? ⟨r0, 1, none⟩ = some c1 := h.cell 1
 have g2 : W.cell? ⟨r0, 2, none⟩ = some c2 := h.cell 2
 have g3 : W.cell? ⟨r0, 3, none⟩ = some c3 := h.cell 3
 have g4 : W.cell? ⟨r0, 4, none⟩ = some c4 := h.cell 4
 have g5 : W.cell? ⟨r0, 5, none⟩ = some c5 := h.cell 5
 have g6 : W.cell? ⟨r0, 6, none⟩ = some c6 := h.cell 6
 have g7 : W.cell? ⟨r0, 7, none⟩ = some c7 := h.cell 7
 have g8 : W.cell? ⟨r0, 8, none⟩ = some c8 := h.cell 8
 have g9 : W.cell? ⟨r0, 9, none⟩ = some c9 := h.cell 9
 have g10 : W.cell? ⟨r0, 10, none⟩ = some c10 := h.cell 10
 have g11 : W.cell? ⟨r0, 11, none⟩ = some c11 := h.cell 11
 have k0 : W.cell? ⟨r1, 0, none⟩ = some x0 := h'.cell 0
 have k1 : W.cell? ⟨r1, 1, none⟩ = some x1 := h'.cell 1
 have k2 : W.cell? ⟨r1, 2, none⟩ = some x2 := h'.cell 2
 exact bodyPost_ret (v := .tuple #[.agg #[c0, c1, c2, c3, c4, c5, c6, c7, c8, c9, c10, c11], .int .i64 n, .agg #[x0, x1, x2]]) (by simp [results, Tryz.results114, go_sem, h4, h5, h6, g0, g1, g2, g3, g4, g5, g6, g7, g8, g9, g10, g11, k0, k1, k2]) rfl hR
/-- 'b[i:j]' of bytes that are read -/
theorem By.mid {B : Nat} {w : World} {v : Value} {l : Bytes} (h : By B w v l) (i j : Nat) (hi : i ≤ j) (hj : j ≤ l.length) :
  ∃ a c, By B w (.slice a (j - i) c) ((l.take j).drop i) ∧ ∀ w', (Instr.slice 26 v (some (.int .i64 (i : Int))) (some (.int .i64 (j : Int))) none).run Tryz.prog w' = .ok (.slice a (j - i) c) w' := by
 obtain ⟨a, cap, rfl, hc, hcm⟩ := h.form
 have hD := h.cut hi hj
 have hs : Tryz.prog.cellsOf 5 = 1 := by kernel_rfl
 have he : Tryz.prog.elem 26 = 5 := by kernel_rfl
 obtain ⟨ii, hii⟩ := info_of_underlying Tryz.underlying5
 refine ⟨_, _, hD, fun w' => ?_⟩
 rw [run_slice_lh w' 26 a l.length cap (by rw [he];exact Tryz.underlying26) .i64 .i64 (i : Int) (j : Int) (by omega) (by omega) (by omega), he, run_sizeOf w' hii, hs]
 simp [Result.andThen, sliced]
theorem openF_head {ty fl st : Nat} {p : Bytes} {f : Fr} (h : openF ty fl st p = some f) : f.ty = ty ∧ f.fl = fl ∧ f.st = st := by
 unfold openF dhF at h
 simp only at h
 repeat' split at h
 all_goals first
  | (simp at h;done)
  | (have e := (Option.some.inj h).symm;subst e;simp;done)
  | (have e := (Option.some.inj h).symm;subst e;simp;omega)
set_option maxRecDepth 100000 in
set_option maxHeartbeats 64000000 in
theorem Take_any (l : Bytes) (v : Value) (most : Nat) (w : World) (h : By w.heap.size w v l) (hm : most ≤ 16777215) :
  Calls Tryz.prog 114 #[v, .int .i64 (most : Int)] w (RetTake w (takeF l most)) := by
 obtain ⟨a, cap, rfl, hc, hcm⟩ := h.form
 obtain ⟨W0, eW0⟩ : ∃ W0, W0 = (w.alloc (.cells #[.int .i64 0, .int .i64 0, .int .i64 0, S [], .int .i64 0, .slice none 0 0, .int .i64 0, .int .i64 0, .int .i64 0, .int .i64 0, .int .i64 0, .bool false] 34)).alloc (.cells #[(.bool false), (.int .i64 0), (.int .i64 0)] 72) := ⟨_, rfl⟩
 obtain ⟨r, er⟩ : ∃ r, r = w.heap.size := ⟨_, rfl⟩
 have hA : Blk W0 r 34 #[(.int .i64 0), (.int .i64 0), (.int .i64 0), (S []), (.int .i64 0), (.slice none 0 0), (.int .i64 0), (.int .i64 0), (.int .i64 0), (.int .i64 0), (.int .i64 0), (.bool false)] := by rw [eW0, er];exact (Blk.new _ _ _).alloc _
 have hC : Blk W0 (r + 1) 72 #[(.bool false), (.int .i64 0), (.int .i64 0)] := by
  have := Blk.new (w.alloc (.cells #[(.int .i64 0), (.int .i64 0), (.int .i64 0), (S []), (.int .i64 0), (.slice none 0 0), (.int .i64 0), (.int .i64 0), (.int .i64 0), (.int .i64 0), (.int .i64 0), (.bool false)] 34)) 72 #[(.bool false), (.int .i64 0), (.int .i64 0)]
  rw [World.size_alloc] at this
  rw [eW0, er]
  exact this
 have hB : Below r w W0 := by rw [eW0, er];exact ((Below.refl _ _).alloc (Nat.le_refl _) _).alloc (by simp) _
 have hne : r ≠ r + 1 := by omega
 have hne' : r + 1 ≠ r := by omega
 have ER := Lib.hid er
 rw [← er] at h
 clear er
 have h0 := h.below hB
 have y0 : W0.cell? ⟨r, 0, none⟩ = some (.int .i64 0) := hA.cell 0
 have y1 : W0.cell? ⟨r, 1, none⟩ = some (.int .i64 0) := hA.cell 1
 have y2 : W0.cell? ⟨r, 2, none⟩ = some (.int .i64 0) := hA.cell 2
 have y3 : W0.cell? ⟨r, 3, none⟩ = some (S []) := hA.cell 3
 have y4 : W0.cell? ⟨r, 4, none⟩ = some (.int .i64 0) := hA.cell 4
 have y5 : W0.cell? ⟨r, 5, none⟩ = some (.slice none 0 0) := hA.cell 5
 have y6 : W0.cell? ⟨r, 6, none⟩ = some (.int .i64 0) := hA.cell 6
 have y7 : W0.cell? ⟨r, 7, none⟩ = some (.int .i64 0) := hA.cell 7
 have y8 : W0.cell? ⟨r, 8, none⟩ = some (.int .i64 0) := hA.cell 8
 have y9 : W0.cell? ⟨r, 9, none⟩ = some (.int .i64 0) := hA.cell 9
 have y10 : W0.cell? ⟨r, 10, none⟩ = some (.int .i64 0) := hA.cell 10
 have y11 : W0.cell? ⟨r, 11, none⟩ = some (.bool false) := hA.cell 11
 have f0 := hA.free 0
 have f1 := hA.free 1
 have f2 := hA.free 2
 have f3 := hA.free 3
 have f4 := hA.free 4
 have f5 := hA.free 5
 have f6 := hA.free 6
 have f7 := hA.free 7
 have f8 := hA.free 8
 have f9 := hA.free 9
 have f10 := hA.free 10
 have f11 := hA.free 11
 have x0 : W0.cell? ⟨r + 1, 0, none⟩ = some (.bool false) := hC.cell 0
 have x1 : W0.cell? ⟨r + 1, 1, none⟩ = some (.int .i64 0) := hC.cell 1
 have x2 : W0.cell? ⟨r + 1, 2, none⟩ = some (.int .i64 0) := hC.cell 2
 have q0 := hC.free 0
 have q1 := hC.free 1
 have q2 := hC.free 2
 by_cases c1 : l.length < 9
 ·have e : takeF l most = ({}, 0, {}) := by unfold takeF;rw [if_pos c1]
  rw [e]
  clear e
  have t1 : decide ((l.length : Int) < 9) = true := by simp;omega
  have t2 : decide (l.length < 9) = true := by simpa using c1
  go_enter Tryz.func114, Tryz.ntmps114
  go_upto_region 1 with fail
  rw [← ER.out, ← eW0]
  clear eW0
  go_wp2
  exact ret_take rfl rfl rfl (oth3 (set12 hA _ _ _ _ _ _ _ _ _ _ _ _) hne _ _ _) (set3 (oth12 hC hne' _ _ _ _ _ _ _ _ _ _ _ _) _ _ _) ⟨_, rfl, World.ownsRow_nil _ _ _ _, by rw [← ER.out];exact bel3 (bel12 hB (Nat.le_refl _) _ _ _ _ _ _ _ _ _ _ _ _) (by omega) _ _ _⟩
 have t1 : decide ((l.length : Int) < 9) = false := by simp;omega
 have t2 : decide (l.length < 9) = false := by simpa using c1
 obtain ⟨n, en⟩ : ∃ n, n = beN (l.take 3) := ⟨_, rfl⟩
 have hn : n < 16777216 := by
  rw [en]
  refine Nat.lt_of_lt_of_le (beN_lt _) ?_
  exact Nat.pow_le_pow_right (j := 3) (by decide) (by rw [List.length_take];omega)
 have hT := oTake_any l _ 0 3 W0 h0 (by decide) (by decide) (by omega)
 rw [List.drop_zero, ← en] at hT
 replace hT := (show Calls Tryz.prog 158 #[.slice a l.length cap, .int .i64 0, .int .i64 3] W0 _ from hT)
 have tn : IntKind.i64.wrap (n : Int) = (n : Int) := IntWalk.i64_in _ (by omega)
 by_cases c2 : most < n
 ·have e : takeF l most = ({}, 0, { is := true, code := 6 }) := by unfold takeF;rw [if_neg c1, ← en, if_pos c2]
  rw [e]
  clear e
  have t3 : decide ((most : Int) < (n : Int)) = true := by simpa using c2
  have t4 : decide (most < n) = true := by simpa using c2
  have hW := Whole_any 6 W0
  replace hW := (show Calls Tryz.prog 159 #[.int .i64 6] W0 _ from hW)
  go_enter Tryz.func114, Tryz.ntmps114
  go_upto_region 1 with fail
  rw [← ER.out, ← eW0]
  clear eW0
  go_wp2_with (first
   | (go_at_call 158;refine hT.mono ?_;rintro e w' ⟨rfl, hw'⟩;subst hw')
   | (go_at_call 159;refine hW.mono ?_;rintro e w9 ⟨rfl, hb9⟩;have hA9 := hA.on hb9;have hC9 := hC.on hb9;have hB9 := hB.trans (hb9.mono (Nat.le_of_lt hA.lt));have y0 : w9.cell? ⟨r, 0, none⟩ = some (.int .i64 0) := hA9.cell 0;have y1 : w9.cell? ⟨r, 1, none⟩ = some (.int .i64 0) := hA9.cell 1;have y2 : w9.cell? ⟨r, 2, none⟩ = some (.int .i64 0) := hA9.cell 2;have y3 : w9.cell? ⟨r, 3, none⟩ = some (S []) := hA9.cell 3;have y4 : w9.cell? ⟨r, 4, none⟩ = some (.int .i64 0) := hA9.cell 4;have y5 : w9.cell? ⟨r, 5, none⟩ = some (.slice none 0 0) := hA9.cell 5;have y6 : w9.cell? ⟨r, 6, none⟩ = some (.int .i64 0) := hA9.cell 6;have y7 : w9.cell? ⟨r, 7, none⟩ = some (.int .i64 0) := hA9.cell 7;have y8 : w9.cell? ⟨r, 8, none⟩ = some (.int .i64 0) := hA9.cell 8;have y9 : w9.cell? ⟨r, 9, none⟩ = some (.int .i64 0) := hA9.cell 9;have y10 : w9.cell? ⟨r, 10, none⟩ = some (.int .i64 0) := hA9.cell 10;have y11 : w9.cell? ⟨r, 11, none⟩ = some (.bool false) := hA9.cell 11;have f0 := hA9.free 0;have f1 := hA9.free 1;have f2 := hA9.free 2;have f3 := hA9.free 3;have f4 := hA9.free 4;have f5 := hA9.free 5;have f6 := hA9.free 6;have f7 := hA9.free 7;have f8 := hA9.free 8;have f9 := hA9.free 9;have f10 := hA9.free 10;have f11 := hA9.free 11;have x0 : w9.cell? ⟨r + 1, 0, none⟩ = some (.bool false) := hC9.cell 0;have x1 : w9.cell? ⟨r + 1, 1, none⟩ = some (.int .i64 0) := hC9.cell 1;have x2 : w9.cell? ⟨r + 1, 2, none⟩ = some (.int .i64 0) := hC9.cell 2;have q0 := hC9.free 0;have q1 := hC9.free 1;have q2 := hC9.free 2))
  exact ret_take rfl rfl rfl (oth3 (set12 hA9 _ _ _ _ _ _ _ _ _ _ _ _) hne _ _ _) (set3 (oth12 hC9 hne' _ _ _ _ _ _ _ _ _ _ _ _) _ _ _) ⟨_, rfl, World.ownsRow_nil _ _ _ _, by rw [← ER.out];exact bel3 (bel12 hB9 (Nat.le_refl _) _ _ _ _ _ _ _ _ _ _ _ _) (by omega) _ _ _⟩
 have t3 : decide ((most : Int) < (n : Int)) = false := by simp;omega
 have t4 : decide (most < n) = false := by simpa using c2
 have tw9 : IntKind.i64.wrap (9 + (n : Int)) = 9 + (n : Int) := IntWalk.i64_in _ (by omega)
 by_cases c3 : l.length < 9 + n
 ·have e : takeF l most = ({}, 0, {}) := by unfold takeF;rw [if_neg c1, ← en, if_neg c2, if_pos c3]
  rw [e]
  clear e
  have t5 : decide ((l.length : Int) < 9 + (n : Int)) = true := by simp;omega
  go_enter Tryz.func114, Tryz.ntmps114
  go_upto_region 1 with fail
  rw [← ER.out, ← eW0]
  clear eW0
  go_wp2_with (go_at_call 158;refine hT.mono ?_;rintro e w' ⟨rfl, hw'⟩;subst hw')
  exact ret_take rfl rfl rfl (oth3 (set12 hA _ _ _ _ _ _ _ _ _ _ _ _) hne _ _ _) (set3 (oth12 hC hne' _ _ _ _ _ _ _ _ _ _ _ _) _ _ _) ⟨_, rfl, World.ownsRow_nil _ _ _ _, by rw [← ER.out];exact bel3 (bel12 hB (Nat.le_refl _) _ _ _ _ _ _ _ _ _ _ _ _) (by omega) _ _ _⟩
 have t5 : decide ((l.length : Int) < 9 + (n : Int)) = false := by simp;omega
 have hl3 : 3 < l.length := by omega
 have hl4 : 4 < l.length := by omega
 have i3 : (3 : Int) < (l.length : Int) := by omega
 have i4 : (4 : Int) < (l.length : Int) := by omega
 obtain ⟨bb, off, rfl, hbb, v3⟩ := h0.at 3 hl3
 have hgb : ¬ W0.heap.size = bb := by have := hA.lt;omega
 have hgb2 : W0.heap.size ≠ bb := hgb
 obtain ⟨bb2, off2, e2, -, v4⟩ := h0.at 4 hl4
 simp only [Option.some.injEq, Addr.mk.injEq, and_true] at e2
 obtain ⟨rfl, rfl⟩ := e2
 have d3 := headD_at l 3 hl3
 have d4 := headD_at l 4 hl4
 obtain ⟨ty, ety⟩ : ∃ ty, ty = (l[3]'hl3).toNat := ⟨_, rfl⟩
 obtain ⟨fl, efl⟩ : ∃ fl, fl = (l[4]'hl4).toNat := ⟨_, rfl⟩
 have hty : ty < 256 := by rw [ety];exact UInt8.toNat_lt _
 have hfl : fl < 256 := by rw [efl];exact UInt8.toNat_lt _
 have v3' : W0.cell? ⟨bb, off + 3, none⟩ = some (.int .u8 (ty : Int)) := by rw [ety];exact v3
 have v4' : W0.cell? ⟨bb, off + 4, none⟩ = some (.int .u8 (fl : Int)) := by rw [efl];exact v4
 have wty : IntKind.i64.wrap (ty : Int) = (ty : Int) := IntWalk.i64_in _ (by omega)
 have wfl : IntKind.i64.wrap (fl : Int) = (fl : Int) := IntWalk.i64_in _ (by omega)
 obtain ⟨m5, em5⟩ : ∃ m5, m5 = numF l 5 := ⟨_, rfl⟩
 have hm5 : m5 < 4294967296 := by rw [em5];exact numF_lt l 5
 have hmk := mask31 m5 (by omega)
 have eTk : takeF l most = (if misF ty (m5 % 2147483648) then ({}, 0, { is := true, code := 1 })
  else if sizeF ty fl n then (if ty = 2 then ({}, 9 + n, { is := true, code := 6, st := m5 % 2147483648 }) else ({}, 0, { is := true, code := 6 }))
  else match openF ty fl (m5 % 2147483648) ((l.take (9 + n)).drop 9) with
  | none => ({}, 0, { is := true, code := 1 })
  | some f =>
   if ty = 8 ∧ f.inc = 0 then (if m5 % 2147483648 = 0 then ({}, 0, { is := true, code := 1 }) else ({}, 9 + n, { is := true, code := 1, st := m5 % 2147483648 }))
   else match unfF f.sets with
    | some c => ({}, 0, { is := true, code := c })
    | none => (f, 9 + n, {})) := by
  unfold takeF
  rw [if_neg c1, ← en, if_neg c2, if_neg c3, d3, d4, ← ety, ← efl, ← em5]
  rfl
 obtain ⟨R, eR⟩ : ∃ R, R = takeF l most := ⟨_, rfl⟩
 rw [← eR]
 rw [eTk] at eR
 obtain ⟨st, est⟩ : ∃ st, st = m5 % 2147483648 := ⟨_, rfl⟩
 rw [← est] at hmk eR
 have HR := Lib.hid eR
 clear est eR
 have hN := Num_any l _ 5 W0.drew (show By r W0.drew _ l from h0) (by omega)
 have hNa := fun o => Num_any l _ 5 (W0.alloc o).drew (show By r (W0.alloc o).drew _ l from h0.below ((Below.refl r W0).alloc (Nat.le_of_lt hA.lt) o).drew) (by omega)
 rw [← em5] at hN
 replace hNa := fun o => (show Calls Tryz.prog 160 #[.slice (some ⟨bb, off, none⟩) l.length cap, .int .i64 5] (W0.alloc o).drew (fun e w' => e = .returned (.int .i64 (m5 : Nat)) ∧ w' = (W0.alloc o).drew) from by rw [em5];exact hNa o)
 replace hN := (show Calls Tryz.prog 160 #[.slice (some ⟨bb, off, none⟩) l.length cap, .int .i64 5] W0.drew _ from hN)
 have HC1 := Lib.hid (And.intro c1 (And.intro c2 c3))
 have EN := Lib.hid en
 clear en
 clear v3 v4 d3 d4 ety efl em5 eTk c1 c2 c3
 go_enter Tryz.func114, Tryz.ntmps114
 go_upto_region 1 with fail
 rw [← ER.out, ← eW0]
 clear eW0
 go_upto_region 10 with (go_at_call 158;refine hT.mono ?_;rintro e W0 ⟨rfl, rfl⟩)
 clear hT
 refine' (fun (key : (_ : Prop)) => ?main) ?kp
 case main =>
  go_region_held3 (fun wx => wx.cell? ⟨bb, off + 3, none⟩ = some (.int .u8 (ty : Int)) ∧ wx.cell? ⟨bb, off + 4, none⟩ = some (.int .u8 (fl : Int))) (go_keep) (first
   | (go_at_call 160;(with_reducible refine hN.mono ?_);rintro e w' ⟨rfl, rfl⟩)
   | (go_at_call 160;(with_reducible refine (hNa _).mono ?_);rintro e w' ⟨rfl, rfl⟩))
  all_goals exact key
 all_goals (
  obtain ⟨G, eG⟩ : ∃ G, G = W0.heap.size := ⟨_, rfl⟩
  have hF1 : Blk (W0.alloc (.cells #[.int .i64 (ty : Int), .int .i64 (fl : Int), .int .i64 (st : Int), S [], .int .i64 0, .slice none 0 0, .int .i64 0, .int .i64 0, .int .i64 0, .int .i64 0, .int .i64 0, .bool false] 34)).drew G 34 (zc ty fl st) := by rw [eG];exact (Blk.new _ _ _).drew
  have hA1 := (hA.alloc (.cells #[.int .i64 (ty : Int), .int .i64 (fl : Int), .int .i64 (st : Int), S [], .int .i64 0, .slice none 0 0, .int .i64 0, .int .i64 0, .int .i64 0, .int .i64 0, .int .i64 0, .bool false] 34)).drew
  have hC1 := (hC.alloc (.cells #[.int .i64 (ty : Int), .int .i64 (fl : Int), .int .i64 (st : Int), S [], .int .i64 0, .slice none 0 0, .int .i64 0, .int .i64 0, .int .i64 0, .int .i64 0, .int .i64 0, .bool false] 34)).drew
  have hB1 := ((hB.alloc (Nat.le_of_lt hA.lt) (.cells #[.int .i64 (ty : Int), .int .i64 (fl : Int), .int .i64 (st : Int), S [], .int .i64 0, .slice none 0 0, .int .i64 0, .int .i64 0, .int .i64 0, .int .i64 0, .int .i64 0, .bool false] 34))).drew
  have hGr : r + 1 < G := by rw [eG];exact hC.lt
  have hn1 : r ≠ G := by omega
  have hn2 : r + 1 ≠ G := by omega
  rw [← eG]
  obtain ⟨W1, eW1⟩ : ∃ W1, W1 = (W0.alloc (.cells #[.int .i64 (ty : Int), .int .i64 (fl : Int), .int .i64 (st : Int), S [], .int .i64 0, .slice none 0 0, .int .i64 0, .int .i64 0, .int .i64 0, .int .i64 0, .int .i64 0, .bool false] 34)).drew := ⟨_, rfl⟩
  rw [← eW1] at hF1 hA1 hC1 hB1 ⊢
  have hY1 := h.below hB1
  clear eG eW1 h0 h hN hNa hA hC hB v3' v4' hgb hgb2 hbb wty wfl hmk y0 y1 y2 y3 y4 y5 y6 y7 y8 y9 y10 y11 f0 f1 f2 f3 f4 f5 f6 f7 f8 f9 f10 f11 x0 x1 x2 q0 q1 q2
  have u0 : W1.cell? ⟨G, 0, none⟩ = some (.int .i64 (ty : Int)) := hF1.cell 0
  have u1 : W1.cell? ⟨G, 1, none⟩ = some (.int .i64 (fl : Int)) := hF1.cell 1
  have u2 : W1.cell? ⟨G, 2, none⟩ = some (.int .i64 (st : Int)) := hF1.cell 2
  have hM := Mis_any ty st W1
  have hW1 := fun w => (show Calls Tryz.prog 159 #[.int .i64 1] w _ from Whole_any 1 w)
  have hW6 := fun w => (show Calls Tryz.prog 159 #[.int .i64 6] w _ from Whole_any 6 w)
  have hZ := fun w => Size_any ty fl n w hfl
  by_cases c4 : misF ty st = true
  ·rw [c4] at hM
   go_wp2_with (first
    | (go_at_call 161;refine hM.mono ?_;rintro e W1 ⟨rfl, rfl⟩)
    | (go_at_call 159;refine (hW1 _).mono ?_;rintro e w9 ⟨rfl, hb9⟩;have hA9 := hA1.on hb9;have hC9 := hC1.on hb9;have hF9 := hF1.on hb9;have hB9 := hB1.trans (hb9.mono (Nat.le_of_lt hA1.lt));have hY9 := hY1.below (hb9.mono (Nat.le_of_lt hA1.lt));have y0 : w9.cell? ⟨r, 0, none⟩ = some (.int .i64 0) := hA9.cell 0;have y1 : w9.cell? ⟨r, 1, none⟩ = some (.int .i64 0) := hA9.cell 1;have y2 : w9.cell? ⟨r, 2, none⟩ = some (.int .i64 0) := hA9.cell 2;have y3 : w9.cell? ⟨r, 3, none⟩ = some (S []) := hA9.cell 3;have y4 : w9.cell? ⟨r, 4, none⟩ = some (.int .i64 0) := hA9.cell 4;have y5 : w9.cell? ⟨r, 5, none⟩ = some (.slice none 0 0) := hA9.cell 5;have y6 : w9.cell? ⟨r, 6, none⟩ = some (.int .i64 0) := hA9.cell 6;have y7 : w9.cell? ⟨r, 7, none⟩ = some (.int .i64 0) := hA9.cell 7;have y8 : w9.cell? ⟨r, 8, none⟩ = some (.int .i64 0) := hA9.cell 8;have y9 : w9.cell? ⟨r, 9, none⟩ = some (.int .i64 0) := hA9.cell 9;have y10 : w9.cell? ⟨r, 10, none⟩ = some (.int .i64 0) := hA9.cell 10;have y11 : w9.cell? ⟨r, 11, none⟩ = some (.bool false) := hA9.cell 11;have f0 := hA9.free 0;have f1 := hA9.free 1;have f2 := hA9.free 2;have f3 := hA9.free 3;have f4 := hA9.free 4;have f5 := hA9.free 5;have f6 := hA9.free 6;have f7 := hA9.free 7;have f8 := hA9.free 8;have f9 := hA9.free 9;have f10 := hA9.free 10;have f11 := hA9.free 11;have x0 : w9.cell? ⟨r + 1, 0, none⟩ = some (.bool false) := hC9.cell 0;have x1 : w9.cell? ⟨r + 1, 1, none⟩ = some (.int .i64 0) := hC9.cell 1;have x2 : w9.cell? ⟨r + 1, 2, none⟩ = some (.int .i64 0) := hC9.cell 2;have q0 := hC9.free 0;have q1 := hC9.free 1;have q2 := hC9.free 2))
   exact ret_take rfl rfl rfl (oth3 (set12 hA9 _ _ _ _ _ _ _ _ _ _ _ _) hne _ _ _) (set3 (oth12 hC9 hne' _ _ _ _ _ _ _ _ _ _ _ _) _ _ _) (by rw [HR.out, if_pos c4];exact ⟨_, rfl, World.ownsRow_nil _ _ _ _, by rw [← ER.out];exact bel3 (bel12 hB9 (Nat.le_refl _) _ _ _ _ _ _ _ _ _ _ _ _) (by omega) _ _ _⟩)
  have c4' := c4
  replace c4 : misF ty st = false := by simpa using c4
  rw [c4] at hM
  by_cases c5 : sizeF ty fl n = true
  ·rw [c5] at hZ
   by_cases c6 : ty = 2
   ·have t6 : ((ty : Int) == 2) = true := by rw [c6];rfl
    have C6 := Lib.hid c6
    clear c6
    go_upto_region 14 with (first
     | (go_at_call 161;refine hM.mono ?_;rintro e W1 ⟨rfl, rfl⟩)
     | (go_at_call 162;refine (hZ _).mono ?_;rintro e w9 ⟨rfl, hb9⟩;have hA9 := hA1.on hb9;have hC9 := hC1.on hb9;have hF9 := hF1.on hb9;have hB9 := hB1.trans (hb9.mono (Nat.le_of_lt hA1.lt));have hY9 := hY1.below (hb9.mono (Nat.le_of_lt hA1.lt));have y0 : w9.cell? ⟨r, 0, none⟩ = some (.int .i64 0) := hA9.cell 0;have y1 : w9.cell? ⟨r, 1, none⟩ = some (.int .i64 0) := hA9.cell 1;have y2 : w9.cell? ⟨r, 2, none⟩ = some (.int .i64 0) := hA9.cell 2;have y3 : w9.cell? ⟨r, 3, none⟩ = some (S []) := hA9.cell 3;have y4 : w9.cell? ⟨r, 4, none⟩ = some (.int .i64 0) := hA9.cell 4;have y5 : w9.cell? ⟨r, 5, none⟩ = some (.slice none 0 0) := hA9.cell 5;have y6 : w9.cell? ⟨r, 6, none⟩ = some (.int .i64 0) := hA9.cell 6;have y7 : w9.cell? ⟨r, 7, none⟩ = some (.int .i64 0) := hA9.cell 7;have y8 : w9.cell? ⟨r, 8, none⟩ = some (.int .i64 0) := hA9.cell 8;have y9 : w9.cell? ⟨r, 9, none⟩ = some (.int .i64 0) := hA9.cell 9;have y10 : w9.cell? ⟨r, 10, none⟩ = some (.int .i64 0) := hA9.cell 10;have y11 : w9.cell? ⟨r, 11, none⟩ = some (.bool false) := hA9.cell 11;have f0 := hA9.free 0;have f1 := hA9.free 1;have f2 := hA9.free 2;have f3 := hA9.free 3;have f4 := hA9.free 4;have f5 := hA9.free 5;have f6 := hA9.free 6;have f7 := hA9.free 7;have f8 := hA9.free 8;have f9 := hA9.free 9;have f10 := hA9.free 10;have f11 := hA9.free 11;have x0 : w9.cell? ⟨r + 1, 0, none⟩ = some (.bool false) := hC9.cell 0;have x1 : w9.cell? ⟨r + 1, 1, none⟩ = some (.int .i64 0) := hC9.cell 1;have x2 : w9.cell? ⟨r + 1, 2, none⟩ = some (.int .i64 0) := hC9.cell 2;have q0 := hC9.free 0;have q1 := hC9.free 1;have q2 := hC9.free 2;have z0k9 : w9.cell? ⟨G, 0, none⟩ = some (.int .i64 (ty : Int)) := hF9.cell 0;have z1k9 : w9.cell? ⟨G, 1, none⟩ = some (.int .i64 (fl : Int)) := hF9.cell 1;have z2k9 : w9.cell? ⟨G, 2, none⟩ = some (.int .i64 (st : Int)) := hF9.cell 2))
    go_region_with (fail)
    all_goals go_wp2
    all_goals (first | (with_reducible refine (show bodyPost _ _ _ _ _ (World.drew (World.setCell _ ⟨r + 1, 2, none⟩ _)) from ?_));exact ret_take rfl rfl rfl (oth3 (set12 hA9 _ _ _ _ _ _ _ _ _ _ _ _) hne _ _ _).drew (set3 (oth12 hC9 hne' _ _ _ _ _ _ _ _ _ _ _ _) _ _ _).drew (by rw [HR.out, if_neg c4', if_pos c5, if_pos C6.out];exact ⟨_, rfl, World.ownsRow_nil _ _ _ _, by rw [← ER.out];exact (bel3 (bel12 hB9 (Nat.le_refl _) _ _ _ _ _ _ _ _ _ _ _ _) (by omega) _ _ _).drew⟩) | (with_reducible refine (show bodyPost _ _ _ _ _ (World.drew (World.setCell _ ⟨r, 11, none⟩ _)) from ?_));exact ret_take rfl rfl rfl (set12 (oth3 hA9 hne _ _ _) _ _ _ _ _ _ _ _ _ _ _ _).drew (oth12 (set3 hC9 _ _ _) hne' _ _ _ _ _ _ _ _ _ _ _ _).drew (by rw [HR.out, if_neg c4', if_pos c5, if_pos C6.out];exact ⟨_, rfl, World.ownsRow_nil _ _ _ _, by rw [← ER.out];exact (bel12 (bel3 hB9 (by omega) _ _ _) (Nat.le_refl _) _ _ _ _ _ _ _ _ _ _ _ _).drew⟩))
   ·have t6 : ((ty : Int) == 2) = false := i_ne (b := 2) c6
    have C6 := Lib.hid c6
    clear c6
    go_wp2_with (first
     | (go_at_call 159;refine (hW6 _).mono ?_;rintro e w9 ⟨rfl, hb9⟩;have hA9 := hA6.on hb9;have hC9 := hC6.on hb9;have hF9 := hF6.on hb9;have hB9 := hB6.trans (hb9.mono (Nat.le_of_lt hA6.lt));have hY9 := hY6.below (hb9.mono (Nat.le_of_lt hA6.lt));have y0 : w9.cell? ⟨r, 0, none⟩ = some (.int .i64 0) := hA9.cell 0;have y1 : w9.cell? ⟨r, 1, none⟩ = some (.int .i64 0) := hA9.cell 1;have y2 : w9.cell? ⟨r, 2, none⟩ = some (.int .i64 0) := hA9.cell 2;have y3 : w9.cell? ⟨r, 3, none⟩ = some (S []) := hA9.cell 3;have y4 : w9.cell? ⟨r, 4, none⟩ = some (.int .i64 0) := hA9.cell 4;have y5 : w9.cell? ⟨r, 5, none⟩ = some (.slice none 0 0) := hA9.cell 5;have y6 : w9.cell? ⟨r, 6, none⟩ = some (.int .i64 0) := hA9.cell 6;have y7 : w9.cell? ⟨r, 7, none⟩ = some (.int .i64 0) := hA9.cell 7;have y8 : w9.cell? ⟨r, 8, none⟩ = some (.int .i64 0) := hA9.cell 8;have y9 : w9.cell? ⟨r, 9, none⟩ = some (.int .i64 0) := hA9.cell 9;have y10 : w9.cell? ⟨r, 10, none⟩ = some (.int .i64 0) := hA9.cell 10;have y11 : w9.cell? ⟨r, 11, none⟩ = some (.bool false) := hA9.cell 11;have f0 := hA9.free 0;have f1 := hA9.free 1;have f2 := hA9.free 2;have f3 := hA9.free 3;have f4 := hA9.free 4;have f5 := hA9.free 5;have f6 := hA9.free 6;have f7 := hA9.free 7;have f8 := hA9.free 8;have f9 := hA9.free 9;have f10 := hA9.free 10;have f11 := hA9.free 11;have x0 : w9.cell? ⟨r + 1, 0, none⟩ = some (.bool false) := hC9.cell 0;have x1 : w9.cell? ⟨r + 1, 1, none⟩ = some (.int .i64 0) := hC9.cell 1;have x2 : w9.cell? ⟨r + 1, 2, none⟩ = some (.int .i64 0) := hC9.cell 2;have q0 := hC9.free 0;have q1 := hC9.free 1;have q2 := hC9.free 2)
     | (go_at_call 162;have tk := hb5;refine (hZ _).mono ?_;rintro e w6 ⟨rfl, hb6⟩;have hA6 := hA5.on hb6;have hC6 := hC5.on hb6;have hF6 := hF5.on hb6;have hB6 := hB5.trans (hb6.mono (Nat.le_of_lt hA5.lt));have hY6 := hY5.below (hb6.mono (Nat.le_of_lt hA5.lt)))
     | (go_at_call 162;refine (hZ _).mono ?_;rintro e w5 ⟨rfl, hb5⟩;have hA5 := hA1.on hb5;have hC5 := hC1.on hb5;have hF5 := hF1.on hb5;have hB5 := hB1.trans (hb5.mono (Nat.le_of_lt hA1.lt));have hY5 := hY1.below (hb5.mono (Nat.le_of_lt hA1.lt));have z0k5 : w5.cell? ⟨G, 0, none⟩ = some (.int .i64 (ty : Int)) := hF5.cell 0;have z1k5 : w5.cell? ⟨G, 1, none⟩ = some (.int .i64 (fl : Int)) := hF5.cell 1;have z2k5 : w5.cell? ⟨G, 2, none⟩ = some (.int .i64 (st : Int)) := hF5.cell 2)
     | (go_at_call 161;refine hM.mono ?_;rintro e W1 ⟨rfl, rfl⟩))
    exact ret_take rfl rfl rfl (oth3 (set12 hA9 _ _ _ _ _ _ _ _ _ _ _ _) hne _ _ _) (set3 (oth12 hC9 hne' _ _ _ _ _ _ _ _ _ _ _ _) _ _ _) (by rw [HR.out, if_neg c4', if_pos c5, if_neg C6.out];exact ⟨_, rfl, World.ownsRow_nil _ _ _ _, by rw [← ER.out];exact bel3 (bel12 hB9 (Nat.le_refl _) _ _ _ _ _ _ _ _ _ _ _ _) (by omega) _ _ _⟩)
  have c5' := c5
  replace c5 : sizeF ty fl n = false := by simpa using c5
  rw [c5] at hZ
  have hc3 := HC1.out
  obtain ⟨P, eP⟩ : ∃ P, P = (l.take (9 + n)).drop 9 := ⟨_, rfl⟩
  obtain ⟨a9, c9, hD9, hs9⟩ := hY1.mid 9 (9 + n) (by omega) (by omega)
  have e9 : ((9 + n : Nat) : Int) = 9 + (n : Int) := by simp
  rw [← eP, Nat.add_sub_cancel_left] at hD9
  rw [Nat.add_sub_cancel_left, e9] at hs9
  replace hs9 := fun w' => (show (Instr.slice 26 (.slice (some ⟨bb, off, none⟩) l.length cap) (some (.int .i64 9)) (some (.int .i64 (9 + (n : Int)))) none).run Tryz.prog w' = .ok (.slice a9 n c9) w' from hs9 w')
  have hPl : P.length = n := by rw [eP, List.length_drop, List.length_take];omega
  have hpz : sizeF ty fl P.length = false := by rw [hPl];exact c5
  have hpm : P.length ≤ 16777215 := by omega
  have HP := Lib.hid eP
  clear eP e9 hc3 hPl
  have hO := fun w6 hF6 (hb : Below r W1 w6) => Open_any ty fl st P _ w6 (hD9.below hb) hF6 hfl hpm hpz (Nat.le_of_lt (Nat.lt_of_succ_lt hGr))
  have hBr : ∀ w6, Below W1.heap.size W1 w6 → Below r W1 w6 := fun w6 h => h.mono (Nat.le_of_lt hA1.lt)
  rcases ho : openF ty fl st P with _ | f
  ·rw [ho] at hO
   go_wp2_with (first
    | (go_at_call 159;refine (hW1 _).mono ?_;rintro e w9 ⟨rfl, hb9⟩;have hA9 := hA7.on hb9;have hC9 := hC7.on hb9;have hB9 := hB7.trans (hb9.mono (Nat.le_of_lt hA7.lt));have y0 : w9.cell? ⟨r, 0, none⟩ = some (.int .i64 0) := hA9.cell 0;have y1 : w9.cell? ⟨r, 1, none⟩ = some (.int .i64 0) := hA9.cell 1;have y2 : w9.cell? ⟨r, 2, none⟩ = some (.int .i64 0) := hA9.cell 2;have y3 : w9.cell? ⟨r, 3, none⟩ = some (S []) := hA9.cell 3;have y4 : w9.cell? ⟨r, 4, none⟩ = some (.int .i64 0) := hA9.cell 4;have y5 : w9.cell? ⟨r, 5, none⟩ = some (.slice none 0 0) := hA9.cell 5;have y6 : w9.cell? ⟨r, 6, none⟩ = some (.int .i64 0) := hA9.cell 6;have y7 : w9.cell? ⟨r, 7, none⟩ = some (.int .i64 0) := hA9.cell 7;have y8 : w9.cell? ⟨r, 8, none⟩ = some (.int .i64 0) := hA9.cell 8;have y9 : w9.cell? ⟨r, 9, none⟩ = some (.int .i64 0) := hA9.cell 9;have y10 : w9.cell? ⟨r, 10, none⟩ = some (.int .i64 0) := hA9.cell 10;have y11 : w9.cell? ⟨r, 11, none⟩ = some (.bool false) := hA9.cell 11;have f0 := hA9.free 0;have f1 := hA9.free 1;have f2 := hA9.free 2;have f3 := hA9.free 3;have f4 := hA9.free 4;have f5 := hA9.free 5;have f6 := hA9.free 6;have f7 := hA9.free 7;have f8 := hA9.free 8;have f9 := hA9.free 9;have f10 := hA9.free 10;have f11 := hA9.free 11;have x0 : w9.cell? ⟨r + 1, 0, none⟩ = some (.bool false) := hC9.cell 0;have x1 : w9.cell? ⟨r + 1, 1, none⟩ = some (.int .i64 0) := hC9.cell 1;have x2 : w9.cell? ⟨r + 1, 2, none⟩ = some (.int .i64 0) := hC9.cell 2;have q0 := hC9.free 0;have q1 := hC9.free 1;have q2 := hC9.free 2)
    | (go_at_call 163;refine (hO _ hF6 (hBr _ (Bl.tr hb5 hb6))).mono ?_;rintro e w7 ⟨hu7, rfl⟩;have hA7 := hA6.but hu7 hn1;have hC7 := hC6.but hu7 hn2;have hB7 := hB6.trans (hu7.below (fun k e => by rw [e];omega) (Nat.le_of_lt hA6.lt)))
    | (go_at_call 162;have tk := hb5;refine (hZ _).mono ?_;rintro e w6 ⟨rfl, hb6⟩;have hA6 := hA5.on hb6;have hC6 := hC5.on hb6;have hF6 := hF5.on hb6;have hB6 := hB5.trans (hb6.mono (Nat.le_of_lt hA5.lt));have hY6 := hY5.below (hb6.mono (Nat.le_of_lt hA5.lt)))
    | (go_at_call 162;refine (hZ _).mono ?_;rintro e w5 ⟨rfl, hb5⟩;have hA5 := hA1.on hb5;have hC5 := hC1.on hb5;have hF5 := hF1.on hb5;have hB5 := hB1.trans (hb5.mono (Nat.le_of_lt hA1.lt));have hY5 := hY1.below (hb5.mono (Nat.le_of_lt hA1.lt));have z0k5 : w5.cell? ⟨G, 0, none⟩ = some (.int .i64 (ty : Int)) := hF5.cell 0;have z1k5 : w5.cell? ⟨G, 1, none⟩ = some (.int .i64 (fl : Int)) := hF5.cell 1;have z2k5 : w5.cell? ⟨G, 2, none⟩ = some (.int .i64 (st : Int)) := hF5.cell 2)
    | (go_at_call 161;refine hM.mono ?_;rintro e W1 ⟨rfl, rfl⟩))
   exact ret_take rfl rfl rfl (oth3 (set12 hA9 _ _ _ _ _ _ _ _ _ _ _ _) hne _ _ _) (set3 (oth12 hC9 hne' _ _ _ _ _ _ _ _ _ _ _ _) _ _ _) (by rw [HR.out, if_neg c4', if_neg c5', ← HP.out, ho];exact ⟨_, rfl, World.ownsRow_nil _ _ _ _, by rw [← ER.out];exact bel3 (bel12 hB9 (Nat.le_refl _) _ _ _ _ _ _ _ _ _ _ _ _) (by omega) _ _ _⟩)
  obtain ⟨hf1, hf2, hf3⟩ := openF_head ho
  rw [ho] at hO
  have HO := Lib.hid ho
  clear ho
  have HF := Lib.hid (And.intro hf1 (And.intro hf2 hf3))
  clear hf1 hf2 hf3
  by_cases c8 : ty = 8 ∧ f.inc = 0
  ·have t8 : ((ty : Int) == 8) = true := by rw [c8.1];rfl
   have ti : ((f.inc : Int) == 0) = true := by rw [c8.2];rfl
   have C8 := Lib.hid c8
   clear c8
   by_cases c9 : st = 0
   ·have ts : ((st : Int) != 0) = false := by rw [c9];rfl
    have C9 := Lib.hid c9
    clear c9
    go_wp2_with (first
     | (go_at_call 159;refine (hW1 _).mono ?_;rintro e w9 ⟨rfl, hb9⟩;have hA9 := hA7.on hb9;have hC9 := hC7.on hb9;have hB9 := hB7.trans (hb9.mono (Nat.le_of_lt hA7.lt));have y0 : w9.cell? ⟨r, 0, none⟩ = some (.int .i64 0) := hA9.cell 0;have y1 : w9.cell? ⟨r, 1, none⟩ = some (.int .i64 0) := hA9.cell 1;have y2 : w9.cell? ⟨r, 2, none⟩ = some (.int .i64 0) := hA9.cell 2;have y3 : w9.cell? ⟨r, 3, none⟩ = some (S []) := hA9.cell 3;have y4 : w9.cell? ⟨r, 4, none⟩ = some (.int .i64 0) := hA9.cell 4;have y5 : w9.cell? ⟨r, 5, none⟩ = some (.slice none 0 0) := hA9.cell 5;have y6 : w9.cell? ⟨r, 6, none⟩ = some (.int .i64 0) := hA9.cell 6;have y7 : w9.cell? ⟨r, 7, none⟩ = some (.int .i64 0) := hA9.cell 7;have y8 : w9.cell? ⟨r, 8, none⟩ = some (.int .i64 0) := hA9.cell 8;have y9 : w9.cell? ⟨r, 9, none⟩ = some (.int .i64 0) := hA9.cell 9;have y10 : w9.cell? ⟨r, 10, none⟩ = some (.int .i64 0) := hA9.cell 10;have y11 : w9.cell? ⟨r, 11, none⟩ = some (.bool false) := hA9.cell 11;have f0 := hA9.free 0;have f1 := hA9.free 1;have f2 := hA9.free 2;have f3 := hA9.free 3;have f4 := hA9.free 4;have f5 := hA9.free 5;have f6 := hA9.free 6;have f7 := hA9.free 7;have f8 := hA9.free 8;have f9 := hA9.free 9;have f10 := hA9.free 10;have f11 := hA9.free 11;have x0 : w9.cell? ⟨r + 1, 0, none⟩ = some (.bool false) := hC9.cell 0;have x1 : w9.cell? ⟨r + 1, 1, none⟩ = some (.int .i64 0) := hC9.cell 1;have x2 : w9.cell? ⟨r + 1, 2, none⟩ = some (.int .i64 0) := hC9.cell 2;have q0 := hC9.free 0;have q1 := hC9.free 1;have q2 := hC9.free 2)
     | (go_at_call 163;refine (hO _ hF6 (hBr _ (Bl.tr hb5 hb6))).mono ?_;rintro e w7 ⟨hu7, rfl, vs, hF7, hown⟩;obtain ⟨av, cv, rfl⟩ := own_form hown;have hA7 := hA6.but hu7 hn1;have hC7 := hC6.but hu7 hn2;have hB7 := hB6.trans (hu7.below (fun k e => by rw [e];omega) (Nat.le_of_lt hA6.lt));have o0 : w7.cell? ⟨G, 0, none⟩ = some (.int .i64 (ty : Int)) := (by rw [← HF.out.1];exact hF7.cell 0);have o2 : w7.cell? ⟨G, 2, none⟩ = some (.int .i64 (st : Int)) := (by rw [← HF.out.2.2];exact hF7.cell 2);have o5 : w7.cell? ⟨G, 5, none⟩ = some (.slice av f.sets.length cv) := hF7.cell 5;have o8 : w7.cell? ⟨G, 8, none⟩ = some (.int .i64 (f.inc : Int)) := hF7.cell 8)
     | (go_at_call 162;have tk := hb5;refine (hZ _).mono ?_;rintro e w6 ⟨rfl, hb6⟩;have hA6 := hA5.on hb6;have hC6 := hC5.on hb6;have hF6 := hF5.on hb6;have hB6 := hB5.trans (hb6.mono (Nat.le_of_lt hA5.lt));have hY6 := hY5.below (hb6.mono (Nat.le_of_lt hA5.lt)))
     | (go_at_call 162;refine (hZ _).mono ?_;rintro e w5 ⟨rfl, hb5⟩;have hA5 := hA1.on hb5;have hC5 := hC1.on hb5;have hF5 := hF1.on hb5;have hB5 := hB1.trans (hb5.mono (Nat.le_of_lt hA1.lt));have hY5 := hY1.below (hb5.mono (Nat.le_of_lt hA1.lt));have z0k5 : w5.cell? ⟨G, 0, none⟩ = some (.int .i64 (ty : Int)) := hF5.cell 0;have z1k5 : w5.cell? ⟨G, 1, none⟩ = some (.int .i64 (fl : Int)) := hF5.cell 1;have z2k5 : w5.cell? ⟨G, 2, none⟩ = some (.int .i64 (st : Int)) := hF5.cell 2)
     | (go_at_call 161;refine hM.mono ?_;rintro e W1 ⟨rfl, rfl⟩))
    exact ret_take rfl rfl rfl (oth3 (set12 hA9 _ _ _ _ _ _ _ _ _ _ _ _) hne _ _ _) (set3 (oth12 hC9 hne' _ _ _ _ _ _ _ _ _ _ _ _) _ _ _) (by rw [HR.out, if_neg c4', if_neg c5', ← HP.out, HO.out];dsimp only;rw [if_pos C8.out, if_pos C9.out];exact ⟨_, rfl, World.ownsRow_nil _ _ _ _, by rw [← ER.out];exact bel3 (bel12 hB9 (Nat.le_refl _) _ _ _ _ _ _ _ _ _ _ _ _) (by omega) _ _ _⟩)
   ·have ts : ((st : Int) != 0) = true := by rw [show ((st : Int) != 0) = (st != 0) from inb st 0];simpa using c9
    have C9 := Lib.hid c9
    clear c9
    go_upto_region 20 with (first
     | (go_at_call 163;refine (hO _ hF6 (hBr _ (Bl.tr hb5 hb6))).mono ?_;rintro e w9 ⟨hu7, rfl, vs, hF9, hown⟩;obtain ⟨av, cv, rfl⟩ := own_form hown;have hA9 := hA6.but hu7 hn1;have hC9 := hC6.but hu7 hn2;have hB9 := hB6.trans (hu7.below (fun k e => by rw [e];omega) (Nat.le_of_lt hA6.lt));have o0 : w9.cell? ⟨G, 0, none⟩ = some (.int .i64 (ty : Int)) := (by rw [← HF.out.1];exact hF9.cell 0);have o2 : w9.cell? ⟨G, 2, none⟩ = some (.int .i64 (st : Int)) := (by rw [← HF.out.2.2];exact hF9.cell 2);have o5 : w9.cell? ⟨G, 5, none⟩ = some (.slice av f.sets.length cv) := hF9.cell 5;have o8 : w9.cell? ⟨G, 8, none⟩ = some (.int .i64 (f.inc : Int)) := hF9.cell 8)
     | (go_at_call 162;have tk := hb5;refine (hZ _).mono ?_;rintro e w6 ⟨rfl, hb6⟩;have hA6 := hA5.on hb6;have hC6 := hC5.on hb6;have hF6 := hF5.on hb6;have hB6 := hB5.trans (hb6.mono (Nat.le_of_lt hA5.lt));have hY6 := hY5.below (hb6.mono (Nat.le_of_lt hA5.lt)))
     | (go_at_call 162;refine (hZ _).mono ?_;rintro e w5 ⟨rfl, hb5⟩;have hA5 := hA1.on hb5;have hC5 := hC1.on hb5;have hF5 := hF1.on hb5;have hB5 := hB1.trans (hb5.mono (Nat.le_of_lt hA1.lt));have hY5 := hY1.below (hb5.mono (Nat.le_of_lt hA1.lt));have z0k5 : w5.cell? ⟨G, 0, none⟩ = some (.int .i64 (ty : Int)) := hF5.cell 0;have z1k5 : w5.cell? ⟨G, 1, none⟩ = some (.int .i64 (fl : Int)) := hF5.cell 1;have z2k5 : w5.cell? ⟨G, 2, none⟩ = some (.int .i64 (st : Int)) := hF5.cell 2)
     | (go_at_call 161;refine hM.mono ?_;rintro e W1 ⟨rfl, rfl⟩))
    have y0 : w9.cell? ⟨r, 0, none⟩ = some (.int .i64 0) := hA9.cell 0;have y1 : w9.cell? ⟨r, 1, none⟩ = some (.int .i64 0) := hA9.cell 1;have y2 : w9.cell? ⟨r, 2, none⟩ = some (.int .i64 0) := hA9.cell 2;have y3 : w9.cell? ⟨r, 3, none⟩ = some (S []) := hA9.cell 3;have y4 : w9.cell? ⟨r, 4, none⟩ = some (.int .i64 0) := hA9.cell 4;have y5 : w9.cell? ⟨r, 5, none⟩ = some (.slice none 0 0) := hA9.cell 5;have y6 : w9.cell? ⟨r, 6, none⟩ = some (.int .i64 0) := hA9.cell 6;have y7 : w9.cell? ⟨r, 7, none⟩ = some (.int .i64 0) := hA9.cell 7;have y8 : w9.cell? ⟨r, 8, none⟩ = some (.int .i64 0) := hA9.cell 8;have y9 : w9.cell? ⟨r, 9, none⟩ = some (.int .i64 0) := hA9.cell 9;have y10 : w9.cell? ⟨r, 10, none⟩ = some (.int .i64 0) := hA9.cell 10;have y11 : w9.cell? ⟨r, 11, none⟩ = some (.bool false) := hA9.cell 11;have f0 := hA9.free 0;have f1 := hA9.free 1;have f2 := hA9.free 2;have f3 := hA9.free 3;have f4 := hA9.free 4;have f5 := hA9.free 5;have f6 := hA9.free 6;have f7 := hA9.free 7;have f8 := hA9.free 8;have f9 := hA9.free 9;have f10 := hA9.free 10;have f11 := hA9.free 11;have x0 : w9.cell? ⟨r + 1, 0, none⟩ = some (.bool false) := hC9.cell 0;have x1 : w9.cell? ⟨r + 1, 1, none⟩ = some (.int .i64 0) := hC9.cell 1;have x2 : w9.cell? ⟨r + 1, 2, none⟩ = some (.int .i64 0) := hC9.cell 2;have q0 := hC9.free 0;have q1 := hC9.free 1;have q2 := hC9.free 2
    go_region_with (fail)
    all_goals go_wp2
    all_goals (first | (with_reducible refine (show bodyPost _ _ _ _ _ (World.drew (World.setCell _ ⟨r + 1, 2, none⟩ _)) from ?_));exact ret_take rfl rfl rfl (oth3 (set12 hA9 _ _ _ _ _ _ _ _ _ _ _ _) hne _ _ _).drew (set3 (oth12 hC9 hne' _ _ _ _ _ _ _ _ _ _ _ _) _ _ _).drew (by rw [HR.out, if_neg c4', if_neg c5', ← HP.out, HO.out];dsimp only;rw [if_pos C8.out, if_neg C9.out];exact ⟨_, rfl, World.ownsRow_nil _ _ _ _, by rw [← ER.out];exact (bel3 (bel12 hB9 (Nat.le_refl _) _ _ _ _ _ _ _ _ _ _ _ _) (by omega) _ _ _).drew⟩) | (with_reducible refine (show bodyPost _ _ _ _ _ (World.drew (World.setCell _ ⟨r, 11, none⟩ _)) from ?_));exact ret_take rfl rfl rfl (set12 (oth3 hA9 hne _ _ _) _ _ _ _ _ _ _ _ _ _ _ _).drew (oth12 (set3 hC9 _ _ _) hne' _ _ _ _ _ _ _ _ _ _ _ _).drew (by rw [HR.out, if_neg c4', if_neg c5', ← HP.out, HO.out];dsimp only;rw [if_pos C8.out, if_neg C9.out];exact ⟨_, rfl, World.ownsRow_nil _ _ _ _, by rw [← ER.out];exact (bel12 (bel3 hB9 (by omega) _ _ _) (Nat.le_refl _) _ _ _ _ _ _ _ _ _ _ _ _).drew⟩))
  have hg : (((ty : Int) == 8) = false) ∨ (((ty : Int) == 8) = true ∧ ((f.inc : Int) == 0) = false) := by
   by_cases c9 : ty = 8
   ·exact .inr ⟨by rw [c9];rfl, i_ne (b := 0) (fun e => c8 ⟨c9, e⟩)⟩
   ·exact .inl (i_ne (b := 8) c9)
  have C8 := Lib.hid c8
  clear c8
  rcases hg with t8 | ⟨t8, ti⟩
  ·rcases hu : unfF f.sets with _ | c <;> have HU := Lib.hid hu <;> clear hu
   ·go_upto_region 26 with (first
     | (go_at_call 164;have hU := Unfit_any f.sets (.slice av f.sets.length cv) w7 (Rd.own hown);rw [HU.out] at hU;replace hU := (show Calls Tryz.prog 164 #[.slice av f.sets.length cv] w7 (fun e w' => e = .returned (.agg #[.bool false, .int .i64 0, .int .i64 0]) ∧ Below w7.heap.size w7 w') from hU);refine hU.mono ?_;rintro e w8 ⟨rfl, hb8⟩;have hA8 := hA7.on hb8;have hC8 := hC7.on hb8;have hF8 := hF7.on hb8;have hB8 := hB7.trans (hb8.mono (Nat.le_of_lt hA7.lt)))
     | (go_at_call 163;refine (hO _ hF6 (hBr _ (Bl.tr hb5 hb6))).mono ?_;rintro e w7 ⟨hu7, rfl, vs, hF7, hown⟩;obtain ⟨av, cv, rfl⟩ := own_form hown;have hA7 := hA6.but hu7 hn1;have hC7 := hC6.but hu7 hn2;have hB7 := hB6.trans (hu7.below (fun k e => by rw [e];omega) (Nat.le_of_lt hA6.lt));have o0 : w7.cell? ⟨G, 0, none⟩ = some (.int .i64 (ty : Int)) := (by rw [← HF.out.1];exact hF7.cell 0);have o2 : w7.cell? ⟨G, 2, none⟩ = some (.int .i64 (st : Int)) := (by rw [← HF.out.2.2];exact hF7.cell 2);have o5 : w7.cell? ⟨G, 5, none⟩ = some (.slice av f.sets.length cv) := hF7.cell 5;have o8 : w7.cell? ⟨G, 8, none⟩ = some (.int .i64 (f.inc : Int)) := hF7.cell 8)
     | (go_at_call 162;have tk := hb5;refine (hZ _).mono ?_;rintro e w6 ⟨rfl, hb6⟩;have hA6 := hA5.on hb6;have hC6 := hC5.on hb6;have hF6 := hF5.on hb6;have hB6 := hB5.trans (hb6.mono (Nat.le_of_lt hA5.lt));have hY6 := hY5.below (hb6.mono (Nat.le_of_lt hA5.lt)))
     | (go_at_call 162;refine (hZ _).mono ?_;rintro e w5 ⟨rfl, hb5⟩;have hA5 := hA1.on hb5;have hC5 := hC1.on hb5;have hF5 := hF1.on hb5;have hB5 := hB1.trans (hb5.mono (Nat.le_of_lt hA1.lt));have hY5 := hY1.below (hb5.mono (Nat.le_of_lt hA1.lt));have z0k5 : w5.cell? ⟨G, 0, none⟩ = some (.int .i64 (ty : Int)) := hF5.cell 0;have z1k5 : w5.cell? ⟨G, 1, none⟩ = some (.int .i64 (fl : Int)) := hF5.cell 1;have z2k5 : w5.cell? ⟨G, 2, none⟩ = some (.int .i64 (st : Int)) := hF5.cell 2)
     | (go_at_call 161;refine hM.mono ?_;rintro e W1 ⟨rfl, rfl⟩))
    obtain ⟨w9, e9⟩ : ∃ w9, w9 = w8.alloc (.cells #[.bool false, .int .i64 0, .int .i64 0] 72) := ⟨_, rfl⟩
    rw [← e9]
    have hA9 : Blk w9 r 34 #[(.int .i64 0), (.int .i64 0), (.int .i64 0), (S []), (.int .i64 0), (.slice none 0 0), (.int .i64 0), (.int .i64 0), (.int .i64 0), (.int .i64 0), (.int .i64 0), (.bool false)] := by rw [e9];exact hA8.alloc _
    have hC9 : Blk w9 (r + 1) 72 #[(.bool false), (.int .i64 0), (.int .i64 0)] := by rw [e9];exact hC8.alloc _
    have hF9 : Blk w9 G 34 (f.cells (.slice av f.sets.length cv)) := by rw [e9];exact hF8.alloc _
    have hX9 : Blk w9 w8.heap.size 72 #[.bool false, .int .i64 0, .int .i64 0] := by rw [e9];exact Blk.new _ _ _
    have hB9 : Below r w w9 := by rw [e9];exact hB8.alloc (Nat.le_of_lt hA8.lt) _
    have ho9 : w9.ownsRow w6.heap.size 31 2 (.slice av f.sets.length cv) f.sets.length (scells f.sets) := by rw [e9];exact (own_below hown hb8).alloc _
    have hr6 := hA6.lt
    have hr7 := hC6.lt
    clear e9 hs9 hM hZ hO hW1 hW6
    have y0 : w9.cell? ⟨r, 0, none⟩ = some (.int .i64 0) := hA9.cell 0;have y1 : w9.cell? ⟨r, 1, none⟩ = some (.int .i64 0) := hA9.cell 1;have y2 : w9.cell? ⟨r, 2, none⟩ = some (.int .i64 0) := hA9.cell 2;have y3 : w9.cell? ⟨r, 3, none⟩ = some (S []) := hA9.cell 3;have y4 : w9.cell? ⟨r, 4, none⟩ = some (.int .i64 0) := hA9.cell 4;have y5 : w9.cell? ⟨r, 5, none⟩ = some (.slice none 0 0) := hA9.cell 5;have y6 : w9.cell? ⟨r, 6, none⟩ = some (.int .i64 0) := hA9.cell 6;have y7 : w9.cell? ⟨r, 7, none⟩ = some (.int .i64 0) := hA9.cell 7;have y8 : w9.cell? ⟨r, 8, none⟩ = some (.int .i64 0) := hA9.cell 8;have y9 : w9.cell? ⟨r, 9, none⟩ = some (.int .i64 0) := hA9.cell 9;have y10 : w9.cell? ⟨r, 10, none⟩ = some (.int .i64 0) := hA9.cell 10;have y11 : w9.cell? ⟨r, 11, none⟩ = some (.bool false) := hA9.cell 11;have f0 := hA9.free 0;have f1 := hA9.free 1;have f2 := hA9.free 2;have f3 := hA9.free 3;have f4 := hA9.free 4;have f5 := hA9.free 5;have f6 := hA9.free 6;have f7 := hA9.free 7;have f8 := hA9.free 8;have f9 := hA9.free 9;have f10 := hA9.free 10;have f11 := hA9.free 11;have x0 : w9.cell? ⟨r + 1, 0, none⟩ = some (.bool false) := hC9.cell 0;have x1 : w9.cell? ⟨r + 1, 1, none⟩ = some (.int .i64 0) := hC9.cell 1;have x2 : w9.cell? ⟨r + 1, 2, none⟩ = some (.int .i64 0) := hC9.cell 2;have q0 := hC9.free 0;have q1 := hC9.free 1;have q2 := hC9.free 2
    have m0 : w9.cell? ⟨G, 0, none⟩ = some (.int .i64 (f.ty : Nat)) := hF9.cell 0;have m1 : w9.cell? ⟨G, 1, none⟩ = some (.int .i64 (f.fl : Nat)) := hF9.cell 1;have m2 : w9.cell? ⟨G, 2, none⟩ = some (.int .i64 (f.st : Nat)) := hF9.cell 2;have m3 : w9.cell? ⟨G, 3, none⟩ = some (S f.data) := hF9.cell 3;have m4 : w9.cell? ⟨G, 4, none⟩ = some (.int .i64 (f.pad : Nat)) := hF9.cell 4;have m5 : w9.cell? ⟨G, 5, none⟩ = some (.slice av f.sets.length cv) := hF9.cell 5;have m6 : w9.cell? ⟨G, 6, none⟩ = some (.int .i64 (f.code : Nat)) := hF9.cell 6;have m7 : w9.cell? ⟨G, 7, none⟩ = some (.int .i64 (f.last : Nat)) := hF9.cell 7;have m8 : w9.cell? ⟨G, 8, none⟩ = some (.int .i64 (f.inc : Nat)) := hF9.cell 8;have m9 : w9.cell? ⟨G, 9, none⟩ = some (.int .i64 (f.dep : Nat)) := hF9.cell 9;have m10 : w9.cell? ⟨G, 10, none⟩ = some (.int .i64 (f.wt : Nat)) := hF9.cell 10;have m11 : w9.cell? ⟨G, 11, none⟩ = some (.bool f.sole) := hF9.cell 11
    go_wp2
    exact ret_take rfl rfl rfl (oth3 (set12 hA9 _ _ _ _ _ _ _ _ _ _ _ _) hne _ _ _) (set3 (oth12 hC9 hne' _ _ _ _ _ _ _ _ _ _ _ _) _ _ _) (by rw [HR.out, if_neg c4', if_neg c5', ← HP.out, HO.out];dsimp only;rw [if_neg C8.out, HU.out];exact ⟨_, rfl, own_base (own3 (own12 ho9 hr6 _ _ _ _ _ _ _ _ _ _ _ _) hr7 _ _ _) (by rw [← ER.out];exact Nat.le_of_lt hr6), by rw [← ER.out];exact bel3 (bel12 hB9 (Nat.le_refl _) _ _ _ _ _ _ _ _ _ _ _ _) (by omega) _ _ _⟩)
   ·go_upto_region 25 with (first
     | (go_at_call 164;have hU := Unfit_any f.sets (.slice av f.sets.length cv) w7 (Rd.own hown);rw [HU.out] at hU;replace hU := (show Calls Tryz.prog 164 #[.slice av f.sets.length cv] w7 (fun e w' => e = .returned (.agg #[.bool true, .int .i64 (c : Int), .int .i64 0]) ∧ Below w7.heap.size w7 w') from hU);refine hU.mono ?_;rintro e w8 ⟨rfl, hb8⟩;have hA8 := hA7.on hb8;have hC8 := hC7.on hb8;have hF8 := hF7.on hb8;have hB8 := hB7.trans (hb8.mono (Nat.le_of_lt hA7.lt)))
     | (go_at_call 163;refine (hO _ hF6 (hBr _ (Bl.tr hb5 hb6))).mono ?_;rintro e w7 ⟨hu7, rfl, vs, hF7, hown⟩;obtain ⟨av, cv, rfl⟩ := own_form hown;have hA7 := hA6.but hu7 hn1;have hC7 := hC6.but hu7 hn2;have hB7 := hB6.trans (hu7.below (fun k e => by rw [e];omega) (Nat.le_of_lt hA6.lt));have o0 : w7.cell? ⟨G, 0, none⟩ = some (.int .i64 (ty : Int)) := (by rw [← HF.out.1];exact hF7.cell 0);have o2 : w7.cell? ⟨G, 2, none⟩ = some (.int .i64 (st : Int)) := (by rw [← HF.out.2.2];exact hF7.cell 2);have o5 : w7.cell? ⟨G, 5, none⟩ = some (.slice av f.sets.length cv) := hF7.cell 5;have o8 : w7.cell? ⟨G, 8, none⟩ = some (.int .i64 (f.inc : Int)) := hF7.cell 8)
     | (go_at_call 162;have tk := hb5;refine (hZ _).mono ?_;rintro e w6 ⟨rfl, hb6⟩;have hA6 := hA5.on hb6;have hC6 := hC5.on hb6;have hF6 := hF5.on hb6;have hB6 := hB5.trans (hb6.mono (Nat.le_of_lt hA5.lt));have hY6 := hY5.below (hb6.mono (Nat.le_of_lt hA5.lt)))
     | (go_at_call 162;refine (hZ _).mono ?_;rintro e w5 ⟨rfl, hb5⟩;have hA5 := hA1.on hb5;have hC5 := hC1.on hb5;have hF5 := hF1.on hb5;have hB5 := hB1.trans (hb5.mono (Nat.le_of_lt hA1.lt));have hY5 := hY1.below (hb5.mono (Nat.le_of_lt hA1.lt));have z0k5 : w5.cell? ⟨G, 0, none⟩ = some (.int .i64 (ty : Int)) := hF5.cell 0;have z1k5 : w5.cell? ⟨G, 1, none⟩ = some (.int .i64 (fl : Int)) := hF5.cell 1;have z2k5 : w5.cell? ⟨G, 2, none⟩ = some (.int .i64 (st : Int)) := hF5.cell 2)
     | (go_at_call 161;refine hM.mono ?_;rintro e W1 ⟨rfl, rfl⟩))
    obtain ⟨w9, e9⟩ : ∃ w9, w9 = w8.alloc (.cells #[.bool true, .int .i64 (c : Int), .int .i64 0] 72) := ⟨_, rfl⟩
    rw [← e9]
    have hA9 : Blk w9 r 34 #[(.int .i64 0), (.int .i64 0), (.int .i64 0), (S []), (.int .i64 0), (.slice none 0 0), (.int .i64 0), (.int .i64 0), (.int .i64 0), (.int .i64 0), (.int .i64 0), (.bool false)] := by rw [e9];exact hA8.alloc _
    have hC9 : Blk w9 (r + 1) 72 #[(.bool false), (.int .i64 0), (.int .i64 0)] := by rw [e9];exact hC8.alloc _
    have hF9 : Blk w9 G 34 (f.cells (.slice av f.sets.length cv)) := by rw [e9];exact hF8.alloc _
    have hX9 : Blk w9 w8.heap.size 72 #[.bool true, .int .i64 (c : Int), .int .i64 0] := by rw [e9];exact Blk.new _ _ _
    have hB9 : Below r w w9 := by rw [e9];exact hB8.alloc (Nat.le_of_lt hA8.lt) _
    have ho9 : w9.ownsRow w6.heap.size 31 2 (.slice av f.sets.length cv) f.sets.length (scells f.sets) := by rw [e9];exact (own_below hown hb8).alloc _
    have hr6 := hA6.lt
    have hr7 := hC6.lt
    clear e9 hs9 hM hZ hO hW1 hW6
    have y0 : w9.cell? ⟨r, 0, none⟩ = some (.int .i64 0) := hA9.cell 0;have y1 : w9.cell? ⟨r, 1, none⟩ = some (.int .i64 0) := hA9.cell 1;have y2 : w9.cell? ⟨r, 2, none⟩ = some (.int .i64 0) := hA9.cell 2;have y3 : w9.cell? ⟨r, 3, none⟩ = some (S []) := hA9.cell 3;have y4 : w9.cell? ⟨r, 4, none⟩ = some (.int .i64 0) := hA9.cell 4;have y5 : w9.cell? ⟨r, 5, none⟩ = some (.slice none 0 0) := hA9.cell 5;have y6 : w9.cell? ⟨r, 6, none⟩ = some (.int .i64 0) := hA9.cell 6;have y7 : w9.cell? ⟨r, 7, none⟩ = some (.int .i64 0) := hA9.cell 7;have y8 : w9.cell? ⟨r, 8, none⟩ = some (.int .i64 0) := hA9.cell 8;have y9 : w9.cell? ⟨r, 9, none⟩ = some (.int .i64 0) := hA9.cell 9;have y10 : w9.cell? ⟨r, 10, none⟩ = some (.int .i64 0) := hA9.cell 10;have y11 : w9.cell? ⟨r, 11, none⟩ = some (.bool false) := hA9.cell 11;have f0 := hA9.free 0;have f1 := hA9.free 1;have f2 := hA9.free 2;have f3 := hA9.free 3;have f4 := hA9.free 4;have f5 := hA9.free 5;have f6 := hA9.free 6;have f7 := hA9.free 7;have f8 := hA9.free 8;have f9 := hA9.free 9;have f10 := hA9.free 10;have f11 := hA9.free 11;have x0 : w9.cell? ⟨r + 1, 0, none⟩ = some (.bool false) := hC9.cell 0;have x1 : w9.cell? ⟨r + 1, 1, none⟩ = some (.int .i64 0) := hC9.cell 1;have x2 : w9.cell? ⟨r + 1, 2, none⟩ = some (.int .i64 0) := hC9.cell 2;have q0 := hC9.free 0;have q1 := hC9.free 1;have q2 := hC9.free 2
    have k0 : w9.cell? ⟨w8.heap.size, 0, none⟩ = some (.bool true) := hX9.cell 0
    have k1 : w9.cell? ⟨w8.heap.size, 1, none⟩ = some (.int .i64 (c : Int)) := hX9.cell 1
    have k2 : w9.cell? ⟨w8.heap.size, 2, none⟩ = some (.int .i64 0) := hX9.cell 2
    obtain ⟨g8, eg8⟩ : ∃ g8, g8 = w8.heap.size := ⟨_, rfl⟩
    have ng1 : g8 ≠ r := by have := hA8.lt;omega
    have ng2 : g8 ≠ r + 1 := by have := hC8.lt;omega
    have ng3 : r ≠ g8 := ng1.symm
    have ng4 : r + 1 ≠ g8 := ng2.symm
    have ng5 : ¬ (g8 = r) := ng1
    have ng6 : ¬ (g8 = r + 1) := ng2
    rw [← eg8] at k0 k1 k2 ⊢
    clear eg8
    go_region_with (fail)
    all_goals go_wp2
    all_goals (first | (with_reducible refine (show bodyPost _ _ _ _ _ (World.drew (World.setCell _ ⟨r + 1, 2, none⟩ _)) from ?_));exact ret_take rfl rfl rfl (oth3 (set12 hA9 _ _ _ _ _ _ _ _ _ _ _ _) hne _ _ _).drew (set3 (oth12 hC9 hne' _ _ _ _ _ _ _ _ _ _ _ _) _ _ _).drew (by rw [HR.out, if_neg c4', if_neg c5', ← HP.out, HO.out];dsimp only;rw [if_neg C8.out, HU.out];exact ⟨_, rfl, World.ownsRow_nil _ _ _ _, by rw [← ER.out];exact (bel3 (bel12 hB9 (Nat.le_refl _) _ _ _ _ _ _ _ _ _ _ _ _) (by omega) _ _ _).drew⟩) | (with_reducible refine (show bodyPost _ _ _ _ _ (World.drew (World.setCell _ ⟨r, 11, none⟩ _)) from ?_));exact ret_take rfl rfl rfl (set12 (oth3 hA9 hne _ _ _) _ _ _ _ _ _ _ _ _ _ _ _).drew (oth12 (set3 hC9 _ _ _) hne' _ _ _ _ _ _ _ _ _ _ _ _).drew (by rw [HR.out, if_neg c4', if_neg c5', ← HP.out, HO.out];dsimp only;rw [if_neg C8.out, HU.out];exact ⟨_, rfl, World.ownsRow_nil _ _ _ _, by rw [← ER.out];exact (bel12 (bel3 hB9 (by omega) _ _ _) (Nat.le_refl _) _ _ _ _ _ _ _ _ _ _ _ _).drew⟩))
  ·rcases hu : unfF f.sets with _ | c <;> have HU := Lib.hid hu <;> clear hu
   ·go_upto_region 26 with (first
     | (go_at_call 164;have hU := Unfit_any f.sets (.slice av f.sets.length cv) w7 (Rd.own hown);rw [HU.out] at hU;replace hU := (show Calls Tryz.prog 164 #[.slice av f.sets.length cv] w7 (fun e w' => e = .returned (.agg #[.bool false, .int .i64 0, .int .i64 0]) ∧ Below w7.heap.size w7 w') from hU);refine hU.mono ?_;rintro e w8 ⟨rfl, hb8⟩;have hA8 := hA7.on hb8;have hC8 := hC7.on hb8;have hF8 := hF7.on hb8;have hB8 := hB7.trans (hb8.mono (Nat.le_of_lt hA7.lt)))
     | (go_at_call 163;refine (hO _ hF6 (hBr _ (Bl.tr hb5 hb6))).mono ?_;rintro e w7 ⟨hu7, rfl, vs, hF7, hown⟩;obtain ⟨av, cv, rfl⟩ := own_form hown;have hA7 := hA6.but hu7 hn1;have hC7 := hC6.but hu7 hn2;have hB7 := hB6.trans (hu7.below (fun k e => by rw [e];omega) (Nat.le_of_lt hA6.lt));have o0 : w7.cell? ⟨G, 0, none⟩ = some (.int .i64 (ty : Int)) := (by rw [← HF.out.1];exact hF7.cell 0);have o2 : w7.cell? ⟨G, 2, none⟩ = some (.int .i64 (st : Int)) := (by rw [← HF.out.2.2];exact hF7.cell 2);have o5 : w7.cell? ⟨G, 5, none⟩ = some (.slice av f.sets.length cv) := hF7.cell 5;have o8 : w7.cell? ⟨G, 8, none⟩ = some (.int .i64 (f.inc : Int)) := hF7.cell 8)
     | (go_at_call 162;have tk := hb5;refine (hZ _).mono ?_;rintro e w6 ⟨rfl, hb6⟩;have hA6 := hA5.on hb6;have hC6 := hC5.on hb6;have hF6 := hF5.on hb6;have hB6 := hB5.trans (hb6.mono (Nat.le_of_lt hA5.lt));have hY6 := hY5.below (hb6.mono (Nat.le_of_lt hA5.lt)))
     | (go_at_call 162;refine (hZ _).mono ?_;rintro e w5 ⟨rfl, hb5⟩;have hA5 := hA1.on hb5;have hC5 := hC1.on hb5;have hF5 := hF1.on hb5;have hB5 := hB1.trans (hb5.mono (Nat.le_of_lt hA1.lt));have hY5 := hY1.below (hb5.mono (Nat.le_of_lt hA1.lt));have z0k5 : w5.cell? ⟨G, 0, none⟩ = some (.int .i64 (ty : Int)) := hF5.cell 0;have z1k5 : w5.cell? ⟨G, 1, none⟩ = some (.int .i64 (fl : Int)) := hF5.cell 1;have z2k5 : w5.cell? ⟨G, 2, none⟩ = some (.int .i64 (st : Int)) := hF5.cell 2)
     | (go_at_call 161;refine hM.mono ?_;rintro e W1 ⟨rfl, rfl⟩))
    obtain ⟨w9, e9⟩ : ∃ w9, w9 = w8.alloc (.cells #[.bool false, .int .i64 0, .int .i64 0] 72) := ⟨_, rfl⟩
    rw [← e9]
    have hA9 : Blk w9 r 34 #[(.int .i64 0), (.int .i64 0), (.int .i64 0), (S []), (.int .i64 0), (.slice none 0 0), (.int .i64 0), (.int .i64 0), (.int .i64 0), (.int .i64 0), (.int .i64 0), (.bool false)] := by rw [e9];exact hA8.alloc _
    have hC9 : Blk w9 (r + 1) 72 #[(.bool false), (.int .i64 0), (.int .i64 0)] := by rw [e9];exact hC8.alloc _
    have hF9 : Blk w9 G 34 (f.cells (.slice av f.sets.length cv)) := by rw [e9];exact hF8.alloc _
    have hX9 : Blk w9 w8.heap.size 72 #[.bool false, .int .i64 0, .int .i64 0] := by rw [e9];exact Blk.new _ _ _
    have hB9 : Below r w w9 := by rw [e9];exact hB8.alloc (Nat.le_of_lt hA8.lt) _
    have ho9 : w9.ownsRow w6.heap.size 31 2 (.slice av f.sets.length cv) f.sets.length (scells f.sets) := by rw [e9];exact (own_below hown hb8).alloc _
    have hr6 := hA6.lt
    have hr7 := hC6.lt
    clear e9 hs9 hM hZ hO hW1 hW6
    have y0 : w9.cell? ⟨r, 0, none⟩ = some (.int .i64 0) := hA9.cell 0;have y1 : w9.cell? ⟨r, 1, none⟩ = some (.int .i64 0) := hA9.cell 1;have y2 : w9.cell? ⟨r, 2, none⟩ = some (.int .i64 0) := hA9.cell 2;have y3 : w9.cell? ⟨r, 3, none⟩ = some (S []) := hA9.cell 3;have y4 : w9.cell? ⟨r, 4, none⟩ = some (.int .i64 0) := hA9.cell 4;have y5 : w9.cell? ⟨r, 5, none⟩ = some (.slice none 0 0) := hA9.cell 5;have y6 : w9.cell? ⟨r, 6, none⟩ = some (.int .i64 0) := hA9.cell 6;have y7 : w9.cell? ⟨r, 7, none⟩ = some (.int .i64 0) := hA9.cell 7;have y8 : w9.cell? ⟨r, 8, none⟩ = some (.int .i64 0) := hA9.cell 8;have y9 : w9.cell? ⟨r, 9, none⟩ = some (.int .i64 0) := hA9.cell 9;have y10 : w9.cell? ⟨r, 10, none⟩ = some (.int .i64 0) := hA9.cell 10;have y11 : w9.cell? ⟨r, 11, none⟩ = some (.bool false) := hA9.cell 11;have f0 := hA9.free 0;have f1 := hA9.free 1;have f2 := hA9.free 2;have f3 := hA9.free 3;have f4 := hA9.free 4;have f5 := hA9.free 5;have f6 := hA9.free 6;have f7 := hA9.free 7;have f8 := hA9.free 8;have f9 := hA9.free 9;have f10 := hA9.free 10;have f11 := hA9.free 11;have x0 : w9.cell? ⟨r + 1, 0, none⟩ = some (.bool false) := hC9.cell 0;have x1 : w9.cell? ⟨r + 1, 1, none⟩ = some (.int .i64 0) := hC9.cell 1;have x2 : w9.cell? ⟨r + 1, 2, none⟩ = some (.int .i64 0) := hC9.cell 2;have q0 := hC9.free 0;have q1 := hC9.free 1;have q2 := hC9.free 2
    have m0 : w9.cell? ⟨G, 0, none⟩ = some (.int .i64 (f.ty : Nat)) := hF9.cell 0;have m1 : w9.cell? ⟨G, 1, none⟩ = some (.int .i64 (f.fl : Nat)) := hF9.cell 1;have m2 : w9.cell? ⟨G, 2, none⟩ = some (.int .i64 (f.st : Nat)) := hF9.cell 2;have m3 : w9.cell? ⟨G, 3, none⟩ = some (S f.data) := hF9.cell 3;have m4 : w9.cell? ⟨G, 4, none⟩ = some (.int .i64 (f.pad : Nat)) := hF9.cell 4;have m5 : w9.cell? ⟨G, 5, none⟩ = some (.slice av f.sets.length cv) := hF9.cell 5;have m6 : w9.cell? ⟨G, 6, none⟩ = some (.int .i64 (f.code : Nat)) := hF9.cell 6;have m7 : w9.cell? ⟨G, 7, none⟩ = some (.int .i64 (f.last : Nat)) := hF9.cell 7;have m8 : w9.cell? ⟨G, 8, none⟩ = some (.int .i64 (f.inc : Nat)) := hF9.cell 8;have m9 : w9.cell? ⟨G, 9, none⟩ = some (.int .i64 (f.dep : Nat)) := hF9.cell 9;have m10 : w9.cell? ⟨G, 10, none⟩ = some (.int .i64 (f.wt : Nat)) := hF9.cell 10;have m11 : w9.cell? ⟨G, 11, none⟩ = some (.bool f.sole) := hF9.cell 11
    go_wp2
    exact ret_take rfl rfl rfl (oth3 (set12 hA9 _ _ _ _ _ _ _ _ _ _ _ _) hne _ _ _) (set3 (oth12 hC9 hne' _ _ _ _ _ _ _ _ _ _ _ _) _ _ _) (by rw [HR.out, if_neg c4', if_neg c5', ← HP.out, HO.out];dsimp only;rw [if_neg C8.out, HU.out];exact ⟨_, rfl, own_base (own3 (own12 ho9 hr6 _ _ _ _ _ _ _ _ _ _ _ _) hr7 _ _ _) (by rw [← ER.out];exact Nat.le_of_lt hr6), by rw [← ER.out];exact bel3 (bel12 hB9 (Nat.le_refl _) _ _ _ _ _ _ _ _ _ _ _ _) (by omega) _ _ _⟩)
   ·go_upto_region 25 with (first
     | (go_at_call 164;have hU := Unfit_any f.sets (.slice av f.sets.length cv) w7 (Rd.own hown);rw [HU.out] at hU;replace hU := (show Calls Tryz.prog 164 #[.slice av f.sets.length cv] w7 (fun e w' => e = .returned (.agg #[.bool true, .int .i64 (c : Int), .int .i64 0]) ∧ Below w7.heap.size w7 w') from hU);refine hU.mono ?_;rintro e w8 ⟨rfl, hb8⟩;have hA8 := hA7.on hb8;have hC8 := hC7.on hb8;have hF8 := hF7.on hb8;have hB8 := hB7.trans (hb8.mono (Nat.le_of_lt hA7.lt)))
     | (go_at_call 163;refine (hO _ hF6 (hBr _ (Bl.tr hb5 hb6))).mono ?_;rintro e w7 ⟨hu7, rfl, vs, hF7, hown⟩;obtain ⟨av, cv, rfl⟩ := own_form hown;have hA7 := hA6.but hu7 hn1;have hC7 := hC6.but hu7 hn2;have hB7 := hB6.trans (hu7.below (fun k e => by rw [e];omega) (Nat.le_of_lt hA6.lt));have o0 : w7.cell? ⟨G, 0, none⟩ = some (.int .i64 (ty : Int)) := (by rw [← HF.out.1];exact hF7.cell 0);have o2 : w7.cell? ⟨G, 2, none⟩ = some (.int .i64 (st : Int)) := (by rw [← HF.out.2.2];exact hF7.cell 2);have o5 : w7.cell? ⟨G, 5, none⟩ = some (.slice av f.sets.length cv) := hF7.cell 5;have o8 : w7.cell? ⟨G, 8, none⟩ = some (.int .i64 (f.inc : Int)) := hF7.cell 8)
     | (go_at_call 162;have tk := hb5;refine (hZ _).mono ?_;rintro e w6 ⟨rfl, hb6⟩;have hA6 := hA5.on hb6;have hC6 := hC5.on hb6;have hF6 := hF5.on hb6;have hB6 := hB5.trans (hb6.mono (Nat.le_of_lt hA5.lt));have hY6 := hY5.below (hb6.mono (Nat.le_of_lt hA5.lt)))
     | (go_at_call 162;refine (hZ _).mono ?_;rintro e w5 ⟨rfl, hb5⟩;have hA5 := hA1.on hb5;have hC5 := hC1.on hb5;have hF5 := hF1.on hb5;have hB5 := hB1.trans (hb5.mono (Nat.le_of_lt hA1.lt));have hY5 := hY1.below (hb5.mono (Nat.le_of_lt hA1.lt));have z0k5 : w5.cell? ⟨G, 0, none⟩ = some (.int .i64 (ty : Int)) := hF5.cell 0;have z1k5 : w5.cell? ⟨G, 1, none⟩ = some (.int .i64 (fl : Int)) := hF5.cell 1;have z2k5 : w5.cell? ⟨G, 2, none⟩ = some (.int .i64 (st : Int)) := hF5.cell 2)
     | (go_at_call 161;refine hM.mono ?_;rintro e W1 ⟨rfl, rfl⟩))
    obtain ⟨w9, e9⟩ : ∃ w9, w9 = w8.alloc (.cells #[.bool true, .int .i64 (c : Int), .int .i64 0] 72) := ⟨_, rfl⟩
    rw [← e9]
    have hA9 : Blk w9 r 34 #[(.int .i64 0), (.int .i64 0), (.int .i64 0), (S []), (.int .i64 0), (.slice none 0 0), (.int .i64 0), (.int .i64 0), (.int .i64 0), (.int .i64 0), (.int .i64 0), (.bool false)] := by rw [e9];exact hA8.alloc _
    have hC9 : Blk w9 (r + 1) 72 #[(.bool false), (.int .i64 0), (.int .i64 0)] := by rw [e9];exact hC8.alloc _
    have hF9 : Blk w9 G 34 (f.cells (.slice av f.sets.length cv)) := by rw [e9];exact hF8.alloc _
    have hX9 : Blk w9 w8.heap.size 72 #[.bool true, .int .i64 (c : Int), .int .i64 0] := by rw [e9];exact Blk.new _ _ _
    have hB9 : Below r w w9 := by rw [e9];exact hB8.alloc (Nat.le_of_lt hA8.lt) _
    have ho9 : w9.ownsRow w6.heap.size 31 2 (.slice av f.sets.length cv) f.sets.length (scells f.sets) := by rw [e9];exact (own_below hown hb8).alloc _
    have hr6 := hA6.lt
    have hr7 := hC6.lt
    clear e9 hs9 hM hZ hO hW1 hW6
    have y0 : w9.cell? ⟨r, 0, none⟩ = some (.int .i64 0) := hA9.cell 0;have y1 : w9.cell? ⟨r, 1, none⟩ = some (.int .i64 0) := hA9.cell 1;have y2 : w9.cell? ⟨r, 2, none⟩ = some (.int .i64 0) := hA9.cell 2;have y3 : w9.cell? ⟨r, 3, none⟩ = some (S []) := hA9.cell 3;have y4 : w9.cell? ⟨r, 4, none⟩ = some (.int .i64 0) := hA9.cell 4;have y5 : w9.cell? ⟨r, 5, none⟩ = some (.slice none 0 0) := hA9.cell 5;have y6 : w9.cell? ⟨r, 6, none⟩ = some (.int .i64 0) := hA9.cell 6;have y7 : w9.cell? ⟨r, 7, none⟩ = some (.int .i64 0) := hA9.cell 7;have y8 : w9.cell? ⟨r, 8, none⟩ = some (.int .i64 0) := hA9.cell 8;have y9 : w9.cell? ⟨r, 9, none⟩ = some (.int .i64 0) := hA9.cell 9;have y10 : w9.cell? ⟨r, 10, none⟩ = some (.int .i64 0) := hA9.cell 10;have y11 : w9.cell? ⟨r, 11, none⟩ = some (.bool false) := hA9.cell 11;have f0 := hA9.free 0;have f1 := hA9.free 1;have f2 := hA9.free 2;have f3 := hA9.free 3;have f4 := hA9.free 4;have f5 := hA9.free 5;have f6 := hA9.free 6;have f7 := hA9.free 7;have f8 := hA9.free 8;have f9 := hA9.free 9;have f10 := hA9.free 10;have f11 := hA9.free 11;have x0 : w9.cell? ⟨r + 1, 0, none⟩ = some (.bool false) := hC9.cell 0;have x1 : w9.cell? ⟨r + 1, 1, none⟩ = some (.int .i64 0) := hC9.cell 1;have x2 : w9.cell? ⟨r + 1, 2, none⟩ = some (.int .i64 0) := hC9.cell 2;have q0 := hC9.free 0;have q1 := hC9.free 1;have q2 := hC9.free 2
    have k0 : w9.cell? ⟨w8.heap.size, 0, none⟩ = some (.bool true) := hX9.cell 0
    have k1 : w9.cell? ⟨w8.heap.size, 1, none⟩ = some (.int .i64 (c : Int)) := hX9.cell 1
    have k2 : w9.cell? ⟨w8.heap.size, 2, none⟩ = some (.int .i64 0) := hX9.cell 2
    obtain ⟨g8, eg8⟩ : ∃ g8, g8 = w8.heap.size := ⟨_, rfl⟩
    have ng1 : g8 ≠ r := by have := hA8.lt;omega
    have ng2 : g8 ≠ r + 1 := by have := hC8.lt;omega
    have ng3 : r ≠ g8 := ng1.symm
    have ng4 : r + 1 ≠ g8 := ng2.symm
    have ng5 : ¬ (g8 = r) := ng1
    have ng6 : ¬ (g8 = r + 1) := ng2
    rw [← eg8] at k0 k1 k2 ⊢
    clear eg8
    go_region_with (fail)
    all_goals go_wp2
    all_goals (first | (with_reducible refine (show bodyPost _ _ _ _ _ (World.drew (World.setCell _ ⟨r + 1, 2, none⟩ _)) from ?_));exact ret_take rfl rfl rfl (oth3 (set12 hA9 _ _ _ _ _ _ _ _ _ _ _ _) hne _ _ _).drew (set3 (oth12 hC9 hne' _ _ _ _ _ _ _ _ _ _ _ _) _ _ _).drew (by rw [HR.out, if_neg c4', if_neg c5', ← HP.out, HO.out];dsimp only;rw [if_neg C8.out, HU.out];exact ⟨_, rfl, World.ownsRow_nil _ _ _ _, by rw [← ER.out];exact (bel3 (bel12 hB9 (Nat.le_refl _) _ _ _ _ _ _ _ _ _ _ _ _) (by omega) _ _ _).drew⟩) | (with_reducible refine (show bodyPost _ _ _ _ _ (World.drew (World.setCell _ ⟨r, 11, none⟩ _)) from ?_));exact ret_take rfl rfl rfl (set12 (oth3 hA9 hne _ _ _) _ _ _ _ _ _ _ _ _ _ _ _).drew (oth12 (set3 hC9 _ _ _) hne' _ _ _ _ _ _ _ _ _ _ _ _).drew (by rw [HR.out, if_neg c4', if_neg c5', ← HP.out, HO.out];dsimp only;rw [if_neg C8.out, HU.out];exact ⟨_, rfl, World.ownsRow_nil _ _ _ _, by rw [← ER.out];exact (bel12 (bel3 hB9 (by omega) _ _ _) (Nat.le_refl _) _ _ _ _ _ _ _ _ _ _ _ _).drew⟩))
  )
end Go.Proofs.YtkeeofhjdffhbaaGreatDoor
