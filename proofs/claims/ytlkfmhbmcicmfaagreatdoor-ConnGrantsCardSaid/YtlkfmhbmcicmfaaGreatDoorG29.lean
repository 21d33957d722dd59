/- Parts of the proof of gr_root: the texts Rtk3 Rtk4. -/
import Derived.Test.YtlkfmhbmcicmfaaGreatDoorG28
set_option linter.unusedSimpArgs false
set_option linter.unusedVariables false
set_option linter.unnecessarySimpa false
namespace Go.Proofs.YtlkfmhbmcicmfaaGreatDoor
open Go.RowKit Go.Dr
set_option maxRecDepth 100000 in
set_option maxHeartbeats 8000000 in
theorem rTk_Win (st inc : Nat) (hst : st < 2147483648) (hin : inc < 2147483648) (hi0 : 0 < inc) : RTk (frB 8 0 st (beP inc 4)) { ty := 8, st := st, inc := inc } := by
  intro rest v w h
  have hk := (show (beP inc 4).length = 4 from by first | rfl | simp [beP])
  obtain ⟨hL, a3, a5, b3, b4, m9⟩ := frB_at 8 0 st (beP inc 4) rest (by decide) (by decide) hst (by rw [hk]; decide)
  have hlen2 : (frB 8 0 st (beP inc 4)).length = 13 := by rw [frB_length, hk]
  rw [hk] at hL a3 m9
  rw [hlen2]
  generalize frB 8 0 st (beP inc 4) ++ rest = L at *
  obtain ⟨a, c, rfl, hc, hcm⟩ := h.form
  obtain ⟨b, off, rfl, hbw, c3, c4⟩ : ∃ b off, a = some ⟨b, off, none⟩ ∧ b < w.heap.size ∧ w.cell? ⟨b, off + 3, none⟩ = some (.int .u8 8) ∧ w.cell? ⟨b, off + 4, none⟩ = some (.int .u8 0) := by
    obtain ⟨b, off, e1, hbw, c3⟩ := h.at 3 (by omega)
    obtain ⟨b', off', e2, -, c4⟩ := h.at 4 (by omega)
    rw [b3] at c3
    rw [b4] at c4
    obtain ⟨rfl, rfl⟩ : b = b' ∧ off = off' := by simpa using e1.symm.trans e2
    exact ⟨b, off, e1, hbw, c3, c4⟩
  have hm := h.cut (i := 9) (j := 13) (by decide) (by omega)
  rw [m9] at hm
  replace hm : By w.heap.size w (.slice (some ⟨b, off + 9, none⟩) 4 (c - 9)) (beP inc 4) := by
    unfold sliced at hm
    rw [if_neg (by omega)] at hm
    exact hm
  have ic7 : ¬ c = 9 := by omega
  have ic1 : ¬ (c : Int) < 13 := by omega
  have ic2 : (13 : Int) ≤ (c : Int) := by omega
  have ic3 : 13 ≤ c := by omega
  have i3 : (3 : Int) < (L.length : Int) := by omega
  have i4 : (4 : Int) < (L.length : Int) := by omega
  have i3' : 3 < L.length := by omega
  have i4' : 4 < L.length := by omega
  have t1 : decide ((L.length : Int) < 9) = false := by simp; omega
  have t1' : decide (L.length < 9) = false := by simp; omega
  have t2 : decide ((L.length : Int) - 9 < 4) = false := by simp; omega
  have in0 : ((inc : Int) == 0) = false := by simp; omega
  have in0' : ((inc == 0) : Bool) = false := by simp; omega
  have stm : (st : Int) % 2147483648 = (st : Int) := by omega
  have stm2 : Int.tmod (st : Int) 2147483648 = (st : Int) := by rw [Int.tmod_eq_emod_of_nonneg (by omega)]; omega
  obtain ⟨r, er⟩ : ∃ r, r = w.heap.size := ⟨_, rfl⟩
  obtain ⟨W0, eW0⟩ : ∃ W0, W0 = (w.alloc (.cells #[.int .i64 0, .int .i64 0, .int .i64 0, S [], .int .i64 0, .slice none 0 0, .int .i64 0, .int .i64 0, .int .i64 0, .int .i64 0, .int .i64 0, .bool false] 34)).alloc (.cells #[.bool false, .int .i64 0, .int .i64 0] 70) := ⟨_, rfl⟩
  have hA : Blk W0 r 34 #[.int .i64 0, .int .i64 0, .int .i64 0, S [], .int .i64 0, .slice none 0 0, .int .i64 0, .int .i64 0, .int .i64 0, .int .i64 0, .int .i64 0, .bool false] := by rw [eW0, er]; exact (Blk.new _ _ _).alloc _
  have hC : Blk W0 (r + 1) 70 #[.bool false, .int .i64 0, .int .i64 0] := by rw [eW0, er]; exact bnew_at _ _ _ _ (by simp)
  have hB : Below r w W0 := by rw [eW0, er]; exact ((Below.refl _ _).alloc (Nat.le_refl _) _).alloc (by simp) _
  have hz0 : W0.heap.size = r + 2 := by rw [eW0, er]; simp
  have HZ := Lib.hid hz0
  rw [← er] at h hm hbw
  have hA3 : ∀ W : World, Below r w W → Calls Tryz.prog 107 #[.slice (some ⟨b, off, none⟩) L.length c, .int .i64 0, .int .i64 3] W fun e w' => e = .returned (.int .i64 4) ∧ w' = W := fun W hW => by
    have := rAt_any L (.slice (some ⟨b, off, none⟩) L.length c) 0 3 W (h.below hW) (by decide) (by decide) (by omega)
    rwa [a3] at this
  have hA5 : ∀ W : World, Below r w W → Calls Tryz.prog 107 #[.slice (some ⟨b, off, none⟩) L.length c, .int .i64 5, .int .i64 4] W fun e w' => e = .returned (.int .i64  (st : Int)) ∧ w' = W := fun W hW => by
    have := rAt_any L (.slice (some ⟨b, off, none⟩) L.length c) 5 4 W (h.below hW) (by decide) (by decide) (by omega)
    rwa [a5] at this
  have hSi := fun W => rSized_Win st inc hst hin hi0 W
  have hFi : ∀ W : World, Below r w W → Calls Tryz.prog 110 #[.agg #[.int .i64 8, .int .i64 0, .int .i64 (st : Int), S [], .int .i64 0, .slice none 0 0, .int .i64 0, .int .i64 0, .int .i64 0, .int .i64 0, .int .i64 0, .bool false], .slice (some ⟨b, off + 9, none⟩) 4 (c - 9)] W fun e w' => e = .returned (.tuple #[.agg #[.int .i64 8, .int .i64 0, .int .i64 (st : Int), S [], .int .i64 0, .slice none 0 0, .int .i64 0, .int .i64 0, .int .i64 (inc : Int), .int .i64 0, .int .i64 0, .bool false], .bool true]) ∧ Below W.heap.size W w' := fun W hW => rFields_Win st inc hst hin hi0 _ W (hm.below hW) (Nat.le_trans (by rw [er]; exact Nat.le_refl _) hW.size)
  have ER := Lib.hid er
  have HK := Lib.hid hk
  have HLL := Lib.hid hL
  clear er a3 a5 b3 b4 m9 hk hL hlen2 hm hz0
  go_enter Tryz.func68, Tryz.ntmps68
  go_upto_region 1 with fail
  rw [← ER.out, ← eW0]
  clear eW0
  go_upto_region 4 with fail
  refine wp_cut (R := fun W => Blk W r 34 #[.int .i64 0, .int .i64 0, .int .i64 0, S [], .int .i64 0, .slice none 0 0, .int .i64 0, .int .i64 0, .int .i64 0, .int .i64 0, .int .i64 0, .bool false] ∧ Blk W (r + 1) 70 #[.bool false, .int .i64 0, .int .i64 0] ∧ Below r w W ∧ r + 3 ≤ W.heap.size) ⟨hA.alloc _, hC.alloc _, hB.alloc (by have := HZ.out; omega) _, by have := HZ.out; simp; omega⟩ ?_
  clear hA hC hB HZ
  rintro W1 ⟨hA1, hC1, hb1, hz1⟩
  have y3 : W1.cell? ⟨b, off + 3, none⟩ = some (.int .u8 8) := (hb1.cell (p := ⟨b, off + 3, none⟩) hbw).trans c3
  have y4 : W1.cell? ⟨b, off + 4, none⟩ = some (.int .u8 0) := (hb1.cell (p := ⟨b, off + 4, none⟩) hbw).trans c4
  go_upto_region 9 with (go_at_call 107; go_must ((with_reducible refine (hA3 _ hb1).mono ?_); rintro e w2 ⟨rfl, e2⟩; have e3 := e2.symm; subst e3))
  have hb1d : Below r w W1.drew := hb1.drew
  have hb1a : ∀ ob, Below r w (W1.alloc ob).drew := fun ob => (hb1.alloc (Nat.le_trans (Nat.le_add_right r 3) hz1) ob).drew
  have hw1 : IntKind.i64.wrap (8 : Int) = 8 := rfl
  have hw2 : IntKind.i64.wrap (0 : Int) = 0 := rfl
  refine' (fun (key : (_ : Prop)) => ?mainb) ?kpb
  case mainb =>
    go_region_held3 (fun wx => wx.cell? ⟨b, off + 3, none⟩ = some (.int .u8 8) ∧ wx.cell? ⟨b, off + 4, none⟩ = some (.int .u8 0)) (go_keep) (first
      | (go_at_call 107; (with_reducible refine (hA5 _ (by first | exact hb1d | exact hb1a _)).mono ?_); rintro e w2 ⟨rfl, e2⟩; have e3 := e2.symm; subst e3))
    all_goals exact key
  all_goals (
    clear hw1 hw2
    refine post_cut (R := fun W => R3 r W1.heap.size w #[.int .i64 8, .int .i64 0, .int .i64 (st : Int), S [], .int .i64 0, .slice none 0 0, .int .i64 0, .int .i64 0, .int .i64 0, .int .i64 0, .int .i64 0, .bool false] W) ⟨(hA1.alloc _).drew, (hC1.alloc _).drew, (Blk.new _ _ _).drew, (hb1.alloc (Nat.le_trans (Nat.le_add_right r 3) hz1) _).drew, by omega⟩ ?_
    clear hA1 hC1 hb1 hb1d hb1a y3 y4
    rintro W2 h2
    obtain ⟨G, eG⟩ : ∃ G, G = W1.heap.size := ⟨_, rfl⟩
    rw [← eG] at h2 ⊢
    clear eG hz1
    (have u0 : W2.cell? ⟨G, 0, none⟩ = some (.int .i64 8) := h2.f.cell 0; have u1 : W2.cell? ⟨G, 1, none⟩ = some (.int .i64 0) := h2.f.cell 1; have u2 : W2.cell? ⟨G, 2, none⟩ = some (.int .i64 (st : Int)) := h2.f.cell 2; have u3 : W2.cell? ⟨G, 3, none⟩ = some (S []) := h2.f.cell 3; have u4 : W2.cell? ⟨G, 4, none⟩ = some (.int .i64 0) := h2.f.cell 4; have u5 : W2.cell? ⟨G, 5, none⟩ = some (.slice none 0 0) := h2.f.cell 5; have u6 : W2.cell? ⟨G, 6, none⟩ = some (.int .i64 0) := h2.f.cell 6; have u7 : W2.cell? ⟨G, 7, none⟩ = some (.int .i64 0) := h2.f.cell 7; have u8 : W2.cell? ⟨G, 8, none⟩ = some (.int .i64 0) := h2.f.cell 8; have u9 : W2.cell? ⟨G, 9, none⟩ = some (.int .i64 0) := h2.f.cell 9; have u10 : W2.cell? ⟨G, 10, none⟩ = some (.int .i64 0) := h2.f.cell 10; have u11 : W2.cell? ⟨G, 11, none⟩ = some (.bool false) := h2.f.cell 11)
    go_upto_region 16 with (go_at_call 109; go_must ((with_reducible refine (hSi _).mono ?_); rintro e w3 ⟨rfl, hb3⟩))
    refine wp_cut (R := fun W => R3 r G w #[.int .i64 8, .int .i64 0, .int .i64 (st : Int), S [], .int .i64 0, .slice none 0 0, .int .i64 0, .int .i64 0, .int .i64 0, .int .i64 0, .int .i64 0, .bool false] W) (h2.on hb3) ?_
    clear u0 u1 u2 u3 u4 u5 u6 u7 u8 u9 u10 u11 h2 hb3
    rintro W3 h3
    (have u0 : W3.cell? ⟨G, 0, none⟩ = some (.int .i64 8) := h3.f.cell 0; have u1 : W3.cell? ⟨G, 1, none⟩ = some (.int .i64 0) := h3.f.cell 1; have u2 : W3.cell? ⟨G, 2, none⟩ = some (.int .i64 (st : Int)) := h3.f.cell 2; have u3 : W3.cell? ⟨G, 3, none⟩ = some (S []) := h3.f.cell 3; have u4 : W3.cell? ⟨G, 4, none⟩ = some (.int .i64 0) := h3.f.cell 4; have u5 : W3.cell? ⟨G, 5, none⟩ = some (.slice none 0 0) := h3.f.cell 5; have u6 : W3.cell? ⟨G, 6, none⟩ = some (.int .i64 0) := h3.f.cell 6; have u7 : W3.cell? ⟨G, 7, none⟩ = some (.int .i64 0) := h3.f.cell 7; have u8 : W3.cell? ⟨G, 8, none⟩ = some (.int .i64 0) := h3.f.cell 8; have u9 : W3.cell? ⟨G, 9, none⟩ = some (.int .i64 0) := h3.f.cell 9; have u10 : W3.cell? ⟨G, 10, none⟩ = some (.int .i64 0) := h3.f.cell 10; have u11 : W3.cell? ⟨G, 11, none⟩ = some (.bool false) := h3.f.cell 11)
    go_upto_region 18 with (go_at_call 109; go_must ((with_reducible refine (hSi _).mono ?_); rintro e w4 ⟨rfl, hb4⟩))
    refine wp_cut (R := fun W => R3 r G w #[.int .i64 8, .int .i64 0, .int .i64 (st : Int), S [], .int .i64 0, .slice none 0 0, .int .i64 0, .int .i64 0, .int .i64 0, .int .i64 0, .int .i64 0, .bool false] W) (h3.on hb4) ?_
    clear u0 u1 u2 u3 u4 u5 u6 u7 u8 u9 u10 u11 h3 hb4
    rintro W4 h4
    (have u0 : W4.cell? ⟨G, 0, none⟩ = some (.int .i64 8) := h4.f.cell 0; have u1 : W4.cell? ⟨G, 1, none⟩ = some (.int .i64 0) := h4.f.cell 1; have u2 : W4.cell? ⟨G, 2, none⟩ = some (.int .i64 (st : Int)) := h4.f.cell 2; have u3 : W4.cell? ⟨G, 3, none⟩ = some (S []) := h4.f.cell 3; have u4 : W4.cell? ⟨G, 4, none⟩ = some (.int .i64 0) := h4.f.cell 4; have u5 : W4.cell? ⟨G, 5, none⟩ = some (.slice none 0 0) := h4.f.cell 5; have u6 : W4.cell? ⟨G, 6, none⟩ = some (.int .i64 0) := h4.f.cell 6; have u7 : W4.cell? ⟨G, 7, none⟩ = some (.int .i64 0) := h4.f.cell 7; have u8 : W4.cell? ⟨G, 8, none⟩ = some (.int .i64 0) := h4.f.cell 8; have u9 : W4.cell? ⟨G, 9, none⟩ = some (.int .i64 0) := h4.f.cell 9; have u10 : W4.cell? ⟨G, 10, none⟩ = some (.int .i64 0) := h4.f.cell 10; have u11 : W4.cell? ⟨G, 11, none⟩ = some (.bool false) := h4.f.cell 11)
    have hw3 : IntKind.i64.wrap (9 + 4 : Int) = 13 := rfl
    have hw4 : IntKind.i64.wrap (13 : Int) = 13 := rfl
    have hb4d : Below r w W4.drew := h4.b.drew
    go_region_with (go_at_call 110; (with_reducible refine (hFi _ hb4d).mono ?_); rintro e w5 ⟨rfl, hb5⟩; have h5 := h4.drew.on hb5; (have x0 : w5.cell? ⟨G, 0, none⟩ = some (.int .i64 8) := h5.f.cell 0; have x1 : w5.cell? ⟨G, 1, none⟩ = some (.int .i64 0) := h5.f.cell 1; have x2 : w5.cell? ⟨G, 2, none⟩ = some (.int .i64 (st : Int)) := h5.f.cell 2; have x3 : w5.cell? ⟨G, 3, none⟩ = some (S []) := h5.f.cell 3; have x4 : w5.cell? ⟨G, 4, none⟩ = some (.int .i64 0) := h5.f.cell 4; have x5 : w5.cell? ⟨G, 5, none⟩ = some (.slice none 0 0) := h5.f.cell 5; have x6 : w5.cell? ⟨G, 6, none⟩ = some (.int .i64 0) := h5.f.cell 6; have x7 : w5.cell? ⟨G, 7, none⟩ = some (.int .i64 0) := h5.f.cell 7; have x8 : w5.cell? ⟨G, 8, none⟩ = some (.int .i64 0) := h5.f.cell 8; have x9 : w5.cell? ⟨G, 9, none⟩ = some (.int .i64 0) := h5.f.cell 9; have x10 : w5.cell? ⟨G, 10, none⟩ = some (.int .i64 0) := h5.f.cell 10; have x11 : w5.cell? ⟨G, 11, none⟩ = some (.bool false) := h5.f.cell 11); have v0 := h5.f.free 0; have v1 := h5.f.free 1; have v2 := h5.f.free 2; have v3 := h5.f.free 3; have v4 := h5.f.free 4; have v5 := h5.f.free 5; have v6 := h5.f.free 6; have v7 := h5.f.free 7; have v8 := h5.f.free 8; have v9 := h5.f.free 9; have v10 := h5.f.free 10; have v11 := h5.f.free 11)
    all_goals (
      refine post_cut (R := fun W => R3 r G w #[.int .i64 8, .int .i64 0, .int .i64 (st : Int), S [], .int .i64 0, .slice none 0 0, .int .i64 0, .int .i64 0, .int .i64 (inc : Int), .int .i64 0, .int .i64 0, .bool false] W) (h5.put _ _ _ _ _ _ _ _ _ _ _ _) ?_
      clear u0 u1 u2 u3 u4 u5 u6 u7 u8 u9 u10 u11 x0 x1 x2 x3 x4 x5 x6 x7 x8 x9 x10 x11 v0 v1 v2 v3 v4 v5 v6 v7 v8 v9 v10 v11 h4 h5 hb5 hb4d
      rintro W6 h6
      (have u0 : W6.cell? ⟨G, 0, none⟩ = some (.int .i64 8) := h6.f.cell 0; have u1 : W6.cell? ⟨G, 1, none⟩ = some (.int .i64 0) := h6.f.cell 1; have u2 : W6.cell? ⟨G, 2, none⟩ = some (.int .i64 (st : Int)) := h6.f.cell 2; have u3 : W6.cell? ⟨G, 3, none⟩ = some (S []) := h6.f.cell 3; have u4 : W6.cell? ⟨G, 4, none⟩ = some (.int .i64 0) := h6.f.cell 4; have u5 : W6.cell? ⟨G, 5, none⟩ = some (.slice none 0 0) := h6.f.cell 5; have u6 : W6.cell? ⟨G, 6, none⟩ = some (.int .i64 0) := h6.f.cell 6; have u7 : W6.cell? ⟨G, 7, none⟩ = some (.int .i64 0) := h6.f.cell 7; have u8 : W6.cell? ⟨G, 8, none⟩ = some (.int .i64 (inc : Int)) := h6.f.cell 8; have u9 : W6.cell? ⟨G, 9, none⟩ = some (.int .i64 0) := h6.f.cell 9; have u10 : W6.cell? ⟨G, 10, none⟩ = some (.int .i64 0) := h6.f.cell 10; have u11 : W6.cell? ⟨G, 11, none⟩ = some (.bool false) := h6.f.cell 11)
      (have x0 : W6.cell? ⟨r, 0, none⟩ = some (.int .i64 0) := h6.a.cell 0; have x1 : W6.cell? ⟨r, 1, none⟩ = some (.int .i64 0) := h6.a.cell 1; have x2 : W6.cell? ⟨r, 2, none⟩ = some (.int .i64 0) := h6.a.cell 2; have x3 : W6.cell? ⟨r, 3, none⟩ = some (S []) := h6.a.cell 3; have x4 : W6.cell? ⟨r, 4, none⟩ = some (.int .i64 0) := h6.a.cell 4; have x5 : W6.cell? ⟨r, 5, none⟩ = some (.slice none 0 0) := h6.a.cell 5; have x6 : W6.cell? ⟨r, 6, none⟩ = some (.int .i64 0) := h6.a.cell 6; have x7 : W6.cell? ⟨r, 7, none⟩ = some (.int .i64 0) := h6.a.cell 7; have x8 : W6.cell? ⟨r, 8, none⟩ = some (.int .i64 0) := h6.a.cell 8; have x9 : W6.cell? ⟨r, 9, none⟩ = some (.int .i64 0) := h6.a.cell 9; have x10 : W6.cell? ⟨r, 10, none⟩ = some (.int .i64 0) := h6.a.cell 10; have x11 : W6.cell? ⟨r, 11, none⟩ = some (.bool false) := h6.a.cell 11)
      (have y0 : W6.cell? ⟨r + 1, 0, none⟩ = some (.bool false) := h6.c.cell 0; have y1 : W6.cell? ⟨r + 1, 1, none⟩ = some (.int .i64 0) := h6.c.cell 1; have y2 : W6.cell? ⟨r + 1, 2, none⟩ = some (.int .i64 0) := h6.c.cell 2)
      have v0 := h6.a.free 0
      have v1 := h6.a.free 1
      have v2 := h6.a.free 2
      have v3 := h6.a.free 3
      have v4 := h6.a.free 4
      have v5 := h6.a.free 5
      have v6 := h6.a.free 6
      have v7 := h6.a.free 7
      have v8 := h6.a.free 8
      have v9 := h6.a.free 9
      have v10 := h6.a.free 10
      have v11 := h6.a.free 11
      have f0 := h6.c.free 0
      have f1 := h6.c.free 1
      have f2 := h6.c.free 2
      go_wp2
      refine wp_loop_rounds 1 ?_
      rw [rounds_succ]
      go_wp2
      exact rret_take rfl rfl rfl (oth3 (set12 h6.a _ _ _ _ _ _ _ _ _ _ _ _) (by omega) _ _ _) (set3 (oth12 h6.c (by omega) _ _ _ _ _ _ _ _ _ _ _ _) _ _ _) ⟨_, rfl, World.ownsRow_nil _ _ _ _, by rw [← ER.out]; exact bel3 (bel12 h6.b (Nat.le_refl _) _ _ _ _ _ _ _ _ _ _ _ _) (by omega) _ _ _⟩))

end Go.Proofs.YtlkfmhbmcicmfaaGreatDoor

namespace Go.Proofs.YtlkfmhbmcicmfaaGreatDoor
open Go Go.RowKit Go.Dr

/-- frames as they were written, and what they say -/
abbrev flatF (fs : List (Bytes × Fr)) : Bytes := fs.flatMap (·.1)
abbrev frL (f : Fr) (vs : Value) : Value := .agg #[.int .i64 (f.ty : Nat), .int .i64 (f.fl : Nat), .int .i64 (f.st : Nat), S f.data, .int .i64 (f.pad : Nat), vs, .int .i64 (f.code : Nat), .int .i64 (f.last : Nat), .int .i64 (f.inc : Nat), .int .i64 (f.dep : Nat), .int .i64 (f.wt : Nat), .bool f.sole]
theorem drop_flat (fs : List (Bytes × Fr)) (k : Nat) (hk : k < fs.length) : flatF (fs.drop k) = fs[k].1 ++ flatF (fs.drop (k + 1)) := by
  rw [List.drop_eq_getElem_cons hk]
  rfl

set_option maxRecDepth 100000 in
set_option maxHeartbeats 8000000 in
theorem rTk_none {B : Nat} (v : Value) (w : World) (h : By B w v []) : Calls Tryz.prog 68 #[v, .int .i64 16384] w fun e w' => e = .returned (.tuple #[frL {} (.slice none 0 0), .int .i64 0, .agg #[.bool false, .int .i64 0, .int .i64 0]]) ∧ Below w.heap.size w w' := by
  obtain ⟨a, c, rfl, hc, hcm⟩ := h.form
  obtain ⟨r, er⟩ : ∃ r, r = w.heap.size := ⟨_, rfl⟩
  obtain ⟨W0, eW0⟩ : ∃ W0, W0 = (w.alloc (.cells #[.int .i64 0, .int .i64 0, .int .i64 0, S [], .int .i64 0, .slice none 0 0, .int .i64 0, .int .i64 0, .int .i64 0, .int .i64 0, .int .i64 0, .bool false] 34)).alloc (.cells #[.bool false, .int .i64 0, .int .i64 0] 70) := ⟨_, rfl⟩
  have hA : Blk W0 r 34 #[.int .i64 0, .int .i64 0, .int .i64 0, S [], .int .i64 0, .slice none 0 0, .int .i64 0, .int .i64 0, .int .i64 0, .int .i64 0, .int .i64 0, .bool false] := by rw [eW0, er]; exact (Blk.new _ _ _).alloc _
  have hC : Blk W0 (r + 1) 70 #[.bool false, .int .i64 0, .int .i64 0] := by rw [eW0, er]; exact bnew_at _ _ _ _ (by simp)
  have hB : Below r w W0 := by rw [eW0, er]; exact ((Below.refl _ _).alloc (Nat.le_refl _) _).alloc (by simp) _
  have hz0 : W0.heap.size = r + 2 := by rw [eW0, er]; simp
  have HZ := Lib.hid hz0
  have ER := Lib.hid er
  clear er hz0
  go_enter Tryz.func68, Tryz.ntmps68
  go_upto_region 1 with fail
  rw [← ER.out, ← eW0]
  clear eW0
  go_upto_region 3 with fail
  refine wp_cut (R := fun W => R3 r W0.heap.size w #[.int .i64 0, .int .i64 0, .int .i64 0, S [], .int .i64 0, .slice none 0 0, .int .i64 0, .int .i64 0, .int .i64 0, .int .i64 0, .int .i64 0, .bool false] W) ⟨hA.alloc _, hC.alloc _, Blk.new _ _ _, hB.alloc (by have := HZ.out; omega) _, by have := HZ.out; omega⟩ ?_
  rintro W6 h6
  (have u0 : W6.cell? ⟨W0.heap.size, 0, none⟩ = some (.int .i64 0) := h6.f.cell 0; have u1 : W6.cell? ⟨W0.heap.size, 1, none⟩ = some (.int .i64 0) := h6.f.cell 1; have u2 : W6.cell? ⟨W0.heap.size, 2, none⟩ = some (.int .i64 0) := h6.f.cell 2; have u3 : W6.cell? ⟨W0.heap.size, 3, none⟩ = some (S []) := h6.f.cell 3; have u4 : W6.cell? ⟨W0.heap.size, 4, none⟩ = some (.int .i64 0) := h6.f.cell 4; have u5 : W6.cell? ⟨W0.heap.size, 5, none⟩ = some (.slice none 0 0) := h6.f.cell 5; have u6 : W6.cell? ⟨W0.heap.size, 6, none⟩ = some (.int .i64 0) := h6.f.cell 6; have u7 : W6.cell? ⟨W0.heap.size, 7, none⟩ = some (.int .i64 0) := h6.f.cell 7; have u8 : W6.cell? ⟨W0.heap.size, 8, none⟩ = some (.int .i64 0) := h6.f.cell 8; have u9 : W6.cell? ⟨W0.heap.size, 9, none⟩ = some (.int .i64 0) := h6.f.cell 9; have u10 : W6.cell? ⟨W0.heap.size, 10, none⟩ = some (.int .i64 0) := h6.f.cell 10; have u11 : W6.cell? ⟨W0.heap.size, 11, none⟩ = some (.bool false) := h6.f.cell 11)
  (have x0 : W6.cell? ⟨r, 0, none⟩ = some (.int .i64 0) := h6.a.cell 0; have x1 : W6.cell? ⟨r, 1, none⟩ = some (.int .i64 0) := h6.a.cell 1; have x2 : W6.cell? ⟨r, 2, none⟩ = some (.int .i64 0) := h6.a.cell 2; have x3 : W6.cell? ⟨r, 3, none⟩ = some (S []) := h6.a.cell 3; have x4 : W6.cell? ⟨r, 4, none⟩ = some (.int .i64 0) := h6.a.cell 4; have x5 : W6.cell? ⟨r, 5, none⟩ = some (.slice none 0 0) := h6.a.cell 5; have x6 : W6.cell? ⟨r, 6, none⟩ = some (.int .i64 0) := h6.a.cell 6; have x7 : W6.cell? ⟨r, 7, none⟩ = some (.int .i64 0) := h6.a.cell 7; have x8 : W6.cell? ⟨r, 8, none⟩ = some (.int .i64 0) := h6.a.cell 8; have x9 : W6.cell? ⟨r, 9, none⟩ = some (.int .i64 0) := h6.a.cell 9; have x10 : W6.cell? ⟨r, 10, none⟩ = some (.int .i64 0) := h6.a.cell 10; have x11 : W6.cell? ⟨r, 11, none⟩ = some (.bool false) := h6.a.cell 11)
  (have y0 : W6.cell? ⟨r + 1, 0, none⟩ = some (.bool false) := h6.c.cell 0; have y1 : W6.cell? ⟨r + 1, 1, none⟩ = some (.int .i64 0) := h6.c.cell 1; have y2 : W6.cell? ⟨r + 1, 2, none⟩ = some (.int .i64 0) := h6.c.cell 2)
  have v0 := h6.a.free 0
  have v1 := h6.a.free 1
  have v2 := h6.a.free 2
  have v3 := h6.a.free 3
  have v4 := h6.a.free 4
  have v5 := h6.a.free 5
  have v6 := h6.a.free 6
  have v7 := h6.a.free 7
  have v8 := h6.a.free 8
  have v9 := h6.a.free 9
  have v10 := h6.a.free 10
  have v11 := h6.a.free 11
  have f0 := h6.c.free 0
  have f1 := h6.c.free 1
  have f2 := h6.c.free 2
  go_wp2
  exact rret_take rfl rfl rfl (oth3 (set12 h6.a _ _ _ _ _ _ _ _ _ _ _ _) (by omega) _ _ _) (set3 (oth12 h6.c (by omega) _ _ _ _ _ _ _ _ _ _ _ _) _ _ _) ⟨rfl, by rw [← ER.out]; exact bel3 (bel12 h6.b (Nat.le_refl _) _ _ _ _ _ _ _ _ _ _ _ _) (by omega) _ _ _⟩

set_option maxRecDepth 100000 in
set_option maxHeartbeats 8000000 in
theorem All_of (fs : List (Bytes × Fr)) (hT : ∀ x ∈ fs, RTk x.1 x.2 ∧ 0 < x.1.length) (v : Value) (w : World) (h : By w.heap.size w v (flatF fs)) (hn : fs.length ≤ 1000000) :
    Calls Tryz.prog 29 #[v, .int .i64 16384, .bool false] w fun e w' => ∃ vo its, e = .returned (.tuple #[vo, .int .i64 0, .bool false]) ∧ its.map (fun i => (Itm.f i, Itm.x i)) = fs.map (fun x => (x.2, ({} : Ft))) ∧ w'.ownsRow w.heap.size 72 15 vo fs.length (itcells its) ∧ (∀ i ∈ its, w'.ownsRow w.heap.size 31 2 i.vs i.f.sets.length (scells i.f.sets)) ∧ Below w.heap.size w w' := by
  go_enter Tryz.func29, Tryz.ntmps29
  go_wp2
  go_loopw [0, 10] (fun b out wr => ∃ k its, k ≤ fs.length ∧ By w.heap.size wr b (flatF (fs.drop k)) ∧ its.map (fun i => (Itm.f i, Itm.x i)) = (fs.take k).map (fun x => (x.2, ({} : Ft))) ∧ wr.ownsRow w.heap.size 72 15 out k (itcells its) ∧ (∀ i ∈ its, wr.ownsRow w.heap.size 31 2 i.vs i.f.sets.length (scells i.f.sets)) ∧ Below w.heap.size w wr ∧ ∃ n, n = fs.length - k) (fun b out wr => match out with | .slice _ n _ => fs.length - n | _ => 0)
  case atStart => exact ⟨0, [], Nat.zero_le _, h, rfl, World.ownsRow_nil _ _ _ _, (fun i hi => by cases hi), Below.refl _ _, _, rfl⟩
  case round =>
    obtain ⟨k, its, hk, hb, hits, hrow, hsets, hbel, -⟩ := hrel
    have hz := hbel.size
    by_cases hlt : k < fs.length
    · obtain ⟨hTk, hlen⟩ := hT fs[k] (List.getElem_mem _)
      have hdr := drop_flat fs k hlt
      obtain ⟨⟨l, f⟩, elf⟩ : ∃ x, x = fs[k] := ⟨_, rfl⟩
      have htk : (fs.take (k + 1)).map (fun x => (x.2, ({} : Ft))) = (fs.take k).map (fun x => (x.2, ({} : Ft))) ++ [(f, ({} : Ft))] := by
        rw [List.take_succ_eq_append_getElem hlt, List.map_append, ← elf]
        rfl
      rw [← elf] at hTk hlen hdr
      dsimp only at hTk hlen hdr
      rw [hdr] at hb
      obtain ⟨rest, er⟩ : ∃ rest, rest = flatF (fs.drop (k + 1)) := ⟨_, rfl⟩
      rw [← er] at hb
      have hTk := hTk rest u0 wr (hb.mono hz)
      obtain ⟨a', c', hb', hsl⟩ := hb.from l.length (by rw [List.length_append]; omega)
      rw [List.length_append, Nat.add_sub_cancel_left] at hb' hsl
      rw [List.drop_left] at hb'
      obtain ⟨av, cv, rfl⟩ := own_form hrow
      have n0 : ((l.length : Int) == 0) = false := beq_eq_false_iff_ne.2 (fun e => by omega)
      have n0' : (l.length == 0) = false := beq_eq_false_iff_ne.2 (fun e => by omega)
      have HTK := Lib.hid htk
      have HITS := Lib.hid hits
      have HDR := Lib.hid hdr
      have ER := Lib.hid er
      clear htk hits elf hdr er hlen hT h hb
      go_upto_region 14 with (go_at_call 68; go_must ((with_reducible refine hTk.mono ?_); rintro e w2 ⟨vs, rfl, hs2, hb2⟩; obtain ⟨sa, sc, rfl⟩ := own_form hs2))
      refine wp_cut (R := fun W => Blk W w2.heap.size 34 #[.int .i64 (f.ty : Nat), .int .i64 (f.fl : Nat), .int .i64 (f.st : Nat), S f.data, .int .i64 (f.pad : Nat), .slice sa f.sets.length sc, .int .i64 (f.code : Nat), .int .i64 (f.last : Nat), .int .i64 (f.inc : Nat), .int .i64 (f.dep : Nat), .int .i64 (f.wt : Nat), .bool f.sole] ∧ Blk W (w2.heap.size + 1) 70 #[.bool false, .int .i64 0, .int .i64 0] ∧ Below wr.heap.size wr W ∧ W.ownsRow wr.heap.size 31 2 (.slice sa f.sets.length sc) f.sets.length (scells f.sets)) ⟨(Blk.new _ _ _).alloc _, bnew_at _ _ _ _ (by simp), (hb2.alloc hb2.size _).alloc (by have := hb2.size; simp; omega) _, (hs2.alloc _).alloc _⟩ ?_
      clear hs2 hb2 hTk
      rintro W3 ⟨hF3, hX3, hb3, hs3⟩
      (have g0 : W3.cell? ⟨w2.heap.size, 0, none⟩ = some (.int .i64 (f.ty : Nat)) := hF3.cell 0; have g1 : W3.cell? ⟨w2.heap.size, 1, none⟩ = some (.int .i64 (f.fl : Nat)) := hF3.cell 1; have g2 : W3.cell? ⟨w2.heap.size, 2, none⟩ = some (.int .i64 (f.st : Nat)) := hF3.cell 2; have g3 : W3.cell? ⟨w2.heap.size, 3, none⟩ = some (S f.data) := hF3.cell 3; have g4 : W3.cell? ⟨w2.heap.size, 4, none⟩ = some (.int .i64 (f.pad : Nat)) := hF3.cell 4; have g5 : W3.cell? ⟨w2.heap.size, 5, none⟩ = some (.slice sa f.sets.length sc) := hF3.cell 5; have g6 : W3.cell? ⟨w2.heap.size, 6, none⟩ = some (.int .i64 (f.code : Nat)) := hF3.cell 6; have g7 : W3.cell? ⟨w2.heap.size, 7, none⟩ = some (.int .i64 (f.last : Nat)) := hF3.cell 7; have g8 : W3.cell? ⟨w2.heap.size, 8, none⟩ = some (.int .i64 (f.inc : Nat)) := hF3.cell 8; have g9 : W3.cell? ⟨w2.heap.size, 9, none⟩ = some (.int .i64 (f.dep : Nat)) := hF3.cell 9; have g10 : W3.cell? ⟨w2.heap.size, 10, none⟩ = some (.int .i64 (f.wt : Nat)) := hF3.cell 10; have g11 : W3.cell? ⟨w2.heap.size, 11, none⟩ = some (.bool f.sole) := hF3.cell 11)
      (have x0 : W3.cell? ⟨w2.heap.size + 1, 0, none⟩ = some (.bool false) := hX3.cell 0; have x1 : W3.cell? ⟨w2.heap.size + 1, 1, none⟩ = some (.int .i64 0) := hX3.cell 1; have x2 : W3.cell? ⟨w2.heap.size + 1, 2, none⟩ = some (.int .i64 0) := hX3.cell 2)
      have hrow3 := own_below hrow hb3
      have hz3 := hb3.size
      go_wp2_with (at_builtin; go_must (refine wpList_appAt rfl _ _ 66 rfl w.heap.size 72 (.agg #[.int .i64 0, .int .i64 0, .int .i64 0, .string ByteArray.empty, .int .i64 0, .slice none 0 0, .int .i64 0, .int .i64 0, .int .i64 0, .int .i64 0, .int .i64 0, .bool false, .bool false, .int .i64 0, .int .i64 0]) 15 144 Tryz.underlying66 (by kernel_rfl) rfl (by decide) _ _ _ rfl (hrow3.alloc _) _ _ 1 [.int .i64 (f.ty : Nat), .int .i64 (f.fl : Nat), .int .i64 (f.st : Nat), S f.data, .int .i64 (f.pad : Nat), .slice sa f.sets.length sc, .int .i64 (f.code : Nat), .int .i64 (f.last : Nat), .int .i64 (f.inc : Nat), .int .i64 (f.dep : Nat), .int .i64 (f.wt : Nat), .bool f.sole, .bool false, .int .i64 0, .int .i64 0] rfl (Rd.lit W3 72 #[.int .i64 (f.ty : Nat), .int .i64 (f.fl : Nat), .int .i64 (f.st : Nat), S f.data, .int .i64 (f.pad : Nat), .slice sa f.sets.length sc, .int .i64 (f.code : Nat), .int .i64 (f.last : Nat), .int .i64 (f.inc : Nat), .int .i64 (f.dep : Nat), .int .i64 (f.wt : Nat), .bool f.sole, .bool false, .int .i64 0, .int .i64 0] 15 1 rfl (by decide)) (item_one f {} sa sc) (by unfold maxLen; omega) (by omega) (by simp; omega) ?_; intro a7 c7 w7 hown7 hg7 hat7))
      have hbT : Below w.heap.size wr w7 := Bl.grown ((hb3.mono hz).alloc (Nat.le_trans hz hz3) _) (hrow3.alloc _) hg7 (by simp; omega) (Nat.le_refl _)
      go_roundw
      case rel =>
        refine ⟨k + 1, its ++ [⟨f, {}, .slice sa f.sets.length sc⟩], by omega, by rw [← ER.out]; exact hb'.below hbT, by rw [List.map_append, HITS.out, HTK.out]; rfl, ?_, ?_, hbel.trans hbT, _, rfl⟩
        · have q : itcells (its ++ [⟨f, {}, .slice sa f.sets.length sc⟩]) = itcells its ++ [.int .i64 (f.ty : Nat), .int .i64 (f.fl : Nat), .int .i64 (f.st : Nat), S f.data, .int .i64 (f.pad : Nat), .slice sa f.sets.length sc, .int .i64 (f.code : Nat), .int .i64 (f.last : Nat), .int .i64 (f.inc : Nat), .int .i64 (f.dep : Nat), .int .i64 (f.wt : Nat), .bool f.sole, .bool false, .int .i64 0, .int .i64 0] := by simp [itcells, Itm.cells, Fr.cells]
          rw [q]
          exact hown7
        · intro i hi
          have keep : ∀ {v : Value} {n : Nat} {xs : List Value}, W3.ownsRow w.heap.size 31 2 v n xs → w7.ownsRow w.heap.size 31 2 v n xs := fun {v n xs} hv => by
            refine own_block (hv.alloc _) fun g cur hg _ => hg7.block g (Array.getElem?_eq_some_iff.1 hg).1 fun e1 => ?_
            obtain ⟨cur2, hc2⟩ := own_kind (hrow3.alloc _) e1.symm
            rw [hc2] at hg
            simp at hg
          rcases List.mem_append.1 hi with hi | hi
          · exact keep (own_below (hsets i hi) hb3)
          · obtain rfl : i = ⟨f, {}, .slice sa f.sets.length sc⟩ := by simpa using hi
            exact keep (own_base hs3 hz)
      case measure => simp; omega
    · obtain rfl : k = fs.length := by omega
      rw [List.drop_length] at hb
      replace hb : By w.heap.size wr u0 [] := hb
      rw [List.take_length] at hits
      obtain ⟨a, c, ea, hc, hcm⟩ := hb.form
      rw [List.length_nil] at ea
      subst ea
      have hN := rTk_none _ wr hb
      go_upto_region 14 with (go_at_call 68; go_must ((with_reducible refine hN.mono ?_); rintro e w2 ⟨rfl, hb2⟩))
      refine wp_cut (R := fun W => Blk W (w2.heap.size + 1) 70 #[.bool false, .int .i64 0, .int .i64 0] ∧ Below wr.heap.size wr W) ⟨bnew_at _ _ _ _ (by simp), (hb2.alloc hb2.size _).alloc (by have := hb2.size; simp; omega) _⟩ ?_
      rintro W3 ⟨hX3, hb3⟩
      (have x0 : W3.cell? ⟨w2.heap.size + 1, 0, none⟩ = some (.bool false) := hX3.cell 0; have x1 : W3.cell? ⟨w2.heap.size + 1, 1, none⟩ = some (.int .i64 0) := hX3.cell 1; have x2 : W3.cell? ⟨w2.heap.size + 1, 2, none⟩ = some (.int .i64 0) := hX3.cell 2)
      go_wp2
      refine bodyPost_ret (v := .tuple #[_, .int .i64 0, .bool false]) (by simp [results, Tryz.results29, go_sem]; exact rfl) rfl ?_
      exact ⟨_, its, rfl, hits, own_below hrow hb3, fun i hi => own_below (hsets i hi) hb3, hbel.trans (hb3.mono hz)⟩
end Go.Proofs.YtlkfmhbmcicmfaaGreatDoor

