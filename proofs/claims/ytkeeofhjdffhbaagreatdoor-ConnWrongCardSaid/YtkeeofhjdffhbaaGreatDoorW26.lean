/- Parts of the proof of wr_root: the texts Rtk3. -/
import Derived.Test.YtkeeofhjdffhbaaGreatDoorW25
set_option linter.unusedSimpArgs false
set_option linter.unusedVariables false
set_option linter.unnecessarySimpa false
namespace Go.Proofs.YtkeeofhjdffhbaaGreatDoor
open Go.RowKit Go.Dr
set_option maxRecDepth 100000 in
set_option maxHeartbeats 8000000 in
theorem rTk_Win (st inc : Nat) (hst : st < 2147483648) (hin : inc < 2147483648) (hi0 : 0 < inc) : RTk (frB 8 0 st (beP inc 4)) { ty := 8, st := st, inc := inc } := by
 intro rest v w h
 have hk := (show (beP inc 4).length = 4 from by first | rfl | simp [beP])
 obtain ⟨hL, a3, a5, b3, b4, m9⟩ := frB_at 8 0 st (beP inc 4) rest (by decide) (by decide) hst (by rw [hk];decide)
 have hlen2 : (frB 8 0 st (beP inc 4)).length = 13 := by rw [frB_length, hk]
 rw [hk] at hL a3 m9
 rw [hlen2]
 generalize frB 8 0 st (beP inc 4) ++ rest = L at *
 obtain ⟨a, c, rfl, hc, hcm⟩ := h.form
 obtain ⟨b, off, rfl, hbw, c3, c4⟩ : ∃ b off, a = some ⟨b, off, none⟩ ∧ b < w.heap.size ∧ w.cell? ⟨b, off + 3, none⟩ = some (.int .u8 8) ∧ w.cell? ⟨b, off + 4, none⟩ = some (.int .u8 0) := by
  obtain ⟨b, off, e1, hbw, c3⟩ := h.at 3 (by omega)
  obtain ⟨b', off', e2, -, c4⟩ := h.at 4 (by omega)
  rw [b3] at c3
  rw [b4] at c4
  obtain ⟨rfl, rfl⟩ : b = b' ∧ off = off' := by simpa using e1.symm.trans e2
  exact ⟨b, off, e1, hbw, c3, c4⟩
 have hm := h.cut (i := 9) (j := 13) (by decide) (by omega)
 rw [m9] at hm
 replace hm : By w.heap.size w (.slice (some ⟨b, off + 9, none⟩) 4 (c - 9)) (beP inc 4) := by
  unfold sliced at hm
  rw [if_neg (by omega)] at hm
  exact hm
 have ic7 : ¬ c = 9 := by omega
 have ic1 : ¬ (c : Int) < 13 := by omega
 have ic2 : (13 : Int) ≤ (c : Int) := by omega
 have ic3 : 13 ≤ c := by omega
 have i3 : (3 : Int) < (L.length : Int) := by omega
 have i4 : (4 : Int) < (L.length : Int) := by omega
 have i3' : 3 < L.length := by omega
 have i4' : 4 < L.length := by omega
 have t1 : decide ((L.length : Int) < 9) = false := by simp;omega
 have t1' : decide (L.length < 9) = false := by simp;omega
 have t2 : decide ((L.length : Int) - 9 < 4) = false := by simp;omega
 have in0 : ((inc : Int) == 0) = false := by simp;omega
 have in0' : ((inc == 0) : Bool) = false := by simp;omega
 have stm : (st : Int) % 2147483648 = (st : Int) := by omega
 have stm2 : Int.tmod (st : Int) 2147483648 = (st : Int) := by rw [Int.tmod_eq_emod_of_nonneg (by omega)];omega
 obtain ⟨r, er⟩ : ∃ r, r = w.heap.size := ⟨_, rfl⟩
 obtain ⟨W0, eW0⟩ : ∃ W0, W0 = (w.alloc (.cells #[.int .i64 0, .int .i64 0, .int .i64 0, S [], .int .i64 0, .slice none 0 0, .int .i64 0, .int .i64 0, .int .i64 0, .int .i64 0, .int .i64 0, .bool false] 34)).alloc (.cells #[.bool false, .int .i64 0, .int .i64 0] 72) := ⟨_, rfl⟩
 have hA : Blk W0 r 34 #[.int .i64 0, .int .i64 0, .int .i64 0, S [], .int .i64 0, .slice none 0 0, .int .i64 0, .int .i64 0, .int .i64 0, .int .i64 0, .int .i64 0, .bool false] := by rw [eW0, er];exact (Blk.new _ _ _).alloc _
 have hC : Blk W0 (r + 1) 72 #[.bool false, .int .i64 0, .int .i64 0] := by rw [eW0, er];exact bnew_at _ _ _ _ (by simp)
 have hB : Below r w W0 := by rw [eW0, er];exact ((Below.refl _ _).alloc (Nat.le_refl _) _).alloc (by simp) _
 have hz0 : W0.heap.size = r + 2 := by rw [eW0, er];simp
 have HZ := Lib.hid hz0
 rw [← er] at h hm hbw
 have hA3 : ∀ W : World, Below r w W → Calls Tryz.prog 106 #[.slice (some ⟨b, off, none⟩) L.length c, .int .i64 0, .int .i64 3] W fun e w' => e = .returned (.int .i64 4) ∧ w' = W := fun W hW => by
  have := rAt_any L (.slice (some ⟨b, off, none⟩) L.length c) 0 3 W (h.below hW) (by decide) (by decide) (by omega)
  rwa [a3] at this
 have hA5 : ∀ W : World, Below r w W → Calls Tryz.prog 106 #[.slice (some ⟨b, off, none⟩) L.length c, .int .i64 5, .int .i64 4] W fun e w' => e = .returned (.int .i64  (st : Int)) ∧ w' = W := fun W hW => by
  have := rAt_any L (.slice (some ⟨b, off, none⟩) L.length c) 5 4 W (h.below hW) (by decide) (by decide) (by omega)
  rwa [a5] at this
 have hSi := fun W => rSized_Win st inc hst hin hi0 W
 have hFi : ∀ W : World, Below r w W → Calls Tryz.prog 109 #[.agg #[.int .i64 8, .int .i64 0, .int .i64 (st : Int), S [], .int .i64 0, .slice none 0 0, .int .i64 0, .int .i64 0, .int .i64 0, .int .i64 0, .int .i64 0, .bool false], .slice (some ⟨b, off + 9, none⟩) 4 (c - 9)] W fun e w' => e = .returned (.tuple #[.agg #[.int .i64 8, .int .i64 0, .int .i64 (st : Int), S [], .int .i64 0, .slice none 0 0, .int .i64 0, .int .i64 0, .int .i64 (inc : Int), .int .i64 0, .int .i64 0, .bool false], .bool true]) ∧ Below W.heap.size W w' := fun W hW => rFields_Win st inc hst hin hi0 _ W (hm.below hW) (Nat.le_trans (by rw [er];exact Nat.le_refl _) hW.size)
 have ER := Lib.hid er
 have HK := Lib.hid hk
 have HLL := Lib.hid hL
 clear er a3 a5 b3 b4 m9 hk hL hlen2 hm hz0
 go_enter Tryz.func65, Tryz.ntmps65
 go_upto_region 1 with fail
 rw [← ER.out, ← eW0]
 clear eW0
 go_upto_region 4 with fail
 refine wp_cut (R := fun W => Blk W r 34 #[.int .i64 0, .int .i64 0, .int .i64 0, S [], .int .i64 0, .slice none 0 0, .int .i64 0, .int .i64 0, .int .i64 0, .int .i64 0, .int .i64 0, .bool false] ∧ Blk W (r + 1) 72 #[.bool false, .int .i64 0, .int .i64 0] ∧ Below r w W ∧ r + 3 ≤ W.heap.size) ⟨hA.alloc _, hC.alloc _, hB.alloc (by have := HZ.out;omega) _, by have := HZ.out;simp;omega⟩ ?_
 clear hA hC hB HZ
 rintro W1 ⟨hA1, hC1, hb1, hz1⟩
 have y3 : W1.cell? ⟨b, off + 3, none⟩ = some (.int .u8 8) := (hb1.cell (p := ⟨b, off + 3, none⟩) hbw).trans c3
 have y4 : W1.cell? ⟨b, off + 4, none⟩ = some (.int .u8 0) := (hb1.cell (p := ⟨b, off + 4, none⟩) hbw).trans c4
 go_upto_region 9 with (go_at_call 106;go_must ((with_reducible refine (hA3 _ hb1).mono ?_);rintro e w2 ⟨rfl, e2⟩;have e3 := e2.symm;subst e3))
 have hb1d : Below r w W1.drew := hb1.drew
 have hb1a : ∀ ob, Below r w (W1.alloc ob).drew := fun ob => (hb1.alloc (Nat.le_trans (Nat.le_add_right r 3) hz1) ob).drew
 have hw1 : IntKind.i64.wrap (8 : Int) = 8 := rfl
 have hw2 : IntKind.i64.wrap (0 : Int) = 0 := rfl
 refine' (fun (key : (_ : Prop)) => ?mainb) ?kpb
 case mainb =>
  go_region_held3 (fun wx => wx.cell? ⟨b, off + 3, none⟩ = some (.int .u8 8) ∧ wx.cell? ⟨b, off + 4, none⟩ = some (.int .u8 0)) (go_keep) (first
   | (go_at_call 106;(with_reducible refine (hA5 _ (by first | exact hb1d | exact hb1a _)).mono ?_);rintro e w2 ⟨rfl, e2⟩;have e3 := e2.symm;subst e3))
  all_goals exact key
 all_goals (
  clear hw1 hw2
  refine post_cut (R := fun W => R3 r W1.heap.size w #[.int .i64 8, .int .i64 0, .int .i64 (st : Int), S [], .int .i64 0, .slice none 0 0, .int .i64 0, .int .i64 0, .int .i64 0, .int .i64 0, .int .i64 0, .bool false] W) ⟨(hA1.alloc _).drew, (hC1.alloc _).drew, (Blk.new _ _ _).drew, (hb1.alloc (Nat.le_trans (Nat.le_add_right r 3) hz1) _).drew, by omega⟩ ?_
  clear hA1 hC1 hb1 hb1d hb1a y3 y4
  rintro W2 h2
  obtain ⟨G, eG⟩ : ∃ G, G = W1.heap.size := ⟨_, rfl⟩
  rw [← eG] at h2 ⊢
  clear eG hz1
  (have u0 : W2.cell? ⟨G, 0, none⟩ = some (.int .i64 8) := h2.f.cell 0;have u1 : W2.cell? ⟨G, 1, none⟩ = some (.int .i64 0) := h2.f.cell 1;have u2 : W2.cell? ⟨G, 2, none⟩ = some (.int .i64 (st : Int)) := h2.f.cell 2;have u3 : W2.cell? ⟨G, 3, none⟩ = some (S []) := h2.f.cell 3;have u4 : W2.cell? ⟨G, 4, none⟩ = some (.int .i64 0) := h2.f.cell 4;have u5 : W2.cell? ⟨G, 5, none⟩ = some (.slice none 0 0) := h2.f.cell 5;have u6 : W2.cell? ⟨G, 6, none⟩ = some (.int .i64 0) := h2.f.cell 6;have u7 : W2.cell? ⟨G, 7, none⟩ = some (.int .i64 0) := h2.f.cell 7;have u8 : W2.cell? ⟨G, 8, none⟩ = some (.int .i64 0) := h2.f.cell 8;have u9 : W2.cell? ⟨G, 9, none⟩ = some (.int .i64 0) := h2.f.cell 9;have u10 : W2.cell? ⟨G, 10, none⟩ = some (.int .i64 0) := h2.f.cell 10;have u11 : W2.cell? ⟨G, 11, none⟩ = some (.bool false) := h2.f.cell 11)
  go_upto_region 16 with (go_at_call 108;go_must ((with_reducible refine (hSi _).mono ?_);rintro e w3 ⟨rfl, hb3⟩))
  refine wp_cut (R := fun W => R3 r G w #[.int .i64 8, .int .i64 0, .int .i64 (st : Int), S [], .int .i64 0, .slice none 0 0, .int .i64 0, .int .i64 0, .int .i64 0, .int .i64 0, .int .i64 0, .bool false] W) (h2.on hb3) ?_
  clear u0 u1 u2 u3 u4 u5 u6 u7 u8 u9 u10 u11 h2 hb3
  rintro W3 h3
  (have u0 : W3.cell? ⟨G, 0, none⟩ = some (.int .i64 8) := h3.f.cell 0;have u1 : W3.cell? ⟨G, 1, none⟩ = some (.int .i64 0) := h3.f.cell 1;have u2 : W3.cell? ⟨G, 2, none⟩ = some (.int .i64 (st : Int)) := h3.f.cell 2;have u3 : W3.cell? ⟨G, 3, none⟩ = some (S []) := h3.f.cell 3;have u4 : W3.cell? ⟨G, 4, none⟩ = some (.int .i64 0) := h3.f.cell 4;have u5 : W3.cell? ⟨G, 5, none⟩ = some (.slice none 0 0) := h3.f.cell 5;have u6 : W3.cell? ⟨G, 6, none⟩ = some (.int .i64 0) := h3.f.cell 6;have u7 : W3.cell? ⟨G, 7, none⟩ = some (.int .i64 0) := h3.f.cell 7;have u8 : W3.cell? ⟨G, 8, none⟩ = some (.int .i64 0) := h3.f.cell 8;have u9 : W3.cell? ⟨G, 9, none⟩ = some (.int .i64 0) := h3.f.cell 9;have u10 : W3.cell? ⟨G, 10, none⟩ = some (.int .i64 0) := h3.f.cell 10;have u11 : W3.cell? ⟨G, 11, none⟩ = some (.bool false) := h3.f.cell 11)
  go_upto_region 18 with (go_at_call 108;go_must ((with_reducible refine (hSi _).mono ?_);rintro e w4 ⟨rfl, hb4⟩))
  refine wp_cut (R := fun W => R3 r G w #[.int .i64 8, .int .i64 0, .int .i64 (st : Int), S [], .int .i64 0, .slice none 0 0, .int .i64 0, .int .i64 0, .int .i64 0, .int .i64 0, .int .i64 0, .bool false] W) (h3.on hb4) ?_
  clear u0 u1 u2 u3 u4 u5 u6 u7 u8 u9 u10 u11 h3 hb4
  rintro W4 h4
  (have u0 : W4.cell? ⟨G, 0, none⟩ = some (.int .i64 8) := h4.f.cell 0;have u1 : W4.cell? ⟨G, 1, none⟩ = some (.int .i64 0) := h4.f.cell 1;have u2 : W4.cell? ⟨G, 2, none⟩ = some (.int .i64 (st : Int)) := h4.f.cell 2;have u3 : W4.cell? ⟨G, 3, none⟩ = some (S []) := h4.f.cell 3;have u4 : W4.cell? ⟨G, 4, none⟩ = some (.int .i64 0) := h4.f.cell 4;have u5 : W4.cell? ⟨G, 5, none⟩ = some (.slice none 0 0) := h4.f.cell 5;have u6 : W4.cell? ⟨G, 6, none⟩ = some (.int .i64 0) := h4.f.cell 6;have u7 : W4.cell? ⟨G, 7, none⟩ = some (.int .i64 0) := h4.f.cell 7;have u8 : W4.cell? ⟨G, 8, none⟩ = some (.int .i64 0) := h4.f.cell 8;have u9 : W4.cell? ⟨G, 9, none⟩ = some (.int .i64 0) := h4.f.cell 9;have u10 : W4.cell? ⟨G, 10, none⟩ = some (.int .i64 0) := h4.f.cell 10;have u11 : W4.cell? ⟨G, 11, none⟩ = some (.bool false) := h4.f.cell 11)
  have hw3 : IntKind.i64.wrap (9 + 4 : Int) = 13 := rfl
  have hw4 : IntKind.i64.wrap (13 : Int) = 13 := rfl
  have hb4d : Below r w W4.drew := h4.b.drew
  go_region_with (go_at_call 109;(with_reducible refine (hFi _ hb4d).mono ?_);rintro e w5 ⟨rfl, hb5⟩;have h5 := h4.drew.on hb5;(have x0 : w5.cell? ⟨G, 0, none⟩ = some (.int .i64 8) := h5.f.cell 0;have x1 : w5.cell? ⟨G, 1, none⟩ = some (.int .i64 0) := h5.f.cell 1;have x2 : w5.cell? ⟨G, 2, none⟩ = some (.int .i64 (st : Int)) := h5.f.cell 2;have x3 : w5.cell? ⟨G, 3, none⟩ = some (S []) := h5.f.cell 3;have x4 : w5.cell? ⟨G, 4, none⟩ = some (.int .i64 0) := h5.f.cell 4;have x5 : w5.cell? ⟨G, 5, none⟩ = some (.slice none 0 0) := h5.f.cell 5;have x6 : w5.cell? ⟨G, 6, none⟩ = some (.int .i64 0) := h5.f.cell 6;have x7 : w5.cell? ⟨G, 7, none⟩ = some (.int .i64 0) := h5.f.cell 7;have x8 : w5.cell? ⟨G, 8, none⟩ = some (.int .i64 0) := h5.f.cell 8;have x9 : w5.cell? ⟨G, 9, none⟩ = some (.int .i64 0) := h5.f.cell 9;have x10 : w5.cell? ⟨G, 10, none⟩ = some (.int .i64 0) := h5.f.cell 10;have x11 : w5.cell? ⟨G, 11, none⟩ = some (.bool false) := h5.f.cell 11);have v0 := h5.f.free 0;have v1 := h5.f.free 1;have v2 := h5.f.free 2;have v3 := h5.f.free 3;have v4 := h5.f.free 4;have v5 := h5.f.free 5;have v6 := h5.f.free 6;have v7 := h5.f.free 7;have v8 := h5.f.free 8;have v9 := h5.f.free 9;have v10 := h5.f.free 10;have v11 := h5.f.free 11)
  all_goals (
   refine post_cut (R := fun W => R3 r G w #[.int .i64 8, .int .i64 0, .int .i64 (st : Int), S [], .int .i64 0, .slice none 0 0, .int .i64 0, .int .i64 0, .int .i64 (inc : Int), .int .i64 0, .int .i64 0, .bool false] W) (h5.put _ _ _ _ _ _ _ _ _ _ _ _) ?_
   clear u0 u1 u2 u3 u4 u5 u6 u7 u8 u9 u10 u11 x0 x1 x2 x3 x4 x5 x6 x7 x8 x9 x10 x11 v0 v1 v2 v3 v4 v5 v6 v7 v8 v9 v10 v11 h4 h5 hb5 hb4d
   rintro W6 h6
   (have u0 : W6.cell? ⟨G, 0, none⟩ = some (.int .i64 8) := h6.f.cell 0;have u1 : W6.cell? ⟨G, 1, none⟩ = some (.int .i64 0) := h6.f.cell 1;have u2 : W6.cell? ⟨G, 2, none⟩ = some (.int .i64 (st : Int)) := h6.f.cell 2;have u3 : W6.cell? ⟨G, 3, none⟩ = some (S []) := h6.f.cell 3;have u4 : W6.cell? ⟨G, 4, none⟩ = some (.int .i64 0) := h6.f.cell 4;have u5 : W6.cell? ⟨G, 5, none⟩ = some (.slice none 0 0) := h6.f.cell 5;have u6 : W6.cell? ⟨G, 6, none⟩ = some (.int .i64 0) := h6.f.cell 6;have u7 : W6.cell? ⟨G, 7, none⟩ = some (.int .i64 0) := h6.f.cell 7;have u8 : W6.cell? ⟨G, 8, none⟩ = some (.int .i64 (inc : Int)) := h6.f.cell 8;have u9 : W6.cell? ⟨G, 9, none⟩ = some (.int .i64 0) := h6.f.cell 9;have u10 : W6.cell? ⟨G, 10, none⟩ = some (.int .i64 0) := h6.f.cell 10;have u11 : W6.cell? ⟨G, 11, none⟩ = some (.bool false) := h6.f.cell 11)
   (have x0 : W6.cell? ⟨r, 0, none⟩ = some (.int .i64 0) := h6.a.cell 0;have x1 : W6.cell? ⟨r, 1, none⟩ = some (.int .i64 0) := h6.a.cell 1;have x2 : W6.cell? ⟨r, 2, none⟩ = some (.int .i64 0) := h6.a.cell 2;have x3 : W6.cell? ⟨r, 3, none⟩ = some (S []) := h6.a.cell 3;have x4 : W6.cell? ⟨r, 4, none⟩ = some (.int .i64 0) := h6.a.cell 4;have x5 : W6.cell? ⟨r, 5, none⟩ = some (.slice none 0 0) := h6.a.cell 5;have x6 : W6.cell? ⟨r, 6, none⟩ = some (.int .i64 0) := h6.a.cell 6;have x7 : W6.cell? ⟨r, 7, none⟩ = some (.int .i64 0) := h6.a.cell 7;have x8 : W6.cell? ⟨r, 8, none⟩ = some (.int .i64 0) := h6.a.cell 8;have x9 : W6.cell? ⟨r, 9, none⟩ = some (.int .i64 0) := h6.a.cell 9;have x10 : W6.cell? ⟨r, 10, none⟩ = some (.int .i64 0) := h6.a.cell 10;have x11 : W6.cell? ⟨r, 11, none⟩ = some (.bool false) := h6.a.cell 11)
   (have y0 : W6.cell? ⟨r + 1, 0, none⟩ = some (.bool false) := h6.c.cell 0;have y1 : W6.cell? ⟨r + 1, 1, none⟩ = some (.int .i64 0) := h6.c.cell 1;have y2 : W6.cell? ⟨r + 1, 2, none⟩ = some (.int .i64 0) := h6.c.cell 2)
   have v0 := h6.a.free 0
   have v1 := h6.a.free 1
   have v2 := h6.a.free 2
   have v3 := h6.a.free 3
   have v4 := h6.a.free 4
   have v5 := h6.a.free 5
   have v6 := h6.a.free 6
   have v7 := h6.a.free 7
   have v8 := h6.a.free 8
   have v9 := h6.a.free 9
   have v10 := h6.a.free 10
   have v11 := h6.a.free 11
   have f0 := h6.c.free 0
   have f1 := h6.c.free 1
   have f2 := h6.c.free 2
   go_wp2
   refine wp_loop_rounds 1 ?_
   rw [rounds_succ]
   go_wp2
   exact rret_take rfl rfl rfl (oth3 (set12 h6.a _ _ _ _ _ _ _ _ _ _ _ _) (by omega) _ _ _) (set3 (oth12 h6.c (by omega) _ _ _ _ _ _ _ _ _ _ _ _) _ _ _) ⟨_, rfl, World.ownsRow_nil _ _ _ _, by rw [← ER.out];exact bel3 (bel12 h6.b (Nat.le_refl _) _ _ _ _ _ _ _ _ _ _ _ _) (by omega) _ _ _⟩))
set_option maxRecDepth 100000 in
set_option maxHeartbeats 8000000 in
theorem rTk_Gow (last code : Nat) (hla : last < 2147483648) (hco : code < 4294967296) : RTk (frB 7 0 0 (beP last 4 ++ beP code 4)) { ty := 7, last := last, code := code } := by
 intro rest v w h
 have hk := (show (beP last 4 ++ beP code 4).length = 8 from by first | rfl | simp [beP])
 obtain ⟨hL, a3, a5, b3, b4, m9⟩ := frB_at 7 0 0 (beP last 4 ++ beP code 4) rest (by decide) (by decide) (by decide) (by rw [hk];decide)
 have hlen2 : (frB 7 0 0 (beP last 4 ++ beP code 4)).length = 17 := by rw [frB_length, hk]
 rw [hk] at hL a3 m9
 rw [hlen2]
 generalize frB 7 0 0 (beP last 4 ++ beP code 4) ++ rest = L at *
 obtain ⟨a, c, rfl, hc, hcm⟩ := h.form
 obtain ⟨b, off, rfl, hbw, c3, c4⟩ : ∃ b off, a = some ⟨b, off, none⟩ ∧ b < w.heap.size ∧ w.cell? ⟨b, off + 3, none⟩ = some (.int .u8 7) ∧ w.cell? ⟨b, off + 4, none⟩ = some (.int .u8 0) := by
  obtain ⟨b, off, e1, hbw, c3⟩ := h.at 3 (by omega)
  obtain ⟨b', off', e2, -, c4⟩ := h.at 4 (by omega)
  rw [b3] at c3
  rw [b4] at c4
  obtain ⟨rfl, rfl⟩ : b = b' ∧ off = off' := by simpa using e1.symm.trans e2
  exact ⟨b, off, e1, hbw, c3, c4⟩
 have hm := h.cut (i := 9) (j := 17) (by decide) (by omega)
 rw [m9] at hm
 replace hm : By w.heap.size w (.slice (some ⟨b, off + 9, none⟩) 8 (c - 9)) (beP last 4 ++ beP code 4) := by
  unfold sliced at hm
  rw [if_neg (by omega)] at hm
  exact hm
 have ic7 : ¬ c = 9 := by omega
 have ic1 : ¬ (c : Int) < 17 := by omega
 have ic2 : (17 : Int) ≤ (c : Int) := by omega
 have ic3 : 17 ≤ c := by omega
 have i3 : (3 : Int) < (L.length : Int) := by omega
 have i4 : (4 : Int) < (L.length : Int) := by omega
 have i3' : 3 < L.length := by omega
 have i4' : 4 < L.length := by omega
 have t1 : decide ((L.length : Int) < 9) = false := by simp;omega
 have t1' : decide (L.length < 9) = false := by simp;omega
 have t2 : decide ((L.length : Int) - 9 < 8) = false := by simp;omega
 obtain ⟨r, er⟩ : ∃ r, r = w.heap.size := ⟨_, rfl⟩
 obtain ⟨W0, eW0⟩ : ∃ W0, W0 = (w.alloc (.cells #[.int .i64 0, .int .i64 0, .int .i64 0, S [], .int .i64 0, .slice none 0 0, .int .i64 0, .int .i64 0, .int .i64 0, .int .i64 0, .int .i64 0, .bool false] 34)).alloc (.cells #[.bool false, .int .i64 0, .int .i64 0] 72) := ⟨_, rfl⟩
 have hA : Blk W0 r 34 #[.int .i64 0, .int .i64 0, .int .i64 0, S [], .int .i64 0, .slice none 0 0, .int .i64 0, .int .i64 0, .int .i64 0, .int .i64 0, .int .i64 0, .bool false] := by rw [eW0, er];exact (Blk.new _ _ _).alloc _
 have hC : Blk W0 (r + 1) 72 #[.bool false, .int .i64 0, .int .i64 0] := by rw [eW0, er];exact bnew_at _ _ _ _ (by simp)
 have hB : Below r w W0 := by rw [eW0, er];exact ((Below.refl _ _).alloc (Nat.le_refl _) _).alloc (by simp) _
 have hz0 : W0.heap.size = r + 2 := by rw [eW0, er];simp
 have HZ := Lib.hid hz0
 rw [← er] at h hm hbw
 have hA3 : ∀ W : World, Below r w W → Calls Tryz.prog 106 #[.slice (some ⟨b, off, none⟩) L.length c, .int .i64 0, .int .i64 3] W fun e w' => e = .returned (.int .i64 8) ∧ w' = W := fun W hW => by
  have := rAt_any L (.slice (some ⟨b, off, none⟩) L.length c) 0 3 W (h.below hW) (by decide) (by decide) (by omega)
  rwa [a3] at this
 have hA5 : ∀ W : World, Below r w W → Calls Tryz.prog 106 #[.slice (some ⟨b, off, none⟩) L.length c, .int .i64 5, .int .i64 4] W fun e w' => e = .returned (.int .i64  0) ∧ w' = W := fun W hW => by
  have := rAt_any L (.slice (some ⟨b, off, none⟩) L.length c) 5 4 W (h.below hW) (by decide) (by decide) (by omega)
  rwa [a5] at this
 have hSi := fun W => rSized_Gow last code hla hco W
 have hFi : ∀ W : World, Below r w W → Calls Tryz.prog 109 #[.agg #[.int .i64 7, .int .i64 0, .int .i64 0, S [], .int .i64 0, .slice none 0 0, .int .i64 0, .int .i64 0, .int .i64 0, .int .i64 0, .int .i64 0, .bool false], .slice (some ⟨b, off + 9, none⟩) 8 (c - 9)] W fun e w' => e = .returned (.tuple #[.agg #[.int .i64 7, .int .i64 0, .int .i64 0, S [], .int .i64 0, .slice none 0 0, .int .i64 (code : Int), .int .i64 (last : Int), .int .i64 0, .int .i64 0, .int .i64 0, .bool false], .bool true]) ∧ Below W.heap.size W w' := fun W hW => rFields_Gow last code hla hco _ W (hm.below hW) (Nat.le_trans (by rw [er];exact Nat.le_refl _) hW.size)
 have ER := Lib.hid er
 have HK := Lib.hid hk
 have HLL := Lib.hid hL
 clear er a3 a5 b3 b4 m9 hk hL hlen2 hm hz0
 go_enter Tryz.func65, Tryz.ntmps65
 go_upto_region 1 with fail
 rw [← ER.out, ← eW0]
 clear eW0
 go_upto_region 4 with fail
 refine wp_cut (R := fun W => Blk W r 34 #[.int .i64 0, .int .i64 0, .int .i64 0, S [], .int .i64 0, .slice none 0 0, .int .i64 0, .int .i64 0, .int .i64 0, .int .i64 0, .int .i64 0, .bool false] ∧ Blk W (r + 1) 72 #[.bool false, .int .i64 0, .int .i64 0] ∧ Below r w W ∧ r + 3 ≤ W.heap.size) ⟨hA.alloc _, hC.alloc _, hB.alloc (by have := HZ.out;omega) _, by have := HZ.out;simp;omega⟩ ?_
 clear hA hC hB HZ
 rintro W1 ⟨hA1, hC1, hb1, hz1⟩
 have y3 : W1.cell? ⟨b, off + 3, none⟩ = some (.int .u8 7) := (hb1.cell (p := ⟨b, off + 3, none⟩) hbw).trans c3
 have y4 : W1.cell? ⟨b, off + 4, none⟩ = some (.int .u8 0) := (hb1.cell (p := ⟨b, off + 4, none⟩) hbw).trans c4
 go_upto_region 9 with (go_at_call 106;go_must ((with_reducible refine (hA3 _ hb1).mono ?_);rintro e w2 ⟨rfl, e2⟩;have e3 := e2.symm;subst e3))
 have hb1d : Below r w W1.drew := hb1.drew
 have hb1a : ∀ ob, Below r w (W1.alloc ob).drew := fun ob => (hb1.alloc (Nat.le_trans (Nat.le_add_right r 3) hz1) ob).drew
 have hw1 : IntKind.i64.wrap (7 : Int) = 7 := rfl
 have hw2 : IntKind.i64.wrap (0 : Int) = 0 := rfl
 refine' (fun (key : (_ : Prop)) => ?mainb) ?kpb
 case mainb =>
  go_region_held3 (fun wx => wx.cell? ⟨b, off + 3, none⟩ = some (.int .u8 7) ∧ wx.cell? ⟨b, off + 4, none⟩ = some (.int .u8 0)) (go_keep) (first
   | (go_at_call 106;(with_reducible refine (hA5 _ (by first | exact hb1d | exact hb1a _)).mono ?_);rintro e w2 ⟨rfl, e2⟩;have e3 := e2.symm;subst e3))
  all_goals exact key
 all_goals (
  clear hw1 hw2
  refine post_cut (R := fun W => R3 r W1.heap.size w #[.int .i64 7, .int .i64 0, .int .i64 0, S [], .int .i64 0, .slice none 0 0, .int .i64 0, .int .i64 0, .int .i64 0, .int .i64 0, .int .i64 0, .bool false] W) ⟨(hA1.alloc _).drew, (hC1.alloc _).drew, (Blk.new _ _ _).drew, (hb1.alloc (Nat.le_trans (Nat.le_add_right r 3) hz1) _).drew, by omega⟩ ?_
  clear hA1 hC1 hb1 hb1d hb1a y3 y4
  rintro W2 h2
  obtain ⟨G, eG⟩ : ∃ G, G = W1.heap.size := ⟨_, rfl⟩
  rw [← eG] at h2 ⊢
  clear eG hz1
  (have u0 : W2.cell? ⟨G, 0, none⟩ = some (.int .i64 7) := h2.f.cell 0;have u1 : W2.cell? ⟨G, 1, none⟩ = some (.int .i64 0) := h2.f.cell 1;have u2 : W2.cell? ⟨G, 2, none⟩ = some (.int .i64 0) := h2.f.cell 2;have u3 : W2.cell? ⟨G, 3, none⟩ = some (S []) := h2.f.cell 3;have u4 : W2.cell? ⟨G, 4, none⟩ = some (.int .i64 0) := h2.f.cell 4;have u5 : W2.cell? ⟨G, 5, none⟩ = some (.slice none 0 0) := h2.f.cell 5;have u6 : W2.cell? ⟨G, 6, none⟩ = some (.int .i64 0) := h2.f.cell 6;have u7 : W2.cell? ⟨G, 7, none⟩ = some (.int .i64 0) := h2.f.cell 7;have u8 : W2.cell? ⟨G, 8, none⟩ = some (.int .i64 0) := h2.f.cell 8;have u9 : W2.cell? ⟨G, 9, none⟩ = some (.int .i64 0) := h2.f.cell 9;have u10 : W2.cell? ⟨G, 10, none⟩ = some (.int .i64 0) := h2.f.cell 10;have u11 : W2.cell? ⟨G, 11, none⟩ = some (.bool false) := h2.f.cell 11)
  go_upto_region 16 with (go_at_call 108;go_must ((with_reducible refine (hSi _).mono ?_);rintro e w3 ⟨rfl, hb3⟩))
  refine wp_cut (R := fun W => R3 r G w #[.int .i64 7, .int .i64 0, .int .i64 0, S [], .int .i64 0, .slice none 0 0, .int .i64 0, .int .i64 0, .int .i64 0, .int .i64 0, .int .i64 0, .bool false] W) (h2.on hb3) ?_
  clear u0 u1 u2 u3 u4 u5 u6 u7 u8 u9 u10 u11 h2 hb3
  rintro W3 h3
  (have u0 : W3.cell? ⟨G, 0, none⟩ = some (.int .i64 7) := h3.f.cell 0;have u1 : W3.cell? ⟨G, 1, none⟩ = some (.int .i64 0) := h3.f.cell 1;have u2 : W3.cell? ⟨G, 2, none⟩ = some (.int .i64 0) := h3.f.cell 2;have u3 : W3.cell? ⟨G, 3, none⟩ = some (S []) := h3.f.cell 3;have u4 : W3.cell? ⟨G, 4, none⟩ = some (.int .i64 0) := h3.f.cell 4;have u5 : W3.cell? ⟨G, 5, none⟩ = some (.slice none 0 0) := h3.f.cell 5;have u6 : W3.cell? ⟨G, 6, none⟩ = some (.int .i64 0) := h3.f.cell 6;have u7 : W3.cell? ⟨G, 7, none⟩ = some (.int .i64 0) := h3.f.cell 7;have u8 : W3.cell? ⟨G, 8, none⟩ = some (.int .i64 0) := h3.f.cell 8;have u9 : W3.cell? ⟨G, 9, none⟩ = some (.int .i64 0) := h3.f.cell 9;have u10 : W3.cell? ⟨G, 10, none⟩ = some (.int .i64 0) := h3.f.cell 10;have u11 : W3.cell? ⟨G, 11, none⟩ = some (.bool false) := h3.f.cell 11)
  go_upto_region 18 with (go_at_call 108;go_must ((with_reducible refine (hSi _).mono ?_);rintro e w4 ⟨rfl, hb4⟩))
  refine wp_cut (R := fun W => R3 r G w #[.int .i64 7, .int .i64 0, .int .i64 0, S [], .int .i64 0, .slice none 0 0, .int .i64 0, .int .i64 0, .int .i64 0, .int .i64 0, .int .i64 0, .bool false] W) (h3.on hb4) ?_
  clear u0 u1 u2 u3 u4 u5 u6 u7 u8 u9 u10 u11 h3 hb4
  rintro W4 h4
  (have u0 : W4.cell? ⟨G, 0, none⟩ = some (.int .i64 7) := h4.f.cell 0;have u1 : W4.cell? ⟨G, 1, none⟩ = some (.int .i64 0) := h4.f.cell 1;have u2 : W4.cell? ⟨G, 2, none⟩ = some (.int .i64 0) := h4.f.cell 2;have u3 : W4.cell? ⟨G, 3, none⟩ = some (S []) := h4.f.cell 3;have u4 : W4.cell? ⟨G, 4, none⟩ = some (.int .i64 0) := h4.f.cell 4;have u5 : W4.cell? ⟨G, 5, none⟩ = some (.slice none 0 0) := h4.f.cell 5;have u6 : W4.cell? ⟨G, 6, none⟩ = some (.int .i64 0) := h4.f.cell 6;have u7 : W4.cell? ⟨G, 7, none⟩ = some (.int .i64 0) := h4.f.cell 7;have u8 : W4.cell? ⟨G, 8, none⟩ = some (.int .i64 0) := h4.f.cell 8;have u9 : W4.cell? ⟨G, 9, none⟩ = some (.int .i64 0) := h4.f.cell 9;have u10 : W4.cell? ⟨G, 10, none⟩ = some (.int .i64 0) := h4.f.cell 10;have u11 : W4.cell? ⟨G, 11, none⟩ = some (.bool false) := h4.f.cell 11)
  have hw3 : IntKind.i64.wrap (9 + 8 : Int) = 17 := rfl
  have hw4 : IntKind.i64.wrap (17 : Int) = 17 := rfl
  have hb4d : Below r w W4.drew := h4.b.drew
  go_region_with (go_at_call 109;(with_reducible refine (hFi _ hb4d).mono ?_);rintro e w5 ⟨rfl, hb5⟩;have h5 := h4.drew.on hb5;(have x0 : w5.cell? ⟨G, 0, none⟩ = some (.int .i64 7) := h5.f.cell 0;have x1 : w5.cell? ⟨G, 1, none⟩ = some (.int .i64 0) := h5.f.cell 1;have x2 : w5.cell? ⟨G, 2, none⟩ = some (.int .i64 0) := h5.f.cell 2;have x3 : w5.cell? ⟨G, 3, none⟩ = some (S []) := h5.f.cell 3;have x4 : w5.cell? ⟨G, 4, none⟩ = some (.int .i64 0) := h5.f.cell 4;have x5 : w5.cell? ⟨G, 5, none⟩ = some (.slice none 0 0) := h5.f.cell 5;have x6 : w5.cell? ⟨G, 6, none⟩ = some (.int .i64 0) := h5.f.cell 6;have x7 : w5.cell? ⟨G, 7, none⟩ = some (.int .i64 0) := h5.f.cell 7;have x8 : w5.cell? ⟨G, 8, none⟩ = some (.int .i64 0) := h5.f.cell 8;have x9 : w5.cell? ⟨G, 9, none⟩ = some (.int .i64 0) := h5.f.cell 9;have x10 : w5.cell? ⟨G, 10, none⟩ = some (.int .i64 0) := h5.f.cell 10;have x11 : w5.cell? ⟨G, 11, none⟩ = some (.bool false) := h5.f.cell 11);have v0 := h5.f.free 0;have v1 := h5.f.free 1;have v2 := h5.f.free 2;have v3 := h5.f.free 3;have v4 := h5.f.free 4;have v5 := h5.f.free 5;have v6 := h5.f.free 6;have v7 := h5.f.free 7;have v8 := h5.f.free 8;have v9 := h5.f.free 9;have v10 := h5.f.free 10;have v11 := h5.f.free 11)
  all_goals (
   refine post_cut (R := fun W => R3 r G w #[.int .i64 7, .int .i64 0, .int .i64 0, S [], .int .i64 0, .slice none 0 0, .int .i64 (code : Int), .int .i64 (last : Int), .int .i64 0, .int .i64 0, .int .i64 0, .bool false] W) (h5.put _ _ _ _ _ _ _ _ _ _ _ _) ?_
   clear u0 u1 u2 u3 u4 u5 u6 u7 u8 u9 u10 u11 x0 x1 x2 x3 x4 x5 x6 x7 x8 x9 x10 x11 v0 v1 v2 v3 v4 v5 v6 v7 v8 v9 v10 v11 h4 h5 hb5 hb4d
   rintro W6 h6
   (have u0 : W6.cell? ⟨G, 0, none⟩ = some (.int .i64 7) := h6.f.cell 0;have u1 : W6.cell? ⟨G, 1, none⟩ = some (.int .i64 0) := h6.f.cell 1;have u2 : W6.cell? ⟨G, 2, none⟩ = some (.int .i64 0) := h6.f.cell 2;have u3 : W6.cell? ⟨G, 3, none⟩ = some (S []) := h6.f.cell 3;have u4 : W6.cell? ⟨G, 4, none⟩ = some (.int .i64 0) := h6.f.cell 4;have u5 : W6.cell? ⟨G, 5, none⟩ = some (.slice none 0 0) := h6.f.cell 5;have u6 : W6.cell? ⟨G, 6, none⟩ = some (.int .i64 (code : Int)) := h6.f.cell 6;have u7 : W6.cell? ⟨G, 7, none⟩ = some (.int .i64 (last : Int)) := h6.f.cell 7;have u8 : W6.cell? ⟨G, 8, none⟩ = some (.int .i64 0) := h6.f.cell 8;have u9 : W6.cell? ⟨G, 9, none⟩ = some (.int .i64 0) := h6.f.cell 9;have u10 : W6.cell? ⟨G, 10, none⟩ = some (.int .i64 0) := h6.f.cell 10;have u11 : W6.cell? ⟨G, 11, none⟩ = some (.bool false) := h6.f.cell 11)
   (have x0 : W6.cell? ⟨r, 0, none⟩ = some (.int .i64 0) := h6.a.cell 0;have x1 : W6.cell? ⟨r, 1, none⟩ = some (.int .i64 0) := h6.a.cell 1;have x2 : W6.cell? ⟨r, 2, none⟩ = some (.int .i64 0) := h6.a.cell 2;have x3 : W6.cell? ⟨r, 3, none⟩ = some (S []) := h6.a.cell 3;have x4 : W6.cell? ⟨r, 4, none⟩ = some (.int .i64 0) := h6.a.cell 4;have x5 : W6.cell? ⟨r, 5, none⟩ = some (.slice none 0 0) := h6.a.cell 5;have x6 : W6.cell? ⟨r, 6, none⟩ = some (.int .i64 0) := h6.a.cell 6;have x7 : W6.cell? ⟨r, 7, none⟩ = some (.int .i64 0) := h6.a.cell 7;have x8 : W6.cell? ⟨r, 8, none⟩ = some (.int .i64 0) := h6.a.cell 8;have x9 : W6.cell? ⟨r, 9, none⟩ = some (.int .i64 0) := h6.a.cell 9;have x10 : W6.cell? ⟨r, 10, none⟩ = some (.int .i64 0) := h6.a.cell 10;have x11 : W6.cell? ⟨r, 11, none⟩ = some (.bool false) := h6.a.cell 11)
   (have y0 : W6.cell? ⟨r + 1, 0, none⟩ = some (.bool false) := h6.c.cell 0;have y1 : W6.cell? ⟨r + 1, 1, none⟩ = some (.int .i64 0) := h6.c.cell 1;have y2 : W6.cell? ⟨r + 1, 2, none⟩ = some (.int .i64 0) := h6.c.cell 2)
   have v0 := h6.a.free 0
   have v1 := h6.a.free 1
   have v2 := h6.a.free 2
   have v3 := h6.a.free 3
   have v4 := h6.a.free 4
   have v5 := h6.a.free 5
   have v6 := h6.a.free 6
   have v7 := h6.a.free 7
   have v8 := h6.a.free 8
   have v9 := h6.a.free 9
   have v10 := h6.a.free 10
   have v11 := h6.a.free 11
   have f0 := h6.c.free 0
   have f1 := h6.c.free 1
   have f2 := h6.c.free 2
   go_wp2
   refine wp_loop_rounds 1 ?_
   rw [rounds_succ]
   go_wp2
   exact rret_take rfl rfl rfl (oth3 (set12 h6.a _ _ _ _ _ _ _ _ _ _ _ _) (by omega) _ _ _) (set3 (oth12 h6.c (by omega) _ _ _ _ _ _ _ _ _ _ _ _) _ _ _) ⟨_, rfl, World.ownsRow_nil _ _ _ _, by rw [← ER.out];exact bel3 (bel12 h6.b (Nat.le_refl _) _ _ _ _ _ _ _ _ _ _ _ _) (by omega) _ _ _⟩))
set_option maxRecDepth 100000 in
set_option maxHeartbeats 8000000 in
theorem rTk_Rst (st code : Nat) (hst : st < 2147483648) (hs0 : 0 < st) (hco : code < 4294967296) : RTk (frB 3 0 st (beP code 4)) { ty := 3, st := st, code := code } := by
 intro rest v w h
 have hk := (show (beP code 4).length = 4 from by first | rfl | simp [beP])
 obtain ⟨hL, a3, a5, b3, b4, m9⟩ := frB_at 3 0 st (beP code 4) rest (by decide) (by decide) hst (by rw [hk];decide)
 have hlen2 : (frB 3 0 st (beP code 4)).length = 13 := by rw [frB_length, hk]
 rw [hk] at hL a3 m9
 rw [hlen2]
 generalize frB 3 0 st (beP code 4) ++ rest = L at *
 obtain ⟨a, c, rfl, hc, hcm⟩ := h.form
 obtain ⟨b, off, rfl, hbw, c3, c4⟩ : ∃ b off, a = some ⟨b, off, none⟩ ∧ b < w.heap.size ∧ w.cell? ⟨b, off + 3, none⟩ = some (.int .u8 3) ∧ w.cell? ⟨b, off + 4, none⟩ = some (.int .u8 0) := by
  obtain ⟨b, off, e1, hbw, c3⟩ := h.at 3 (by omega)
  obtain ⟨b', off', e2, -, c4⟩ := h.at 4 (by omega)
  rw [b3] at c3
  rw [b4] at c4
  obtain ⟨rfl, rfl⟩ : b = b' ∧ off = off' := by simpa using e1.symm.trans e2
  exact ⟨b, off, e1, hbw, c3, c4⟩
 have hm := h.cut (i := 9) (j := 13) (by decide) (by omega)
 rw [m9] at hm
 replace hm : By w.heap.size w (.slice (some ⟨b, off + 9, none⟩) 4 (c - 9)) (beP code 4) := by
  unfold sliced at hm
  rw [if_neg (by omega)] at hm
  exact hm
 have ic7 : ¬ c = 9 := by omega
 have ic1 : ¬ (c : Int) < 13 := by omega
 have ic2 : (13 : Int) ≤ (c : Int) := by omega
 have ic3 : 13 ≤ c := by omega
 have i3 : (3 : Int) < (L.length : Int) := by omega
 have i4 : (4 : Int) < (L.length : Int) := by omega
 have i3' : 3 < L.length := by omega
 have i4' : 4 < L.length := by omega
 have t1 : decide ((L.length : Int) < 9) = false := by simp;omega
 have t1' : decide (L.length < 9) = false := by simp;omega
 have t2 : decide ((L.length : Int) - 9 < 4) = false := by simp;omega
 have st0 : ((st : Int) == 0) = false := by simp;omega
 have st0' : ((st == 0) : Bool) = false := by simp;omega
 have stm : (st : Int) % 2147483648 = (st : Int) := by omega
 have stm2 : Int.tmod (st : Int) 2147483648 = (st : Int) := by rw [Int.tmod_eq_emod_of_nonneg (by omega)];omega
 obtain ⟨r, er⟩ : ∃ r, r = w.heap.size := ⟨_, rfl⟩
 obtain ⟨W0, eW0⟩ : ∃ W0, W0 = (w.alloc (.cells #[.int .i64 0, .int .i64 0, .int .i64 0, S [], .int .i64 0, .slice none 0 0, .int .i64 0, .int .i64 0, .int .i64 0, .int .i64 0, .int .i64 0, .bool false] 34)).alloc (.cells #[.bool false, .int .i64 0, .int .i64 0] 72) := ⟨_, rfl⟩
 have hA : Blk W0 r 34 #[.int .i64 0, .int .i64 0, .int .i64 0, S [], .int .i64 0, .slice none 0 0, .int .i64 0, .int .i64 0, .int .i64 0, .int .i64 0, .int .i64 0, .bool false] := by rw [eW0, er];exact (Blk.new _ _ _).alloc _
 have hC : Blk W0 (r + 1) 72 #[.bool false, .int .i64 0, .int .i64 0] := by rw [eW0, er];exact bnew_at _ _ _ _ (by simp)
 have hB : Below r w W0 := by rw [eW0, er];exact ((Below.refl _ _).alloc (Nat.le_refl _) _).alloc (by simp) _
 have hz0 : W0.heap.size = r + 2 := by rw [eW0, er];simp
 have HZ := Lib.hid hz0
 rw [← er] at h hm hbw
 have hA3 : ∀ W : World, Below r w W → Calls Tryz.prog 106 #[.slice (some ⟨b, off, none⟩) L.length c, .int .i64 0, .int .i64 3] W fun e w' => e = .returned (.int .i64 4) ∧ w' = W := fun W hW => by
  have := rAt_any L (.slice (some ⟨b, off, none⟩) L.length c) 0 3 W (h.below hW) (by decide) (by decide) (by omega)
  rwa [a3] at this
 have hA5 : ∀ W : World, Below r w W → Calls Tryz.prog 106 #[.slice (some ⟨b, off, none⟩) L.length c, .int .i64 5, .int .i64 4] W fun e w' => e = .returned (.int .i64  (st : Int)) ∧ w' = W := fun W hW => by
  have := rAt_any L (.slice (some ⟨b, off, none⟩) L.length c) 5 4 W (h.below hW) (by decide) (by decide) (by omega)
  rwa [a5] at this
 have hSi := fun W => rSized_Rst st code hst hs0 hco W
 have hFi : ∀ W : World, Below r w W → Calls Tryz.prog 109 #[.agg #[.int .i64 3, .int .i64 0, .int .i64 (st : Int), S [], .int .i64 0, .slice none 0 0, .int .i64 0, .int .i64 0, .int .i64 0, .int .i64 0, .int .i64 0, .bool false], .slice (some ⟨b, off + 9, none⟩) 4 (c - 9)] W fun e w' => e = .returned (.tuple #[.agg #[.int .i64 3, .int .i64 0, .int .i64 (st : Int), S [], .int .i64 0, .slice none 0 0, .int .i64 (code : Int), .int .i64 0, .int .i64 0, .int .i64 0, .int .i64 0, .bool false], .bool true]) ∧ Below W.heap.size W w' := fun W hW => rFields_Rst st code hst hs0 hco _ W (hm.below hW) (Nat.le_trans (by rw [er];exact Nat.le_refl _) hW.size)
 have ER := Lib.hid er
 have HK := Lib.hid hk
 have HLL := Lib.hid hL
 clear er a3 a5 b3 b4 m9 hk hL hlen2 hm hz0
 go_enter Tryz.func65, Tryz.ntmps65
 go_upto_region 1 with fail
 rw [← ER.out, ← eW0]
 clear eW0
 go_upto_region 4 with fail
 refine wp_cut (R := fun W => Blk W r 34 #[.int .i64 0, .int .i64 0, .int .i64 0, S [], .int .i64 0, .slice none 0 0, .int .i64 0, .int .i64 0, .int .i64 0, .int .i64 0, .int .i64 0, .bool false] ∧ Blk W (r + 1) 72 #[.bool false, .int .i64 0, .int .i64 0] ∧ Below r w W ∧ r + 3 ≤ W.heap.size) ⟨hA.alloc _, hC.alloc _, hB.alloc (by have := HZ.out;omega) _, by have := HZ.out;simp;omega⟩ ?_
 clear hA hC hB HZ
 rintro W1 ⟨hA1, hC1, hb1, hz1⟩
 have y3 : W1.cell? ⟨b, off + 3, none⟩ = some (.int .u8 3) := (hb1.cell (p := ⟨b, off + 3, none⟩) hbw).trans c3
 have y4 : W1.cell? ⟨b, off + 4, none⟩ = some (.int .u8 0) := (hb1.cell (p := ⟨b, off + 4, none⟩) hbw).trans c4
 go_upto_region 9 with (go_at_call 106;go_must ((with_reducible refine (hA3 _ hb1).mono ?_);rintro e w2 ⟨rfl, e2⟩;have e3 := e2.symm;subst e3))
 have hb1d : Below r w W1.drew := hb1.drew
 have hb1a : ∀ ob, Below r w (W1.alloc ob).drew := fun ob => (hb1.alloc (Nat.le_trans (Nat.le_add_right r 3) hz1) ob).drew
 have hw1 : IntKind.i64.wrap (3 : Int) = 3 := rfl
 have hw2 : IntKind.i64.wrap (0 : Int) = 0 := rfl
 refine' (fun (key : (_ : Prop)) => ?mainb) ?kpb
 case mainb =>
  go_region_held3 (fun wx => wx.cell? ⟨b, off + 3, none⟩ = some (.int .u8 3) ∧ wx.cell? ⟨b, off + 4, none⟩ = some (.int .u8 0)) (go_keep) (first
   | (go_at_call 106;(with_reducible refine (hA5 _ (by first | exact hb1d | exact hb1a _)).mono ?_);rintro e w2 ⟨rfl, e2⟩;have e3 := e2.symm;subst e3))
  all_goals exact key
 all_goals (
  clear hw1 hw2
  refine post_cut (R := fun W => R3 r W1.heap.size w #[.int .i64 3, .int .i64 0, .int .i64 (st : Int), S [], .int .i64 0, .slice none 0 0, .int .i64 0, .int .i64 0, .int .i64 0, .int .i64 0, .int .i64 0, .bool false] W) ⟨(hA1.alloc _).drew, (hC1.alloc _).drew, (Blk.new _ _ _).drew, (hb1.alloc (Nat.le_trans (Nat.le_add_right r 3) hz1) _).drew, by omega⟩ ?_
  clear hA1 hC1 hb1 hb1d hb1a y3 y4
  rintro W2 h2
  obtain ⟨G, eG⟩ : ∃ G, G = W1.heap.size := ⟨_, rfl⟩
  rw [← eG] at h2 ⊢
  clear eG hz1
  (have u0 : W2.cell? ⟨G, 0, none⟩ = some (.int .i64 3) := h2.f.cell 0;have u1 : W2.cell? ⟨G, 1, none⟩ = some (.int .i64 0) := h2.f.cell 1;have u2 : W2.cell? ⟨G, 2, none⟩ = some (.int .i64 (st : Int)) := h2.f.cell 2;have u3 : W2.cell? ⟨G, 3, none⟩ = some (S []) := h2.f.cell 3;have u4 : W2.cell? ⟨G, 4, none⟩ = some (.int .i64 0) := h2.f.cell 4;have u5 : W2.cell? ⟨G, 5, none⟩ = some (.slice none 0 0) := h2.f.cell 5;have u6 : W2.cell? ⟨G, 6, none⟩ = some (.int .i64 0) := h2.f.cell 6;have u7 : W2.cell? ⟨G, 7, none⟩ = some (.int .i64 0) := h2.f.cell 7;have u8 : W2.cell? ⟨G, 8, none⟩ = some (.int .i64 0) := h2.f.cell 8;have u9 : W2.cell? ⟨G, 9, none⟩ = some (.int .i64 0) := h2.f.cell 9;have u10 : W2.cell? ⟨G, 10, none⟩ = some (.int .i64 0) := h2.f.cell 10;have u11 : W2.cell? ⟨G, 11, none⟩ = some (.bool false) := h2.f.cell 11)
  go_upto_region 16 with (go_at_call 108;go_must ((with_reducible refine (hSi _).mono ?_);rintro e w3 ⟨rfl, hb3⟩))
  refine wp_cut (R := fun W => R3 r G w #[.int .i64 3, .int .i64 0, .int .i64 (st : Int), S [], .int .i64 0, .slice none 0 0, .int .i64 0, .int .i64 0, .int .i64 0, .int .i64 0, .int .i64 0, .bool false] W) (h2.on hb3) ?_
  clear u0 u1 u2 u3 u4 u5 u6 u7 u8 u9 u10 u11 h2 hb3
  rintro W3 h3
  (have u0 : W3.cell? ⟨G, 0, none⟩ = some (.int .i64 3) := h3.f.cell 0;have u1 : W3.cell? ⟨G, 1, none⟩ = some (.int .i64 0) := h3.f.cell 1;have u2 : W3.cell? ⟨G, 2, none⟩ = some (.int .i64 (st : Int)) := h3.f.cell 2;have u3 : W3.cell? ⟨G, 3, none⟩ = some (S []) := h3.f.cell 3;have u4 : W3.cell? ⟨G, 4, none⟩ = some (.int .i64 0) := h3.f.cell 4;have u5 : W3.cell? ⟨G, 5, none⟩ = some (.slice none 0 0) := h3.f.cell 5;have u6 : W3.cell? ⟨G, 6, none⟩ = some (.int .i64 0) := h3.f.cell 6;have u7 : W3.cell? ⟨G, 7, none⟩ = some (.int .i64 0) := h3.f.cell 7;have u8 : W3.cell? ⟨G, 8, none⟩ = some (.int .i64 0) := h3.f.cell 8;have u9 : W3.cell? ⟨G, 9, none⟩ = some (.int .i64 0) := h3.f.cell 9;have u10 : W3.cell? ⟨G, 10, none⟩ = some (.int .i64 0) := h3.f.cell 10;have u11 : W3.cell? ⟨G, 11, none⟩ = some (.bool false) := h3.f.cell 11)
  go_upto_region 18 with (go_at_call 108;go_must ((with_reducible refine (hSi _).mono ?_);rintro e w4 ⟨rfl, hb4⟩))
  refine wp_cut (R := fun W => R3 r G w #[.int .i64 3, .int .i64 0, .int .i64 (st : Int), S [], .int .i64 0, .slice none 0 0, .int .i64 0, .int .i64 0, .int .i64 0, .int .i64 0, .int .i64 0, .bool false] W) (h3.on hb4) ?_
  clear u0 u1 u2 u3 u4 u5 u6 u7 u8 u9 u10 u11 h3 hb4
  rintro W4 h4
  (have u0 : W4.cell? ⟨G, 0, none⟩ = some (.int .i64 3) := h4.f.cell 0;have u1 : W4.cell? ⟨G, 1, none⟩ = some (.int .i64 0) := h4.f.cell 1;have u2 : W4.cell? ⟨G, 2, none⟩ = some (.int .i64 (st : Int)) := h4.f.cell 2;have u3 : W4.cell? ⟨G, 3, none⟩ = some (S []) := h4.f.cell 3;have u4 : W4.cell? ⟨G, 4, none⟩ = some (.int .i64 0) := h4.f.cell 4;have u5 : W4.cell? ⟨G, 5, none⟩ = some (.slice none 0 0) := h4.f.cell 5;have u6 : W4.cell? ⟨G, 6, none⟩ = some (.int .i64 0) := h4.f.cell 6;have u7 : W4.cell? ⟨G, 7, none⟩ = some (.int .i64 0) := h4.f.cell 7;have u8 : W4.cell? ⟨G, 8, none⟩ = some (.int .i64 0) := h4.f.cell 8;have u9 : W4.cell? ⟨G, 9, none⟩ = some (.int .i64 0) := h4.f.cell 9;have u10 : W4.cell? ⟨G, 10, none⟩ = some (.int .i64 0) := h4.f.cell 10;have u11 : W4.cell? ⟨G, 11, none⟩ = some (.bool false) := h4.f.cell 11)
  have hw3 : IntKind.i64.wrap (9 + 4 : Int) = 13 := rfl
  have hw4 : IntKind.i64.wrap (13 : Int) = 13 := rfl
  have hb4d : Below r w W4.drew := h4.b.drew
  go_region_with (go_at_call 109;(with_reducible refine (hFi _ hb4d).mono ?_);rintro e w5 ⟨rfl, hb5⟩;have h5 := h4.drew.on hb5;(have x0 : w5.cell? ⟨G, 0, none⟩ = some (.int .i64 3) := h5.f.cell 0;have x1 : w5.cell? ⟨G, 1, none⟩ = some (.int .i64 0) := h5.f.cell 1;have x2 : w5.cell? ⟨G, 2, none⟩ = some (.int .i64 (st : Int)) := h5.f.cell 2;have x3 : w5.cell? ⟨G, 3, none⟩ = some (S []) := h5.f.cell 3;have x4 : w5.cell? ⟨G, 4, none⟩ = some (.int .i64 0) := h5.f.cell 4;have x5 : w5.cell? ⟨G, 5, none⟩ = some (.slice none 0 0) := h5.f.cell 5;have x6 : w5.cell? ⟨G, 6, none⟩ = some (.int .i64 0) := h5.f.cell 6;have x7 : w5.cell? ⟨G, 7, none⟩ = some (.int .i64 0) := h5.f.cell 7;have x8 : w5.cell? ⟨G, 8, none⟩ = some (.int .i64 0) := h5.f.cell 8;have x9 : w5.cell? ⟨G, 9, none⟩ = some (.int .i64 0) := h5.f.cell 9;have x10 : w5.cell? ⟨G, 10, none⟩ = some (.int .i64 0) := h5.f.cell 10;have x11 : w5.cell? ⟨G, 11, none⟩ = some (.bool false) := h5.f.cell 11);have v0 := h5.f.free 0;have v1 := h5.f.free 1;have v2 := h5.f.free 2;have v3 := h5.f.free 3;have v4 := h5.f.free 4;have v5 := h5.f.free 5;have v6 := h5.f.free 6;have v7 := h5.f.free 7;have v8 := h5.f.free 8;have v9 := h5.f.free 9;have v10 := h5.f.free 10;have v11 := h5.f.free 11)
  all_goals (
   refine post_cut (R := fun W => R3 r G w #[.int .i64 3, .int .i64 0, .int .i64 (st : Int), S [], .int .i64 0, .slice none 0 0, .int .i64 (code : Int), .int .i64 0, .int .i64 0, .int .i64 0, .int .i64 0, .bool false] W) (h5.put _ _ _ _ _ _ _ _ _ _ _ _) ?_
   clear u0 u1 u2 u3 u4 u5 u6 u7 u8 u9 u10 u11 x0 x1 x2 x3 x4 x5 x6 x7 x8 x9 x10 x11 v0 v1 v2 v3 v4 v5 v6 v7 v8 v9 v10 v11 h4 h5 hb5 hb4d
   rintro W6 h6
   (have u0 : W6.cell? ⟨G, 0, none⟩ = some (.int .i64 3) := h6.f.cell 0;have u1 : W6.cell? ⟨G, 1, none⟩ = some (.int .i64 0) := h6.f.cell 1;have u2 : W6.cell? ⟨G, 2, none⟩ = some (.int .i64 (st : Int)) := h6.f.cell 2;have u3 : W6.cell? ⟨G, 3, none⟩ = some (S []) := h6.f.cell 3;have u4 : W6.cell? ⟨G, 4, none⟩ = some (.int .i64 0) := h6.f.cell 4;have u5 : W6.cell? ⟨G, 5, none⟩ = some (.slice none 0 0) := h6.f.cell 5;have u6 : W6.cell? ⟨G, 6, none⟩ = some (.int .i64 (code : Int)) := h6.f.cell 6;have u7 : W6.cell? ⟨G, 7, none⟩ = some (.int .i64 0) := h6.f.cell 7;have u8 : W6.cell? ⟨G, 8, none⟩ = some (.int .i64 0) := h6.f.cell 8;have u9 : W6.cell? ⟨G, 9, none⟩ = some (.int .i64 0) := h6.f.cell 9;have u10 : W6.cell? ⟨G, 10, none⟩ = some (.int .i64 0) := h6.f.cell 10;have u11 : W6.cell? ⟨G, 11, none⟩ = some (.bool false) := h6.f.cell 11)
   (have x0 : W6.cell? ⟨r, 0, none⟩ = some (.int .i64 0) := h6.a.cell 0;have x1 : W6.cell? ⟨r, 1, none⟩ = some (.int .i64 0) := h6.a.cell 1;have x2 : W6.cell? ⟨r, 2, none⟩ = some (.int .i64 0) := h6.a.cell 2;have x3 : W6.cell? ⟨r, 3, none⟩ = some (S []) := h6.a.cell 3;have x4 : W6.cell? ⟨r, 4, none⟩ = some (.int .i64 0) := h6.a.cell 4;have x5 : W6.cell? ⟨r, 5, none⟩ = some (.slice none 0 0) := h6.a.cell 5;have x6 : W6.cell? ⟨r, 6, none⟩ = some (.int .i64 0) := h6.a.cell 6;have x7 : W6.cell? ⟨r, 7, none⟩ = some (.int .i64 0) := h6.a.cell 7;have x8 : W6.cell? ⟨r, 8, none⟩ = some (.int .i64 0) := h6.a.cell 8;have x9 : W6.cell? ⟨r, 9, none⟩ = some (.int .i64 0) := h6.a.cell 9;have x10 : W6.cell? ⟨r, 10, none⟩ = some (.int .i64 0) := h6.a.cell 10;have x11 : W6.cell? ⟨r, 11, none⟩ = some (.bool false) := h6.a.cell 11)
   (have y0 : W6.cell? ⟨r + 1, 0, none⟩ = some (.bool false) := h6.c.cell 0;have y1 : W6.cell? ⟨r + 1, 1, none⟩ = some (.int .i64 0) := h6.c.cell 1;have y2 : W6.cell? ⟨r + 1, 2, none⟩ = some (.int .i64 0) := h6.c.cell 2)
   have v0 := h6.a.free 0
   have v1 := h6.a.free 1
   have v2 := h6.a.free 2
   have v3 := h6.a.free 3
   have v4 := h6.a.free 4
   have v5 := h6.a.free 5
   have v6 := h6.a.free 6
   have v7 := h6.a.free 7
   have v8 := h6.a.free 8
   have v9 := h6.a.free 9
   have v10 := h6.a.free 10
   have v11 := h6.a.free 11
   have f0 := h6.c.free 0
   have f1 := h6.c.free 1
   have f2 := h6.c.free 2
   go_wp2
   refine wp_loop_rounds 1 ?_
   rw [rounds_succ]
   go_wp2
   exact rret_take rfl rfl rfl (oth3 (set12 h6.a _ _ _ _ _ _ _ _ _ _ _ _) (by omega) _ _ _) (set3 (oth12 h6.c (by omega) _ _ _ _ _ _ _ _ _ _ _ _) _ _ _) ⟨_, rfl, World.ownsRow_nil _ _ _ _, by rw [← ER.out];exact bel3 (bel12 h6.b (Nat.le_refl _) _ _ _ _ _ _ _ _ _ _ _ _) (by omega) _ _ _⟩))
end Go.Proofs.YtkeeofhjdffhbaaGreatDoor
