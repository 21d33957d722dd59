/- Parts of the proof of bk_root: the texts Rdd2 Cnh4 Open4. -/
import Derived.Test.YtcodgfmombehoaaGreatDoorK47
import Derived.Test.YtcodgfmombehoaaGreatDoorK41
import Derived.Test.YtcodgfmombehoaaGreatDoorK45
set_option linter.unusedSimpArgs false
set_option linter.unusedVariables false
set_option linter.unnecessarySimpa false
set_option maxRecDepth 100000
set_option maxHeartbeats 64000000
namespace Go.Proofs.YtcodgfmombehoaaGreatDoor
open Go Go.RowKit Go.Dr
theorem rSize_nilD {eb : Nat} (w : World) (h4 : w.cell? ⟨eb, 3, none⟩ = some (.slice none 0 0)) : Calls Tryz.prog 74 #[.pointer (some ⟨eb, 2, none⟩)] w fun e w' => e = .returned (.int .i64 0) ∧ w' = w := by
 go_enter Tryz.func74, Tryz.ntmps74
 go_wp2;refine wp_loop_rounds 1 ?_;rw [rounds_succ];go_wp2;go_ret;exact ⟨rfl, rfl⟩
theorem rCost_abD (w : World) : Calls Tryz.prog 43 #[.agg abF8] w fun e w' => e = .returned (.int .i64 34) ∧ Below w.heap.size w w' := rCost_any (⟨[97], [98], false⟩ : F) (by decide) (by decide) w
theorem rAdd_abD {eb : Nat} {c0 c1 c4 : Value} (w : World) (hE : Blk w eb 110 #[c0, c1, .int .i64 4096, .slice none 0 0, c4]) : Calls Tryz.prog 42 #[.pointer (some ⟨eb, 2, none⟩), .agg abF8] w fun e w' => e = .returned (.tuple #[]) ∧ But (fun k => k = eb) w w' ∧ ∃ u, Blk w' eb 110 #[c0, c1, .int .i64 4096, u, c4] := by
 obtain ⟨W, eW⟩ : ∃ W, W = w.alloc (.cells abF8 45) := ⟨_, rfl⟩;have hb : Below w.heap.size w W := (by rw [eW];exact (Below.refl _ _).alloc (Nat.le_refl _) _);have hF : Blk W w.heap.size 45 abF8 := (by rw [eW];exact Blk.new _ _ _);have hEW := hE.on hb;have hel := hE.lt;have y3 : W.cell? ⟨eb, 2, none⟩ = some (.int .i64 4096) := hEW.cell 2;have a0 : W.cell? ⟨w.heap.size, 0, none⟩ = some (S [97]) := hF.cell 0;have a1 : W.cell? ⟨w.heap.size, 1, none⟩ = some (S [98]) := hF.cell 1;have a2 : W.cell? ⟨w.heap.size, 2, none⟩ = some (.bool false) := hF.cell 2;go_enter Tryz.func42, Tryz.ntmps42
 go_upto_region 1 with fail;rw [← eW];clear eW
 go_cut [10] (fun sx wx => sx = .bool false ∧ Below W.heap.size W wx)
 case first =>
  go_region_held3 (fun X => X.cell? ⟨eb, 2, none⟩ = some (.int .i64 4096) ∧ X.cell? ⟨w.heap.size, 0, none⟩ = some (S [97]) ∧ X.cell? ⟨w.heap.size, 1, none⟩ = some (S [98]) ∧ X.cell? ⟨w.heap.size, 2, none⟩ = some (.bool false))
   (first | go_keep)
   ((go_at_call 43;go_must ((with_reducible refine (rCost_abD _).mono ?_);rintro e w2 ⟨rfl, hb2⟩;replace hb2 : Below W.heap.size W w2 := (Below.refl _ _).drew.trans hb2;have q3 : w2.cell? ⟨eb, 2, none⟩ = some (.int .i64 4096) := (hEW.on hb2).cell 2;have q0 : w2.cell? ⟨w.heap.size, 0, none⟩ = some (S [97]) := (hF.on hb2).cell 0;have q1 : w2.cell? ⟨w.heap.size, 1, none⟩ = some (S [98]) := (hF.on hb2).cell 1;have q2 : w2.cell? ⟨w.heap.size, 2, none⟩ = some (.bool false) := (hF.on hb2).cell 2)))
  all_goals (go_wp2;go_meet;exact ⟨rfl, hb2⟩)
 case rest =>
  obtain ⟨rfl, hb2⟩ := hcut;obtain ⟨W2, rfl⟩ : ∃ W2, W2 = wc := ⟨_, rfl⟩;clear y3 a0 a1 a2;have hE2 := hEW.on hb2;have hF2 := hF.on hb2;have hw2 := hb.trans (hb2.mono hb.size);clear hEW hF hb hb2;go_wp2;refine wp_loop_rounds 1 ?_;rw [rounds_succ];go_upto_region 3 with fail
  go_cut [23] (fun sx wx => sx = .bool false ∧ Below W2.heap.size W2 wx)
  case first =>
   have y3 : W2.cell? ⟨eb, 2, none⟩ = some (.int .i64 4096) := hE2.cell 2;have y4 : W2.cell? ⟨eb, 3, none⟩ = some (.slice none 0 0) := hE2.cell 3;have a0 : W2.cell? ⟨w.heap.size, 0, none⟩ = some (S [97]) := hF2.cell 0;have a1 : W2.cell? ⟨w.heap.size, 1, none⟩ = some (S [98]) := hF2.cell 1;have a2 : W2.cell? ⟨w.heap.size, 2, none⟩ = some (.bool false) := hF2.cell 2;have hSz := rSize_nilD (eb := eb) W2.drew (show W2.drew.cell? ⟨eb, 3, none⟩ = some (.slice none 0 0) from y4)
   go_region_held3 (fun X => X.cell? ⟨eb, 2, none⟩ = some (.int .i64 4096) ∧ X.cell? ⟨w.heap.size, 0, none⟩ = some (S [97]) ∧ X.cell? ⟨w.heap.size, 1, none⟩ = some (S [98]) ∧ X.cell? ⟨w.heap.size, 2, none⟩ = some (.bool false))
    (first | go_keep)
    (first
     | (go_at_call 74;go_must ((with_reducible refine hSz.mono ?_);rintro e w2 ⟨rfl, e2⟩;subst e2))
     | (go_at_call 43;go_must ((with_reducible refine (rCost_abD _).mono ?_);rintro e w3 ⟨rfl, hb3⟩;replace hb3 : Below W2.heap.size W2 w3 := (Below.refl _ _).drew.trans hb3;have q3 : w3.cell? ⟨eb, 2, none⟩ = some (.int .i64 4096) := (hE2.on hb3).cell 2;have q0 : w3.cell? ⟨w.heap.size, 0, none⟩ = some (S [97]) := (hF2.on hb3).cell 0;have q1 : w3.cell? ⟨w.heap.size, 1, none⟩ = some (S [98]) := (hF2.on hb3).cell 1;have q2 : w3.cell? ⟨w.heap.size, 2, none⟩ = some (.bool false) := (hF2.on hb3).cell 2)))
   all_goals (go_wp2;go_meet;exact ⟨rfl, hb3⟩)
  case rest =>
   obtain ⟨rfl, hb3⟩ := hcut;obtain ⟨W3, rfl⟩ : ∃ W3, W3 = wc := ⟨_, rfl⟩;have hE3 := hE2.on hb3;have hF3 := hF2.on hb3;have hw3 := hw2.trans (hb3.mono hw2.size);clear hE2 hF2 hw2 hb3;have y4 : W3.cell? ⟨eb, 3, none⟩ = some (.slice none 0 0) := hE3.cell 3;have y4a : ∀ ob, (W3.alloc ob).cell? ⟨eb, 3, none⟩ = some (.slice none 0 0) := fun ob => (hE3.alloc ob).cell 3
   have a0 : W3.cell? ⟨w.heap.size, 0, none⟩ = some (S [97]) := hF3.cell 0;have a1 : W3.cell? ⟨w.heap.size, 1, none⟩ = some (S [98]) := hF3.cell 1;have a0a : ∀ ob, (W3.alloc ob).cell? ⟨w.heap.size, 0, none⟩ = some (S [97]) := fun ob => (hF3.alloc ob).cell 0
   have a1a : ∀ ob, (W3.alloc ob).cell? ⟨w.heap.size, 1, none⟩ = some (S [98]) := fun ob => (hF3.alloc ob).cell 1
   have hz := hw3.size;go_wp2;have f4a : ∀ ob, (W3.alloc ob).frozen? ⟨eb, 3, none⟩ = false := fun ob => (hE3.alloc ob).free 3
   go_region
   all_goals go_wp2
   all_goals go_end0
   all_goals exact ⟨rfl, (((But.of_below (S := fun k => k = eb) hw3).alloc _).setCell (p := ⟨eb, 3, none⟩) (.inl rfl) _).drew, _, ((hE3.alloc _).set 3 _).drew⟩
theorem rCost_st (w : World) : Calls Tryz.prog 43 #[.agg stat8] w fun e w' => e = .returned (.int .i64 42) ∧ Below w.heap.size w w' := rCost_any (⟨[58, 115, 116, 97, 116, 117, 115], [50, 48, 48], false⟩ : F) (by decide) (by decide) w
theorem rDecode_ab {db B : Nat} {v : Value} (w : World) (h : By B w v blk6) (hB : B ≤ w.heap.size) (hD : Blk w db 110 #[.int .i64 4096, .int .i64 100000, .int .i64 4096, .slice none 0 0, .bool false]) :
  Calls Tryz.prog 16 #[Ptr db, v] w fun e w' => ∃ x, e = .returned (.tuple #[x, .int .i64 0]) ∧ w'.ownsRow w.heap.size 45 3 x 2 [S [58, 115, 116, 97, 116, 117, 115], S [50, 48, 48], .bool false, S [97], S [98], .bool false] ∧ But (fun k => k = db) w w' := by
 obtain ⟨a0, c0, h0, hr0⟩ := h.from 0 (by decide)
 obtain ⟨a1, c1, h1, hr1⟩ := h.from 1 (by decide)
 obtain ⟨a, c, rfl, hcc, hcm⟩ := h.form;replace h0 : By B w (.slice a0 6 c0) blk6 := h0
 replace h1 : By B w (.slice a1 5 c1) [64, 1, 97, 1, 98] := h1
 replace hr0 : ∀ w', (Instr.slice 39 (.slice a 6 c) (some (.int .i64 0)) none none).run Tryz.prog w' = .ok (.slice a0 6 c0) w' := hr0
 replace hr1 : ∀ w', (Instr.slice 39 (.slice a 6 c) (some (.int .i64 1)) none none).run Tryz.prog w' = .ok (.slice a1 5 c1) w' := hr1
 obtain ⟨b, off, rfl, hbw, k0⟩ := h.at 0 (by decide);obtain ⟨b', off', e1, -, k1⟩ := h.at 1 (by decide);obtain ⟨rfl, rfl⟩ : b = b' ∧ off = off' := by simpa using e1
 have k0 : w.cell? ⟨b, off, none⟩ = some (.int .u8 136) := k0;have k1 : w.cell? ⟨b, off + 1, none⟩ = some (.int .u8 64) := k1;have hlen : blk6.length = 6 := rfl;replace h : By B w (.slice (some ⟨b, off, none⟩) 6 c) blk6 := h
 have hT0 : ∀ X, Below w.heap.size w X → Calls Tryz.prog 37 #[.slice a0 6 c0, .int .i64 7] X fun e w' => e = .returned (.tuple #[.int .i64 8, .int .i64 1, .int .i64 0]) ∧ w' = X := fun X hX => rTakeInt_136 _ _ X (h0.below (hX.mono hB)) (by decide) rfl
 have hT1 : ∀ X, By B X (.slice a1 5 c1) [64, 1, 97, 1, 98] → Calls Tryz.prog 37 #[.slice a1 5 c1, .int .i64 6] X fun e w' => e = .returned (.tuple #[.int .i64 0, .int .i64 1, .int .i64 0]) ∧ w' = X := fun X hX => rTakeInt_64 _ _ X hX (by decide) rfl
 have y4 : w.cell? ⟨db, 4, none⟩ = some (.bool false) := hD.cell 4;have hdl := hD.lt;have hbw' : b < w.heap.size := Nat.lt_of_lt_of_le hbw hB
 rw [show (Value.slice (some ⟨b, off, none⟩) blk6.length c) = .slice (some ⟨b, off, none⟩) 6 c from rfl];have hb0 : Below w.heap.size w w := Below.refl _ _;clear hcc hcm;go_enter Tryz.func16, Tryz.ntmps16
 go_upto_region 7 with fail;refine wp_loop_rounds 3 ?_;rw [rounds_succ];go_upto_region 9 with fail
 go_region_with (first
  | (go_at_call 38;(with_reducible refine (rBits_136 _).mono ?_);rintro r w2 ⟨rfl, ew⟩;have ew2 := ew.symm;subst ew2)
  | (go_at_call 37;(with_reducible refine (hT0 _ hb0.drew).mono ?_);rintro r w2 ⟨rfl, ew⟩;have ew2 := ew.symm;subst ew2))
 all_goals (
  go_upto_region 13 with fail;refine wp_cut (R := fun X => Below w.heap.size w X ∧ Blk X w.heap.size 45 #[S [], S [], .bool false]) ⟨((Below.refl _ _).alloc (Nat.le_refl _) _).drew, (Blk.new _ _ _).drew⟩ ?_;rintro X1 ⟨hX1, hF1⟩
  go_upto_region 23 with first
   | (go_at_call 38;(with_reducible refine (rBits_136 _).mono ?_);rintro r w2 ⟨rfl, ew⟩;have ew2 := ew.symm;subst ew2)
   | (go_at_call 40;go_must ((with_reducible refine (rAt_eight _).mono ?_);rintro r w2 ⟨rfl, hb2⟩;have hF2 := hF1.on hb2;have q0 : w2.cell? ⟨w.heap.size, 0, none⟩ = some (S []) := hF2.cell 0;have q1 : w2.cell? ⟨w.heap.size, 1, none⟩ = some (S []) := hF2.cell 1;have q2 : w2.cell? ⟨w.heap.size, 2, none⟩ = some (.bool false) := hF2.cell 2;have f0 := hF2.free 0;have f1 := hF2.free 1;have f2 := hF2.free 2))
  refine wp_cut (R := fun X => Below w.heap.size w X ∧ Blk X w.heap.size 45 stat8) ⟨bel3 (hX1.trans (hb2.mono hX1.size)) (Nat.le_refl _) _ _ _, set3 hF2 _ _ _⟩ ?_;clear hX1 hF1 hb2 hF2 q0 q1 q2 f0 f1 f2;rintro X2 ⟨hX2, hF2⟩;have z0 : X2.cell? ⟨w.heap.size, 0, none⟩ = some (S [58, 115, 116, 97, 116, 117, 115]) := hF2.cell 0;have z1 : X2.cell? ⟨w.heap.size, 1, none⟩ = some (S [50, 48, 48]) := hF2.cell 1;have z2 : X2.cell? ⟨w.heap.size, 2, none⟩ = some (.bool false) := hF2.cell 2
  go_wp2_with first
   | (go_at_call 38;(with_reducible refine (rBits_136 _).mono ?_);rintro r w2 ⟨rfl, ew⟩;have ew2 := ew.symm;subst ew2)
   | (go_at_call 43;go_must ((with_reducible refine (rCost_st _).mono ?_);rintro r w3 ⟨rfl, hb3⟩;have hF3 := hF2.on hb3;have u0 : w3.cell? ⟨w.heap.size, 0, none⟩ = some (S [58, 115, 116, 97, 116, 117, 115]) := hF3.cell 0;have u1 : w3.cell? ⟨w.heap.size, 1, none⟩ = some (S [50, 48, 48]) := hF3.cell 1;have u2 : w3.cell? ⟨w.heap.size, 2, none⟩ = some (.bool false) := hF3.cell 2;have hX3 := hX2.trans (hb3.mono hX2.size)))
   | (at_builtin;go_must (refine wpList_appRd rfl _ _ 46 rfl w.heap.size 45 (.agg #[.string ByteArray.empty, .string ByteArray.empty, .bool false]) 3 40 Tryz.underlying46 (by kernel_rfl) rfl (by decide) _ _ _ rfl (World.ownsRow_nil _ _ _ _) _ _ _ [S [58, 115, 116, 97, 116, 117, 115], S [50, 48, 48], .bool false] rfl (Rd.lit w3 45 #[S [58, 115, 116, 97, 116, 117, 115], S [50, 48, 48], .bool false] 3 1 rfl (by decide)) (by intro u hu;simp at hu;rcases hu with rfl | rfl | rfl <;> rfl) (by decide) (by decide) (Nat.le_trans hX3.size (by simp)) ?_);intro a7 c7 w7 hr7 hb7)
  rw [rounds_succ];refine wp_cut (R := fun X => Below w.heap.size w X ∧ X.ownsRow w.heap.size 45 3 (.slice a7 1 c7) 1 [S [58, 115, 116, 97, 116, 117, 115], S [50, 48, 48], .bool false]) ⟨(hX3.alloc hX3.size _).trans hb7, hr7⟩ ?_;clear hX3 hr7 hb7 hb3 hF3 u0 u1 u2 hX2 hF2 z0 z1 z2;rintro X3 ⟨hX3, hr3⟩;have k1' : X3.cell? ⟨b, off + 1, none⟩ = some (.int .u8 64) := (hX3.cell (p := ⟨b, off + 1, none⟩) hbw').trans k1
  go_upto_region 9 with fail
  go_region_with (first
   | (go_at_call 38;(with_reducible refine (rBits_64 _).mono ?_);rintro r w2 ⟨rfl, ew⟩;have ew2 := ew.symm;subst ew2)
   | (go_at_call 37;(with_reducible refine (hT1 _ (h1.below (hX3.drew.mono hB))).mono ?_);rintro r w2 ⟨rfl, ew⟩;have ew2 := ew.symm;subst ew2))
  all_goals (
   go_upto_region 13 with fail;refine wp_cut (R := fun X => Below w.heap.size w X ∧ Blk X X3.heap.size 45 #[S [], S [], .bool false] ∧ X.ownsRow w.heap.size 45 3 (.slice a7 1 c7) 1 [S [58, 115, 116, 97, 116, 117, 115], S [50, 48, 48], .bool false]) ⟨(hX3.alloc hX3.size _).drew, (Blk.new _ _ _).drew, own_dr (own_below hr3 ((Below.refl _ _).alloc (Nat.le_refl _) _))⟩ ?_;have hX3s := hX3.size;have hgl : ∀ g, some g = (Value.slice a7 1 c7).ownBlock → g < X3.heap.size := fun g hg => (own_lt hr3 hg).2
   have hdX : db < X3.heap.size := Nat.lt_of_lt_of_le hdl hX3s;clear hX3 hr3 k1';rintro X4 ⟨hX4, hF4, hr4⟩;have hLi := rLiteral_ab (p := Ptr db) X4 (h.below (hX4.mono hB)) (Nat.le_trans hB hX4.size)
   go_upto_region 22 with first
    | (go_at_call 38;(with_reducible refine (rBits_64 _).mono ?_);rintro r w2 ⟨rfl, ew⟩;have ew2 := ew.symm;subst ew2)
    | (go_at_call 41;go_must ((with_reducible refine hLi.mono ?_);rintro r w2 ⟨rfl, hb2⟩;have hF2 := hF4.on hb2;have q0 : w2.cell? ⟨X3.heap.size, 0, none⟩ = some (S []) := hF2.cell 0;have q1 : w2.cell? ⟨X3.heap.size, 1, none⟩ = some (S []) := hF2.cell 1;have q2 : w2.cell? ⟨X3.heap.size, 2, none⟩ = some (.bool false) := hF2.cell 2;have f0 := hF2.free 0;have f1 := hF2.free 1;have f2 := hF2.free 2))
   refine wp_cut (R := fun X => Below w.heap.size w X ∧ Blk X X3.heap.size 45 abF8 ∧ X.ownsRow w.heap.size 45 3 (.slice a7 1 c7) 1 [S [58, 115, 116, 97, 116, 117, 115], S [50, 48, 48], .bool false] ∧ Blk X db 110 #[.int .i64 4096, .int .i64 100000, .int .i64 4096, .slice none 0 0, .bool false]) ⟨bel3 (hX4.trans (hb2.mono hX4.size)) hX3s _ _ _, set3 hF2 _ _ _, own_same (own_below hr4 hb2) (fun g hg => by
    have hg2 := hgl g hg;have hn : g ≠ X3.heap.size := (by omega)
    rw [Below.heap_setCell _ _ _ _ hn, Below.heap_setCell _ _ _ _ hn, Below.heap_setCell _ _ _ _ hn]), ((hD.on (hX4.trans (hb2.mono hX4.size))).below (bel3 (Below.refl X3.heap.size _) (Nat.le_refl _) _ _ _) hdX)⟩ ?_
   clear hX4 hF4 hr4 hb2 hF2 q0 q1 q2 f0 f1 f2 hLi;rintro X5 ⟨hX5, hF5, hr5, hD5⟩;have q2 : X5.cell? ⟨X3.heap.size, 2, none⟩ = some (.bool false) := hF5.cell 2;have f2 := hF5.free 2;go_upto_region 23 with fail
   refine wp_cut (R := fun X => Below w.heap.size w X ∧ Blk X X3.heap.size 45 abF8 ∧ X.ownsRow w.heap.size 45 3 (.slice a7 1 c7) 1 [S [58, 115, 116, 97, 116, 117, 115], S [50, 48, 48], .bool false] ∧ Blk X db 110 #[.int .i64 4096, .int .i64 100000, .int .i64 4096, .slice none 0 0, .bool false]) ⟨hX5.setCell (p := ⟨X3.heap.size, 2, none⟩) hX3s _, hF5.set 2 _, own_same hr5 (fun g hg => by
    have hg2 := hgl g hg;have hn : g ≠ X3.heap.size := (by omega)
    rw [Below.heap_setCell _ _ _ _ hn]), hD5.other (by show db ≠ X3.heap.size;omega) _⟩ ?_
   clear hX5 hF5 hr5 hD5 q2 f2;rintro X6 ⟨hX6, hF6, hr6, hD6⟩;have z0 : X6.cell? ⟨X3.heap.size, 0, none⟩ = some (S [97]) := hF6.cell 0;have z1 : X6.cell? ⟨X3.heap.size, 1, none⟩ = some (S [98]) := hF6.cell 1;have z2 : X6.cell? ⟨X3.heap.size, 2, none⟩ = some (.bool false) := hF6.cell 2;have hA1 := rAdd_abD X6 hD6;have hA2 := rAdd_abD X6.drew hD6.drew;go_upto_region 27 with (go_at_call 38;(with_reducible refine (rBits_64 _).mono ?_);rintro r w2 ⟨rfl, ew⟩;have ew2 := ew.symm;subst ew2)
   go_region_with (first
    | (go_at_call 42;(with_reducible refine hA2.mono ?_);rintro r w7 ⟨rfl, hb7, u7, hD7⟩;replace hb7 : But (fun k => k = db) X6 w7 := (But.refl _ _).drew.trans hb7)
    | (go_at_call 42;go_must ((with_reducible refine hA1.mono ?_);rintro r w7 ⟨rfl, hb7, u7, hD7⟩)))
   all_goals (
    go_upto_region 28 with fail
    refine wp_cut (R := fun X => But (fun k => k = db) w X ∧ Blk X X3.heap.size 45 abF8 ∧ X.ownsRow w.heap.size 45 3 (.slice a7 1 c7) 1 [S [58, 115, 116, 97, 116, 117, 115], S [50, 48, 48], .bool false] ∧ Blk X db 110 #[.int .i64 4096, .int .i64 100000, .int .i64 4096, u7, .bool false]) (by
     have t1 := (But.of_below (S := fun k => k = db) hX6).trans hb7;have t2 := hF6.but hb7 (by show X3.heap.size ≠ db;omega);have t3 := own_same hr6 (fun g hg => hb7.block g (own_lt hr6 hg).2 (fun e => by have := (own_lt hr6 hg).1;omega))
     first | exact ⟨t1, t2, t3, hD7⟩ | exact ⟨t1.drew, t2.drew, own_dr t3, hD7.drew⟩) ?_
    clear hX6 hF6 hr6 hD6 z0 z1 z2 hA1 hA2 hb7 hD7;rintro X7 ⟨hX7, hF7, hr7, hD7⟩;have z0 : X7.cell? ⟨X3.heap.size, 0, none⟩ = some (S [97]) := hF7.cell 0;have z1 : X7.cell? ⟨X3.heap.size, 1, none⟩ = some (S [98]) := hF7.cell 1;have z2 : X7.cell? ⟨X3.heap.size, 2, none⟩ = some (.bool false) := hF7.cell 2
    go_wp2_with first
     | (go_at_call 43;go_must ((with_reducible refine (rCost_abD _).mono ?_);rintro r w3 ⟨rfl, hb3⟩;have hF3 := hF7.on hb3;have u0 : w3.cell? ⟨X3.heap.size, 0, none⟩ = some (S [97]) := hF3.cell 0;have u1 : w3.cell? ⟨X3.heap.size, 1, none⟩ = some (S [98]) := hF3.cell 1;have u2 : w3.cell? ⟨X3.heap.size, 2, none⟩ = some (.bool false) := hF3.cell 2;have hr3 := own_below hr7 (hb3.trans ((Below.refl _ _).alloc hb3.size (.cells #[S [97], S [98], .bool false] 45)));have hX3 := hX7.trans (But.of_below hb3)))
     | (at_builtin;go_must (refine wpList_appRd rfl _ _ 46 rfl w.heap.size 45 (.agg #[.string ByteArray.empty, .string ByteArray.empty, .bool false]) 3 40 Tryz.underlying46 (by kernel_rfl) rfl (by decide) _ _ _ rfl hr3 _ _ _ [S [97], S [98], .bool false] rfl (Rd.lit w3 45 #[S [97], S [98], .bool false] 3 1 rfl (by decide)) (by intro u hu;simp at hu;rcases hu with rfl | rfl | rfl <;> rfl) (by decide) (by decide) (Nat.le_trans hX3.size (by simp)) ?_);intro a9 c9 w9 hr9 hb9)
    rw [rounds_succ];have hD9 : Blk w9 db 110 _ := ((hD7.on hb3).alloc _).below hb9 hdl;have v1 : w9.cell? ⟨db, 1, none⟩ = some (.int .i64 100000) := hD9.cell 1;go_wp2;go_ret2
    exact ⟨_, rfl, hr9, but_on (hX3.alloc _) hb9⟩)))
open Go Go.RowKit Go.Dr
def frd (p : Bytes × Bool) : Fr := { ty := 0, fl := if p.2 then 1 else 0, st := 1, data := p.1 }
def dats (fs : List (Bytes × Bool)) : List (Bytes × Fr) := fs.map fun p => (frB 0 (if p.2 then 1 else 0) 1 p.1, frd p)
def FS (fs : List (Bytes × Bool)) : List (Bytes × Fr) := (bs22, { ty := 4, sets := [(1, 4096), (3, 3), (4, 1000), (6, 4000)] }) :: (frB 4 1 0 [], { ty := 4, fl := 1 }) :: (frB 1 4 1 blk6w, { ty := 1, fl := 4, st := 1, data := blk6w }) :: dats fs
theorem FS_len (fs : List (Bytes × Bool)) : (FS fs).length = fs.length + 3 := by simp [FS, dats]
theorem FS_flat (fs : List (Bytes × Bool)) : flatF (FS fs) = baseB ++ fb fs := by
 have e : flatF (dats fs) = fb fs := by
  unfold dats fb
  show List.flatMap (fun x : Bytes × Fr => x.1) (List.map _ fs) = _
  rw [List.flatMap_map]
 show bs22 ++ (frB 4 1 0 [] ++ (frB 1 4 1 blk6w ++ flatF (dats fs))) = _
 rw [e, List.append_assoc, List.append_assoc]
theorem FS_rtk {body : Bytes} {fs : List (Bytes × Bool)} {pend : Bytes} {fin : Bool} (h : Run body fs pend fin) : ∀ x ∈ FS fs, RTk x.1 x.2 ∧ 0 < x.1.length := by
 intro x hx;have hp : ∀ ty fl st pl, 0 < (frB ty fl st pl).length := fun ty fl st pl => by rw [frB_length];omega
 rcases List.mem_cons.1 hx with rfl | hx
 ·exact ⟨rTk_Set4, hp _ _ _ _⟩
 rcases List.mem_cons.1 hx with rfl | hx
 ·exact ⟨rTk_SetA, hp _ _ _ _⟩
 rcases List.mem_cons.1 hx with rfl | hx
 ·exact ⟨rTk_Hdr 1 blk6w (by decide) (by decide) rfl, hp _ _ _ _⟩
 obtain ⟨⟨d, e⟩, hm, rfl⟩ := List.mem_map.1 hx;refine ⟨?_, hp _ _ _ _⟩;have hl := h.len _ hm
 cases e with
 | true =>
  by_cases hd : d = []
  ·subst hd
   exact rTk_DatZ 1 (by decide) (by decide)
  ·exact rTk_DatL 1 d d.length (by decide) (by decide) rfl (List.length_pos_iff.2 hd) hl
 | false => exact rTk_DatF 1 d d.length (by decide) (by decide) rfl (h.pos _ hm rfl) hl
def gotF (fs : List (Bytes × Bool)) (j : Nat) : Bytes := (fs.take (j - 3)).flatMap (·.1)
theorem gotF_next (fs : List (Bytes × Bool)) (j : Nat) (h : 3 ≤ j) (h2 : j - 3 < fs.length) : gotF fs (j + 1) = gotF fs j ++ (fs[j - 3]).1 := by
 unfold gotF;rw [show j + 1 - 3 = (j - 3) + 1 by omega, List.take_succ_eq_append_getElem h2, List.flatMap_append];simp
theorem gotF_le {body : Bytes} {fs : List (Bytes × Bool)} {pend : Bytes} {fin : Bool} (h : Run body fs pend fin) (j : Nat) : (gotF fs j).length ≤ body.length := by
 have e : fs.flatMap (·.1) = gotF fs j ++ (fs.drop (j - 3)).flatMap (·.1) := by
  unfold gotF;rw [← List.flatMap_append, List.take_append_drop]
 rw [← h.cat, e, List.length_append, List.length_append];omega
theorem gotF_all {body : Bytes} {fs : List (Bytes × Bool)} (h : Run body fs [] true) : gotF fs (FS fs).length = body := by
 unfold gotF;rw [FS_len, show fs.length + 3 - 3 = fs.length by omega, List.take_length];have := h.cat
 rwa [List.append_nil] at this
theorem FS_hi (fs : List (Bytes × Bool)) (j : Nat) (h : 3 ≤ j) (h2 : j - 3 < fs.length) (hj : j < (FS fs).length) : ((FS fs)[j]).2 = frd fs[j - 3] := by
 obtain ⟨i, rfl⟩ : ∃ i, j = i + 3 := ⟨j - 3, by omega⟩;simp [FS, dats]
theorem end_at {body : Bytes} {fs : List (Bytes × Bool)} (h : Run body fs [] true) (i : Nat) (hi : i < fs.length) : (fs[i]).2 = decide (i + 1 = fs.length) := by
 obtain ⟨-, fs', d, rfl, hm⟩ := h.done rfl;by_cases hl : i < fs'.length
 ·rw [List.getElem_append_left hl, hm _ (List.getElem_mem hl)]
  symm
  simp
  omega
 ·have : i = fs'.length := by simp at hi;omega
  subst this;simp
end Go.Proofs.YtcodgfmombehoaaGreatDoor
namespace Go.Dr
open Go.RowKit Go.ChangeShapes Go.WideShapes Go.Deep Go.Joins
abbrev H16 (n : Nat) : Value := .int .u16 (n : Int)
def Hs (B : Nat) (w : World) (v : Value) (l : List Nat) : Prop := Rd B w 1 v l.length (l.map H16)
theorem Hs.below {B : Nat} {w w' : World} {v : Value} {l : List Nat} (h : Hs B w v l) (hb : Below B w w') : Hs B w' v l := Rd.below h hb
theorem Hs.mono {B B' : Nat} {w : World} {v : Value} {l : List Nat} (h : Hs B w v l) (hB : B ≤ B') : Hs B' w v l := Rd.mono h hB
theorem Hs.form {B : Nat} {w : World} {v : Value} {l : List Nat} (h : Hs B w v l) : ∃ a cap, v = .slice a l.length cap ∧ l.length ≤ 9223372036854775807 := by
 obtain ⟨a, cap, h1, h2, h3, h4, h5, h6⟩ := h;exact ⟨a, cap, h1, by unfold maxLen at h3;omega⟩
theorem Hs.at {B : Nat} {w : World} {a : Option Addr} {n cap : Nat} {l : List Nat} (h : Hs B w (.slice a n cap) l) (k : Nat) (hk : k < l.length) :
  ∃ b off, a = some ⟨b, off, none⟩ ∧ b < B ∧ w.cell? ⟨b, off + k, none⟩ = some (H16 l[k]) := by
 obtain ⟨a', cap', h1, h2, h3, h4, h5, h6⟩ := h;simp only [Value.slice.injEq] at h1;obtain ⟨rfl, rfl, rfl⟩ := h1;obtain ⟨b, off, rfl, hb, c0⟩ := h6 k _ (by rw [List.getElem?_map, List.getElem?_eq_getElem hk];rfl);exact ⟨b, off, rfl, hb, c0⟩
section
variable {H : Type} {enc : TypeId × Value → H} {P : Program} {w : World} {base : Nat} {spare : Nat → Bool} {held : Bool}
theorem flat_H16 (l : List Nat) : l.flatMap (fun n => [H16 n]) = l.map H16 := by
 induction l with
 | nil => rfl
 | cons a l ih => rw [List.flatMap_cons, ih];rfl
theorem open_Hs {r : Reach} {b0 : Nat} {t e : TypeId} {v : Value} {d : DataW H} {ps : List MemPlace} (ht : P.underlying t = some (.slice e)) (he : P.underlying e = some (.int .u16)) (hC : P.cellsOf e = 1)
  (hval : Value.okWide P w r b0 t v) (hd : DataW.Trod enc P w base spare held t v d ps) (hw : (d.weights P t).all (· ≤ reachBytes) = true) :
  ∃ l : List Nat, Hs w.heap.size w v l ∧ (∀ n ∈ l, n ≤ 65535) := by
 obtain ⟨a, len, cap, rfl⟩ := okWide_slice ht hval;obtain ⟨fuel, hf⟩ := hd
 obtain ⟨v, l, hv, h1, h2, h3⟩ := open_seq (α := Nat) (hs0 := by decide) 1 (fun n => [H16 n]) (fun n => n ≤ 65535) hC (fun _ => rfl) (fun m cs' y hy _ => by
  obtain ⟨n, rfl, -, hwf⟩ := DataW.trod_int he hy;have := wf_u16 hwf
  refine ⟨n.toNat, ?_, by omega⟩
  show _ = [Value.int .u16 ((n.toNat : Nat) : Int)]
  rw [Int.toNat_of_nonneg this.1]) ht hf hw
 simp only [Value.cells, List.cons.injEq, and_true] at hv;subst hv;rw [flat_H16] at h1;exact ⟨l, h1, h2⟩
end
end Go.Dr
