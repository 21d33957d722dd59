/- Parts of the proof of bk_root: the texts Tad1 Cne1 Cne2. -/
import Derived.Deep.WholeRow
import Derived.Test.YtcodgfmombehoaaGreatDoorK26
set_option linter.unusedSimpArgs false
set_option linter.unusedVariables false
set_option linter.unnecessarySimpa false
set_option maxRecDepth 100000
set_option maxHeartbeats 64000000
namespace Go.Proofs.YtcodgfmombehoaaGreatDoor
open Go Go.RowKit Go.Dr Go.ChangeMaps
abbrev abC : Array Value := #[S [97], S [98]]
theorem mblk {w : World} {m b : Nat} {es : Array MapEntry} {n : Nat} {t : TypeId} {xs : Array Value} (h : w.heap[m]? = some (.map es n)) (hb : Blk w b t xs) : m ≠ b := fun e => by
 have := (e ▸ h).symm.trans (show w.heap[b]? = _ from hb)
 simp at this
theorem run_map_first {P : Program} {t kt et : TypeId} {m clock : Nat} {w : World} {key v : Value} (ht : P.underlying t = some (.map kt et)) (h : w.heap[m]? = some (.map #[] clock)) (hc : (Instr.checkKey false 10000 kt key).run P w = .ok () w) (hf : (Instr.findKey kt key []).run P w = .ok none w) : ∃ w', (Instr.mapUpdate t (.map (some m)) key v).run P w = .ok () w' ∧ w.mapTurned w' m := by
 refine ⟨setBlock w m (.map #[{ key := key, val := v, born := clock }] (clock + 1)), ?_, #[], clock, _, _, h, rfl⟩;simp [Instr.mapUpdate, run_underlying ht, MapKept.run_getObj_map h, hc, hf, MapKept.run_setObj_map _ h, Result.andThen, setBlock]
theorem turned_obj {w w' : World} {b : Nat} (h : w.mapTurned w' b) : ∃ es k, w'.heap[b]? = some (.map es k) := by
 obtain ⟨es, c, es', c', h1, rfl⟩ := h;exact ⟨es', c', heap_setBlock_same h1 _⟩
theorem run_both (w : World) (m : Nat) (h : w.heap[m]? = some (.map #[] 0)) (x : Int) : ∃ w', (Instr.mapUpdate 172 (.map (some m)) (.agg #[S [97], S [98]]) (.int .i64 x)).run Tryz.prog w = .ok () w' ∧ w.mapTurned w' m :=
 run_map_first Tryz.underlying172 h (by kernel_rfl) (by kernel_rfl)
theorem run_name (w : World) (m : Nat) (h : w.heap[m]? = some (.map #[] 0)) (x : Int) : ∃ w', (Instr.mapUpdate 173 (.map (some m)) (S [97]) (.int .i64 x)).run Tryz.prog w = .ok () w' ∧ w.mapTurned w' m :=
 run_map_first Tryz.underlying173 h (by kernel_rfl) (by kernel_rfl)
theorem CostRow_ab (w : World) : Calls Tryz.prog 151 #[.agg abC] w fun e w' => e = .returned (.int .i64 34) ∧ Below w.heap.size w w' := by
 go_enter Tryz.func151, Tryz.ntmps151
 go_wp2;go_ret;exact ⟨rfl, (Below.refl _ _).alloc (Nat.le_refl _) _⟩
theorem Add_abM {t m1 m2 : Nat} (w : World) (hT : Blk w t 176 #[.int .i64 4096, .int .i64 0, .slice none 0 0, .int .i64 0, .map (some m1), .map (some m2)]) (h1 : w.heap[m1]? = some (.map #[] 0)) (h2 : w.heap[m2]? = some (.map #[] 0)) (h12 : m1 ≠ m2) :
  Calls Tryz.prog 135 #[Ptr t, .agg #[S [97], S [98], .bool false]] w fun e w' => e = .returned (.tuple #[]) ∧ (∃ a c, Blk w' t 176 #[.int .i64 4096, .int .i64 34, .slice a 1 c, .int .i64 0, .map (some m1), .map (some m2)] ∧ w'.ownsRow w.heap.size 211 2 (.slice a 1 c) 1 abC.toList) ∧ But (fun k => k = t ∨ k = m1 ∨ k = m2) w w' ∧ (∃ es k, w'.heap[m1]? = some (.map es k)) ∧ ∃ es k, w'.heap[m2]? = some (.map es k) := by
 have hrl := hT.lt;have n1 : m1 ≠ t := mblk h1 hT;have n2 : m2 ≠ t := mblk h2 hT;have l1 := lt_of_block h1;have l2 := lt_of_block h2;go_enter Tryz.func135, Tryz.ntmps135
 go_upto_region 3 with fail;refine wp_cut (R := fun W => Blk W (w.heap.size + 1) 211 abC ∧ Below w.heap.size w W) ⟨bnew_at _ _ _ _ (by simp), ((Below.refl _ _).alloc (Nat.le_refl _) _).alloc (by simp) _⟩ ?_;rintro X ⟨hR, hb⟩;have hTX := hT.on hb;have y0 : X.cell? ⟨t, 0, none⟩ = some (.int .i64 4096) := hTX.cell 0;have r0 : X.cell? ⟨w.heap.size + 1, 0, none⟩ = some (S [97]) := hR.cell 0;have r1 : X.cell? ⟨w.heap.size + 1, 1, none⟩ = some (S [98]) := hR.cell 1;have hR2 : ∀ W, Below X.heap.size X W → W.cell? ⟨t, 0, none⟩ = some (.int .i64 4096) ∧ W.cell? ⟨w.heap.size + 1, 0, none⟩ = some (S [97]) ∧ W.cell? ⟨w.heap.size + 1, 1, none⟩ = some (S [98]) := fun W hW => ⟨(hTX.on hW).cell 0, (hR.on hW).cell 0, (hR.on hW).cell 1⟩
 go_region_held3 (fun W => W.cell? ⟨t, 0, none⟩ = some (.int .i64 4096) ∧ W.cell? ⟨w.heap.size + 1, 0, none⟩ = some (S [97]) ∧ W.cell? ⟨w.heap.size + 1, 1, none⟩ = some (S [98]))
  (first | go_keep)
  ((go_at_call 151;go_must ((with_reducible refine (CostRow_ab _).mono ?_);rintro e w1 ⟨rfl, hb1⟩;have hb1 := (Below.refl X.heap.size X).drew.trans hb1;obtain ⟨q0, q1, q2⟩ := hR2 _ hb1)))
 go_upto_region 5 with fail;refine wp_cut (R := fun W => Below X.heap.size X W) hb1 ?_;clear hb1 q0 q1 q2 y0 r0 r1;rintro X2 hb2;replace hTX := hTX.on hb2;replace hR := hR.on hb2;replace hb := hb.trans (hb2.mono hb.size);clear hb2 hR2;obtain ⟨y0, r0, r1⟩ : X2.cell? ⟨t, 0, none⟩ = some (.int .i64 4096) ∧ X2.cell? ⟨w.heap.size + 1, 0, none⟩ = some (S [97]) ∧ X2.cell? ⟨w.heap.size + 1, 1, none⟩ = some (S [98]) := ⟨hTX.cell 0, hR.cell 0, hR.cell 1⟩
 go_region_held3 (fun W => W.cell? ⟨t, 0, none⟩ = some (.int .i64 4096) ∧ W.cell? ⟨w.heap.size + 1, 0, none⟩ = some (S [97]) ∧ W.cell? ⟨w.heap.size + 1, 1, none⟩ = some (S [98]))
  (first | go_keep)
  (first
   | (go_at_call 152;go_must ((with_reducible refine (Shrink_empty (IntKind.i64.wrap 4062) (by decide) _ hT1).mono ?_);rintro e w2 ⟨rfl, e2⟩;subst e2))
   | (go_at_call 151;go_must ((with_reducible refine (CostRow_ab _).mono ?_);rintro e w1 ⟨rfl, hb1⟩;have hb1 := (Below.refl X2.heap.size X2).drew.trans hb1;have hT1 := hTX.on hb1;have q0 : w1.cell? ⟨t, 0, none⟩ = some (.int .i64 4096) := hT1.cell 0;have q1 : w1.cell? ⟨w.heap.size + 1, 0, none⟩ = some (S [97]) := (hR.on hb1).cell 0;have q2 : w1.cell? ⟨w.heap.size + 1, 1, none⟩ = some (S [98]) := (hR.on hb1).cell 1)))
 go_upto_region 6 with fail;refine wp_cut (R := fun W => Below w.heap.size w W ∧ Blk W t 176 #[.int .i64 4096, .int .i64 0, .slice none 0 0, .int .i64 0, .map (some m1), .map (some m2)] ∧ Blk W (w.heap.size + 1) 211 abC) ⟨hb.trans (hb1.mono hb.size), hT1, hR.on hb1⟩ ?_;clear hb1 q0 q1 q2 hTX hb y0 r0 r1 hT1 hR;rintro X3 ⟨hb, hTX, hR⟩;obtain ⟨y2, r0, r1⟩ : X3.cell? ⟨t, 2, none⟩ = some (.slice none 0 0) ∧ X3.cell? ⟨w.heap.size + 1, 0, none⟩ = some (S [97]) ∧ X3.cell? ⟨w.heap.size + 1, 1, none⟩ = some (S [98]) := ⟨hTX.cell 2, hR.cell 0, hR.cell 1⟩;have y2a : ∀ ob, (X3.alloc ob).cell? ⟨t, 2, none⟩ = some (.slice none 0 0) := fun ob => (hTX.alloc ob).cell 2
 have hzb := hb.size
 go_cut [] (fun wx => ∃ a c, But (fun k => k = t) w wx ∧ Blk wx t 176 #[.int .i64 4096, .int .i64 0, .slice a 1 c, .int .i64 0, .map (some m1), .map (some m2)] ∧ wx.ownsRow w.heap.size 211 2 (.slice a 1 c) 1 abC.toList ∧ Blk wx (w.heap.size + 1) 211 abC)
 case first =>
  go_region_law (refine step_of ?_ (by rfl);refine wp_appG _ _ 174 rfl w.heap.size 211 (.agg #[.string ByteArray.empty, .string ByteArray.empty]) 2 32 Tryz.underlying174 (by kernel_rfl) rfl (by decide) _ _ _ rfl (World.ownsRow_nil _ _ _ _) _ _ _ abC.toList rfl (Rd.drew (Rd.lit X3 211 abC 2 1 rfl (by decide))) (by intro u hu;simp at hu;rcases hu with rfl | rfl <;> rfl) (by unfold maxLen;omega) (by omega) (by simp;omega) ?_;intro a4 c4 w4 hown4 hb4 hg4;have hT4 := (hTX.alloc (.cells abC 211)).drew.below hb4 hrl;have z2 : w4.cell? ⟨t, 2, none⟩ = some (.slice none 0 0) := hT4.cell 2;have zf := hT4.free 2;have hR4 := (hR.alloc (.cells abC 211)).drew.grow hg4 (by intro e;have e2 : some (w.heap.size + 1) = (none : Option Nat) := e;simp at e2))
  all_goals (go_wp2;go_meet;exact ⟨a4, c4, (But.of_below (S := fun k => k = t) (((hb.alloc hzb _).drew).trans hb4)).setCell (p := ⟨t, 2, none⟩) (.inl rfl) _, hT4.set 2 _, ownsRow_setCell_below hown4 hrl _, hR4.other (by show w.heap.size + 1 ≠ t;omega) _⟩)
 case rest =>
  obtain ⟨a, c, hu, hTX, hrow, hR⟩ := hcut;obtain ⟨W, rfl⟩ : ∃ W, W = wc := ⟨_, rfl⟩;clear hb y2 y2a r0 r1 hzb hb1;have hzu := hu.size;go_upto_region 7 with fail;have y1 : W.cell? ⟨t, 1, none⟩ = some (.int .i64 0) := hTX.cell 1;have f1 := hTX.free 1;have r0 : W.cell? ⟨w.heap.size + 1, 0, none⟩ = some (S [97]) := hR.cell 0;have r1 : W.cell? ⟨w.heap.size + 1, 1, none⟩ = some (S [98]) := hR.cell 1
  go_cut [] (fun wx => But (fun k => k = t) w wx ∧ Blk wx t 176 #[.int .i64 4096, .int .i64 34, .slice a 1 c, .int .i64 0, .map (some m1), .map (some m2)] ∧ wx.ownsRow w.heap.size 211 2 (.slice a 1 c) 1 abC.toList ∧ Blk wx (w.heap.size + 1) 211 abC)
  case first =>
   go_region_with (go_at_call 151;go_must ((with_reducible refine (CostRow_ab _).mono ?_);rintro e w5 ⟨rfl, hb5⟩;have hT5 := hTX.drew.on hb5;have q1 : w5.cell? ⟨t, 1, none⟩ = some (.int .i64 0) := hT5.cell 1;have g1 := hT5.free 1))
   all_goals (go_wp2;go_meet;exact ⟨(hu.trans (But.of_below (S := fun k => k = t) ((Below.refl _ W).drew.trans hb5))).setCell (p := ⟨t, 1, none⟩) (.inl rfl) _, hT5.set 1 _, ownsRow_setCell_below (own_below hrow ((Below.refl _ W).drew.trans hb5)) hrl _, (hR.on ((Below.refl _ W).drew.trans hb5)).other (by show w.heap.size + 1 ≠ t;omega) _⟩)
  case rest =>
   obtain ⟨hu, hTX, hrow, hR⟩ := hcut;obtain ⟨W, rfl⟩ : ∃ W, W = wc := ⟨_, rfl⟩;clear y1 f1 r0 r1 hzu;have hm1 := (hu.block m1 l1 n1).trans h1;have hm2 := (hu.block m2 l2 n2).trans h2;obtain ⟨w8, hr8, ht8⟩ := run_both W.drew m1 hm1 1;obtain ⟨w9, hr9, ht9⟩ := run_name w8.drew m2 ((But.grown ht8.grown rfl (S := fun k => k = m1)).block m2 (lt_of_block hm2) h12.symm |>.trans hm2) 1;have hb8 : But (fun k => k = m1) W w8 := (But.refl _ W).drew.trans (But.grown ht8.grown rfl);have hb9 : But (fun k => k = m2) w8 w9 := (But.refl _ w8).drew.trans (But.grown ht9.grown rfl);have hT8 := hTX.but hb8 n1.symm;have hT9 := hT8.but hb9 n2.symm;have hR8 := hR.but hb8 (by omega);have y4 : W.cell? ⟨t, 4, none⟩ = some (.map (some m1)) := hTX.cell 4;have y3 : W.cell? ⟨t, 3, none⟩ = some (.int .i64 0) := hTX.cell 3;have y2 : W.cell? ⟨t, 2, none⟩ = some (.slice a 1 c) := hTX.cell 2;have r0 : W.cell? ⟨w.heap.size + 1, 0, none⟩ = some (S [97]) := hR.cell 0;have r1 : W.cell? ⟨w.heap.size + 1, 1, none⟩ = some (S [98]) := hR.cell 1;have z5 : w8.cell? ⟨t, 5, none⟩ = some (.map (some m2)) := hT8.cell 5;have z3 : w8.cell? ⟨t, 3, none⟩ = some (.int .i64 0) := hT8.cell 3;have z2 : w8.cell? ⟨t, 2, none⟩ = some (.slice a 1 c) := hT8.cell 2;have q0 : w8.cell? ⟨w.heap.size + 1, 0, none⟩ = some (S [97]) := hR8.cell 0;go_upto_region 8 with fail
   go_region
   go_upto_region 9 with fail
   go_region
   go_end0
   have o8 := turned_obj ht8;refine ⟨rfl, ⟨a, c, hT9, own_same hrow fun g hg => ?_⟩, ((hu.more fun k h => .inl h).trans (hb8.more fun k h => .inr (.inl h))).trans (hb9.more fun k h => .inr (.inr h)), ?_, turned_obj ht9⟩;have hl := own_lt hrow hg;exact (hb9.block g (Nat.lt_of_lt_of_le hl.2 hb8.size) (by omega)).trans (hb8.block g hl.2 (by omega))
   obtain ⟨es, k, o8⟩ := o8;exact ⟨es, k, (hb9.block m1 (lt_of_block o8) h12).trans o8⟩
open Go Go.RowKit Go.Dr
theorem stat_at : ∀ (i : Nat), i < 61 → ∀ w : World, (Instr.index 212 (.agg statC) (.int .i64 (i : Int))).run Tryz.prog w = .ok (.agg #[S (statL.getD i ([], [])).1, S (statL.getD i ([], [])).2]) w
 | 0, _ => fun w => by kernel_rfl
 | 1, _ => fun w => by kernel_rfl
 | 2, _ => fun w => by kernel_rfl
 | 3, _ => fun w => by kernel_rfl
 | 4, _ => fun w => by kernel_rfl
 | 5, _ => fun w => by kernel_rfl
 | 6, _ => fun w => by kernel_rfl
 | 7, _ => fun w => by kernel_rfl
 | 8, _ => fun w => by kernel_rfl
 | 9, _ => fun w => by kernel_rfl
 | 10, _ => fun w => by kernel_rfl
 | 11, _ => fun w => by kernel_rfl
 | 12, _ => fun w => by kernel_rfl
 | 13, _ => fun w => by kernel_rfl
 | 14, _ => fun w => by kernel_rfl
 | 15, _ => fun w => by kernel_rfl
 | 16, _ => fun w => by kernel_rfl
 | 17, _ => fun w => by kernel_rfl
 | 18, _ => fun w => by kernel_rfl
 | 19, _ => fun w => by kernel_rfl
 | 20, _ => fun w => by kernel_rfl
 | 21, _ => fun w => by kernel_rfl
 | 22, _ => fun w => by kernel_rfl
 | 23, _ => fun w => by kernel_rfl
 | 24, _ => fun w => by kernel_rfl
 | 25, _ => fun w => by kernel_rfl
 | 26, _ => fun w => by kernel_rfl
 | 27, _ => fun w => by kernel_rfl
 | 28, _ => fun w => by kernel_rfl
 | 29, _ => fun w => by kernel_rfl
 | 30, _ => fun w => by kernel_rfl
 | 31, _ => fun w => by kernel_rfl
 | 32, _ => fun w => by kernel_rfl
 | 33, _ => fun w => by kernel_rfl
 | 34, _ => fun w => by kernel_rfl
 | 35, _ => fun w => by kernel_rfl
 | 36, _ => fun w => by kernel_rfl
 | 37, _ => fun w => by kernel_rfl
 | 38, _ => fun w => by kernel_rfl
 | 39, _ => fun w => by kernel_rfl
 | 40, _ => fun w => by kernel_rfl
 | 41, _ => fun w => by kernel_rfl
 | 42, _ => fun w => by kernel_rfl
 | 43, _ => fun w => by kernel_rfl
 | 44, _ => fun w => by kernel_rfl
 | 45, _ => fun w => by kernel_rfl
 | 46, _ => fun w => by kernel_rfl
 | 47, _ => fun w => by kernel_rfl
 | 48, _ => fun w => by kernel_rfl
 | 49, _ => fun w => by kernel_rfl
 | 50, _ => fun w => by kernel_rfl
 | 51, _ => fun w => by kernel_rfl
 | 52, _ => fun w => by kernel_rfl
 | 53, _ => fun w => by kernel_rfl
 | 54, _ => fun w => by kernel_rfl
 | 55, _ => fun w => by kernel_rfl
 | 56, _ => fun w => by kernel_rfl
 | 57, _ => fun w => by kernel_rfl
 | 58, _ => fun w => by kernel_rfl
 | 59, _ => fun w => by kernel_rfl
 | 60, _ => fun w => by kernel_rfl
 | n + 61, h => absurd h (by omega)
theorem stat_ne : ∀ i, i < 61 → (statL.getD i ([], [])).1 ≠ [97] := by decide +kernel
theorem run_look_none {P : Program} {t kt et : TypeId} {m clock : Nat} {w : World} {key z0 : Value} (ht : P.underlying t = some (.map kt et)) (h : w.heap[m]? = some (.map #[] clock)) (hc : (Instr.checkKey true 10000 kt key).run P w = .ok () w) (hf : (Instr.findKey kt key []).run P w = .ok none w) (hz : (zeroValue et).run P w = .ok z0 w) : (Instr.lookup t (.map (some m)) key true).run P w = .ok (.tuple #[z0, .bool false]) w := by
 simp [Instr.lookup, run_underlying ht, MapKept.run_getObj_map h, hc, hf, hz, Result.andThen]
theorem Find_ab {t m1 m2 : Nat} (w : World) (hT : Blk w t 176 #[.int .i64 4096, .int .i64 0, .slice none 0 0, .int .i64 0, .map (some m1), .map (some m2)]) (h1 : w.heap[m1]? = some (.map #[] 0)) (h2 : w.heap[m2]? = some (.map #[] 0)) :
  Calls Tryz.prog 102 #[Ptr t, .agg #[S [97], S [98], .bool false]] w fun e w' => e = .returned (.tuple #[.int .i64 0, .bool false]) ∧ Below w.heap.size w w' := by
 obtain ⟨W, eW⟩ : ∃ W, W = (w.alloc (.cells #[Ptr t] 123)).alloc (.cells #[S [97], S [98], .bool false] 45) := ⟨_, rfl⟩;have hF : Blk W (w.heap.size + 1) 45 #[S [97], S [98], .bool false] := (by rw [eW];exact bnew_at _ _ _ _ (by simp));have hP : Blk W w.heap.size 123 #[Ptr t] := (by rw [eW];exact (Blk.new _ _ _).alloc _);have hb : Below w.heap.size w W := (by rw [eW];exact ((Below.refl _ _).alloc (Nat.le_refl _) _).alloc (by simp) _);go_enter Tryz.func102, Tryz.ntmps102
 go_upto_region 3 with (go_at_call 133;go_must (rw [← eW];clear eW;(with_reducible refine (Fixed_any _).mono ?_);rintro e w2 ⟨rfl, hb2⟩;have hF2 := hF.on hb2;have hP2 := hP.on hb2;have hz2 := hF2.lt;have hb02 := hb.trans (hb2.mono hb.size)))
 go_loopw [6, 15] (fun near x wr => near = .int .i64 0 ∧ ∃ i : Nat, x = .int .i64 i ∧ i ≤ 61 ∧ Blk wr (w.heap.size + 1) 45 #[S [97], S [98], .bool false] ∧ Blk wr w.heap.size 123 #[Ptr t] ∧ Below w.heap.size w wr) (fun _ i _ => 61 - (intOf i).toNat)
 case atStart => exact ⟨rfl, 0, rfl, Nat.zero_le _, hF2, hP2, hb02⟩
 case round =>
  clear hF hP hb hb2 hF2 hP2 hz2 hb02;obtain ⟨rfl, i, rfl, hi, hF, hP, hb⟩ := hrel;have z0 : wr.cell? ⟨w.heap.size + 1, 0, none⟩ = some (S [97]) := hF.cell 0;have z1 : wr.cell? ⟨w.heap.size + 1, 1, none⟩ = some (S [98]) := hF.cell 1;have zp : wr.cell? ⟨w.heap.size, 0, none⟩ = some (Ptr t) := hP.cell 0;by_cases hlt : i < 61
  ·have hix := stat_at i hlt
   have hne := stat_ne i hlt;generalize (statL.getD i ([], [])).1 = L1 at hix hne;generalize (statL.getD i ([], [])).2 = L2 at hix;have hnb : (L1 == [97]) = false := (by simpa using hne);have hsz := hF.lt;go_wp2
   go_roundw
   case rel => exact ⟨rfl, i + 1, by go_num, by omega, hF.alloc _, hP.alloc _, hb.alloc hb.size _⟩
   case measure => simp [intOf];omega
  ·obtain rfl : i = 61 := by omega
   go_upto_region 13 with fail;have hTr := hT.on hb;have y4 : wr.cell? ⟨t, 4, none⟩ = some (.map (some m1)) := hTr.cell 4;have y5 : wr.cell? ⟨t, 5, none⟩ = some (.map (some m2)) := hTr.cell 5;have hm1 : ∀ w', Below wr.heap.size wr w' → (Instr.lookup 172 (.map (some m1)) (.agg #[S [97], S [98]]) true).run Tryz.prog w' = .ok (.tuple #[.int .i64 0, .bool false]) w' := fun w' hw => run_look_none Tryz.underlying172 (obj_below (obj_below h1 hb (lt_of_block h1)) hw (lt_of_block (obj_below h1 hb (lt_of_block h1)))) (by kernel_rfl) (by kernel_rfl) (by kernel_rfl)
   have hm2 : ∀ w', Below wr.heap.size wr w' → (Instr.lookup 173 (.map (some m2)) (S [97]) true).run Tryz.prog w' = .ok (.tuple #[.int .i64 0, .bool false]) w' := fun w' hw => run_look_none Tryz.underlying173 (obj_below (obj_below h2 hb (lt_of_block h2)) hw (lt_of_block (obj_below h2 hb (lt_of_block h2)))) (by kernel_rfl) (by kernel_rfl) (by kernel_rfl)
   have hm1a := hm1 wr (Below.refl _ _);have hm1b := hm1 wr.drew (Below.refl _ _).drew;have hm2a := hm2 wr.drew (Below.refl _ _).drew;have hm2b := hm2 wr.drew.drew (Below.refl _ _).drew.drew
   go_cut [10, 11] (fun s10 s11 wx => s10 = .int .i64 0 ∧ s11 = .bool false ∧ Below wr.heap.size wr wx)
   case first =>
    go_region_with fail
    all_goals (go_wp2;go_meet;exact ⟨rfl, rfl, (Below.refl _ _).drew⟩)
   case rest =>
    obtain ⟨rfl, rfl, hbx⟩ := hcut;obtain ⟨X, rfl⟩ : ∃ X, X = wc := ⟨_, rfl⟩;have y5 : X.cell? ⟨t, 5, none⟩ = some (.map (some m2)) := (hTr.on hbx).cell 5;have z0 : X.cell? ⟨w.heap.size + 1, 0, none⟩ = some (S [97]) := (hF.on hbx).cell 0;have zp : X.cell? ⟨w.heap.size, 0, none⟩ = some (Ptr t) := (hP.on hbx).cell 0;have hm2a := hm2 X hbx;have hm2b := hm2 X.drew (hbx.trans ((Below.refl _ _).drew.mono hbx.size));have hbX := hb.trans (hbx.mono hb.size);clear hm1 hm2 hm1a hm1b hTr hT h1 h2 hF hP hb;go_upto_region 16 with fail
    go_region_with fail
    all_goals
     go_wp2;go_ret2;exact ⟨rfl, hbX.trans ((Below.refl _ _).drew.mono hbX.size)⟩
open Go Go.RowKit Go.Dr
def lensL : List Nat := [13, 23, 28, 28, 28, 28, 28, 28, 28, 24, 30, 28, 28, 30, 28, 28, 28, 28, 28, 28, 28, 28, 30, 28, 28, 28, 28, 28, 28, 28, 28, 28, 6, 10, 10, 12, 13, 6, 8, 11, 10, 10, 8, 11, 8, 6, 6, 6, 5, 5, 5, 6, 6, 6, 6, 6, 6, 6, 7, 8, 15, 6, 12, 10, 13, 6, 7, 7, 7, 7, 7, 7, 7, 7, 7, 7, 7, 7, 7, 7, 7, 7, 7, 7, 7, 7, 7, 7, 8, 7, 8, 13, 19, 13, 14, 6, 15, 5, 6, 5, 6, 5, 6, 6, 6, 5, 7, 7, 6, 6, 6, 5, 6, 7, 6, 5, 5, 6, 7, 7, 7, 7, 7, 15, 11, 14, 13, 28, 20, 22, 20, 20, 22, 22, 22, 23, 22, 23, 23, 23, 23, 23, 24, 23, 24, 24, 22, 23, 24, 23, 23, 23, 23, 21, 22, 23, 22, 23, 23, 24, 22, 21, 20, 22, 22, 23, 23, 21, 23, 22, 22, 24, 21, 22, 23, 23, 21, 21, 22, 21, 23, 22, 23, 23, 20, 22, 22, 22, 23, 22, 22, 23, 26, 26, 20, 19, 22, 23, 22, 25, 26, 26, 26, 27, 27, 26, 24, 25, 19, 21, 26, 27, 27, 26, 27, 24, 21, 21, 26, 26, 28, 27, 27, 27, 20, 24, 20, 21, 22, 21, 21, 23, 22, 22, 25, 25, 24, 24, 26, 23, 26, 27, 26, 26, 27, 27, 27, 27, 27, 28, 27, 27, 27, 27, 27, 26, 30]
def lensC : Array Value := (lensL.map fun (n : Nat) => (Value.int .u8 (n : Int))).toArray
theorem lensC_size : lensC.size = 257 := by kernel_rfl
theorem run_bytes_rd {P : Program} (w : World) (src dst e : TypeId) (l : Bytes) (hs : P.underlying src = some .string) (hd : P.underlying dst = some (.slice e)) (he : P.underlying e = some (.int .u8)) (hl : l.length ≤ maxLen) :
  ∃ cap w1, (convert src dst (S l)).run P w = .ok (.slice (some ⟨w.heap.size, 0, none⟩) l.length cap) w1 ∧ Rd w1.heap.size w1 1 (.slice (some ⟨w.heap.size, 0, none⟩) l.length cap) l.length (l.map B8) ∧ Below w.heap.size w w1 := by
 obtain ⟨cap, w1, hrun, hcap, hrow, hb, hsz⟩ := run_bytes_row (P := P) w src dst e l hs hd he;have h2 := run_bytes_of_string (P := P) w src dst e ⟨l.toArray⟩ hs hd he;rw [show (convert src dst (.string ⟨l.toArray⟩)).run P w = _ from hrun] at h2
 injection h2 with h2 _
 injection h2 with _ _ h4
 have hm : cap ≤ maxLen := (by rw [h4];exact grownCap_le_maxLen _ _ _ _ (by simpa [ByteArray.size] using hl));refine ⟨cap, w1, hrun, ⟨_, _, rfl, hcap, hm, by simp, fun h => (by cases h), fun j u hj => ⟨w.heap.size, 0, rfl, by omega, ?_⟩⟩, hb⟩;rw [List.getElem?_map] at hj;obtain ⟨x, hx, rfl⟩ := Option.map_eq_some_iff.1 hj;obtain ⟨hj2, rfl⟩ := List.getElem?_eq_some_iff.1 hx;rw [Nat.zero_add];exact hrow.cell j hj2
theorem PutInt_one (w : World) : Calls Tryz.prog 131 #[.int .u8 0, .int .i64 7, .int .u32 1] w fun e w' => e = .returned (.tuple #[.slice (some ⟨w.heap.size, 0, none⟩) 1 1, .int .i64 0]) ∧ Blk w' w.heap.size 5 #[.int .u8 1] ∧ Below w.heap.size w w' := by
 go_enter Tryz.func131, Tryz.ntmps131
 go_wp2;go_ret2;exact ⟨rfl, Blk.new _ _ _, (Below.refl _ _).alloc (Nat.le_refl _) _⟩
theorem Number_forty (w : World) : Calls Tryz.prog 100 #[.int .u8 64, .int .i64 6, .int .i64 0] w fun e w' => e = .returned (.slice (some ⟨w.heap.size, 0, none⟩) 1 1) ∧ Blk w' w.heap.size 5 #[.int .u8 64] ∧ Below w.heap.size w w' := by
 have hP : ∀ w, Calls Tryz.prog 131 #[.int .u8 64, .int .i64 6, .int .u32 0] w fun e w' => e = .returned (.tuple #[.slice (some ⟨w.heap.size, 0, none⟩) 1 1, .int .i64 0]) ∧ Blk w' w.heap.size 5 #[.int .u8 64] ∧ Below w.heap.size w w' := fun w => by
  go_enter Tryz.func131, Tryz.ntmps131
  go_wp2;go_ret2;exact ⟨rfl, Blk.new _ _ _, (Below.refl _ _).alloc (Nat.le_refl _) _⟩
 go_enter Tryz.func100, Tryz.ntmps100
 go_wp2_with (go_at_call 131;go_must ((with_reducible refine (hP _).mono ?_);rintro e w2 ⟨rfl, hB2, hb2⟩))
 go_ret;exact ⟨rfl, hB2, hb2⟩
theorem Lengths_any (w : World) :
  Calls Tryz.prog 179 #[] w fun e w' => e = .returned (.agg lensC) ∧ Below w.heap.size w w' := by
 have h0 : (w.alloc (.cells Tryz.zeroCells263 263)).heap[w.heap.size]? = some (.cells Tryz.zeroCells263 263 (0, 0)) := heap_alloc_new w _;obtain ⟨W, eW⟩ : ∃ W, W = (w.alloc (.cells Tryz.zeroCells263 263)).setRow w.heap.size lensC := ⟨_, rfl⟩;have h1 : W.heap[w.heap.size]? = some (.cells lensC 263 (0, 0)) := (by rw [eW];exact setRow_heap _ _ _ _ _ _ h0);have hb : Below w.heap.size w W := (by rw [eW];exact row_below _ _ _ _);have hl := run_loadVar_row (P := Tryz.prog) W w.heap.size 263 263 lensC (0, 0) _ h1 Tryz.underlying263 (by rfl) (by kernel_rfl);go_enter Tryz.func179, Tryz.ntmps179
 go_upto_region 1 with fail;refine wp_region_lit ?_;refine wpList_builds (fun a => (a.tmps[0]?, a.eval (.tmp 0), a.eval (.tmp 1), a.defers)) (some (.pointer (some ⟨w.heap.size, 0, none⟩)), .pointer (some ⟨w.heap.size, 0, none⟩), .agg lensC, []) 1 _ _ (by kernel_rfl) ?_;intro a' ha;simp only [Prod.mk.injEq] at ha;obtain ⟨k1, k2, k3, k4⟩ := ha;refine wpList_store_row rfl _ _ _ rfl w.heap.size lensC k2 k3 263 _ h0 (by kernel_rfl) (by kernel_rfl) (by kernel_rfl) ?_;refine wpList_nil ?_;rw [← eW]
 show Exit.then _ _ Exit.normal a' W
 clear eW h0;go_wp2;refine bodyPost_ret (v := .agg lensC) ?_ k4 ⟨rfl, hb⟩;exact results_cell1 Tryz.results179 (by rw [Array.getD_eq_getD_getElem?, k1];rfl) hl
theorem HSize_97 (w : World) : Calls Tryz.prog 165 #[S [97]] w fun e w' => e = .returned (.int .i64 1) ∧ Below w.heap.size w w' := by
 have hz := lensC_size;have hsc := fun w => run_storeCells_new (P := Tryz.prog) w 263 Tryz.zeroCells263 lensC (by kernel_rfl) (by kernel_rfl) (by kernel_rfl)
 go_enter Tryz.func165, Tryz.ntmps165
 go_upto_region 2 with (go_at_call 179;go_must ((with_reducible refine (Lengths_any _).mono ?_);rintro e w1 ⟨rfl, hb1⟩))
 have hL : Blk (w1.alloc (.cells lensC 263)) w1.heap.size 263 lensC := Blk.new _ _ _;have x0 : (w1.alloc (.cells lensC 263)).cell? ⟨w1.heap.size, 97, none⟩ = some (.int .u8 5) := (hL.cell 97).trans (by kernel_rfl);have hb2 := hb1.alloc hb1.size (.cells lensC 263);go_upto_region 4 with fail;refine wp_loop_rounds 2 ?_;rw [rounds_succ];go_wp2;rw [rounds_succ];go_wp2;go_ret;exact ⟨rfl, hb2⟩
theorem PutText_97 (w : World) : Calls Tryz.prog 150 #[S [97]] w fun e w' => (∃ v, e = .returned v ∧ w'.ownsRow w.heap.size 5 1 v 2 [.int .u8 1, .int .u8 97]) ∧ Below w.heap.size w w' := by
 obtain ⟨cap, w0, hrun, hrd, hb0⟩ := run_bytes_rd (P := Tryz.prog) w 9 39 5 [97] Tryz.underlying9 Tryz.underlying39 Tryz.underlying5 (by decide);go_enter Tryz.func150, Tryz.ntmps150
 go_upto_region 2 with fail;clear hrun
 go_wp2_with first
  | (go_at_call 165;go_must ((with_reducible refine (HSize_97 _).mono ?_);rintro e w1 ⟨rfl, hb1⟩))
  | (go_at_call 131;go_must ((with_reducible refine (PutInt_one _).mono ?_);rintro e w2 ⟨rfl, hB2, hb2⟩;have hb02 := hb0.trans ((hb1.trans (hb2.mono hb1.size)).mono hb0.size);have hr2 : w2.ownsRow w.heap.size 5 1 (.slice (some ⟨w1.heap.size, 0, none⟩) 1 1) 1 [.int .u8 1] := own_of_blk hB2 (Nat.le_trans hb0.size hb1.size) rfl rfl (by decide);have hrd2 := (hrd.below (hb1.trans (hb2.mono hb1.size))).mono (hb1.trans (hb2.mono hb1.size)).size))
  | (at_builtin;go_must (refine wpList_appRd rfl _ _ 39 rfl w.heap.size 5 (.int .u8 0) 1 1 Tryz.underlying39 (by kernel_rfl) rfl (by decide) _ _ _ rfl hr2 _ _ _ _ rfl hrd2 (b8_one2 _) (by decide) (by decide) hb02.size ?_);intro a3 c3 w3 hr3 hb3)
 go_ret;exact ⟨⟨_, rfl, hr3⟩, hb02.trans hb3⟩
theorem HSize_98 (w : World) : Calls Tryz.prog 165 #[S [98]] w fun e w' => e = .returned (.int .i64 1) ∧ Below w.heap.size w w' := by
 have hz := lensC_size;have hsc := fun w => run_storeCells_new (P := Tryz.prog) w 263 Tryz.zeroCells263 lensC (by kernel_rfl) (by kernel_rfl) (by kernel_rfl)
 go_enter Tryz.func165, Tryz.ntmps165
 go_upto_region 2 with (go_at_call 179;go_must ((with_reducible refine (Lengths_any _).mono ?_);rintro e w1 ⟨rfl, hb1⟩))
 have hL : Blk (w1.alloc (.cells lensC 263)) w1.heap.size 263 lensC := Blk.new _ _ _;have x0 : (w1.alloc (.cells lensC 263)).cell? ⟨w1.heap.size, 98, none⟩ = some (.int .u8 6) := (hL.cell 98).trans (by kernel_rfl);have hb2 := hb1.alloc hb1.size (.cells lensC 263);go_upto_region 4 with fail;refine wp_loop_rounds 2 ?_;rw [rounds_succ];go_wp2;rw [rounds_succ];go_wp2;go_ret;exact ⟨rfl, hb2⟩
theorem PutText_98 (w : World) : Calls Tryz.prog 150 #[S [98]] w fun e w' => (∃ v, e = .returned v ∧ w'.ownsRow w.heap.size 5 1 v 2 [.int .u8 1, .int .u8 98]) ∧ Below w.heap.size w w' := by
 obtain ⟨cap, w0, hrun, hrd, hb0⟩ := run_bytes_rd (P := Tryz.prog) w 9 39 5 [98] Tryz.underlying9 Tryz.underlying39 Tryz.underlying5 (by decide);go_enter Tryz.func150, Tryz.ntmps150
 go_upto_region 2 with fail;clear hrun
 go_wp2_with first
  | (go_at_call 165;go_must ((with_reducible refine (HSize_98 _).mono ?_);rintro e w1 ⟨rfl, hb1⟩))
  | (go_at_call 131;go_must ((with_reducible refine (PutInt_one _).mono ?_);rintro e w2 ⟨rfl, hB2, hb2⟩;have hb02 := hb0.trans ((hb1.trans (hb2.mono hb1.size)).mono hb0.size);have hr2 : w2.ownsRow w.heap.size 5 1 (.slice (some ⟨w1.heap.size, 0, none⟩) 1 1) 1 [.int .u8 1] := own_of_blk hB2 (Nat.le_trans hb0.size hb1.size) rfl rfl (by decide);have hrd2 := (hrd.below (hb1.trans (hb2.mono hb1.size))).mono (hb1.trans (hb2.mono hb1.size)).size))
  | (at_builtin;go_must (refine wpList_appRd rfl _ _ 39 rfl w.heap.size 5 (.int .u8 0) 1 1 Tryz.underlying39 (by kernel_rfl) rfl (by decide) _ _ _ rfl hr2 _ _ _ _ rfl hrd2 (b8_one2 _) (by decide) (by decide) hb02.size ?_);intro a3 c3 w3 hr3 hb3)
 go_ret;exact ⟨⟨_, rfl, hr3⟩, hb02.trans hb3⟩
end Go.Proofs.YtcodgfmombehoaaGreatDoor
