/- Parts of the proof of pt_root: the texts Tad1 HpkD. -/
import Derived.Test.YtkeeofhjdffhbaaGreatDoorT32
set_option linter.unusedSimpArgs false
set_option linter.unusedVariables false
set_option linter.unnecessarySimpa false
namespace Go.Proofs.YtkeeofhjdffhbaaGreatDoor
open Go Go.RowKit Go.Dr Go.ChangeMaps
abbrev abC : Array Value := #[S [97], S [98]]
theorem mblk {w : World} {m b : Nat} {es : Array MapEntry} {n : Nat} {t : TypeId} {xs : Array Value} (h : w.heap[m]? = some (.map es n)) (hb : Blk w b t xs) : m ≠ b := fun e => by
 have := (e ▸ h).symm.trans (show w.heap[b]? = _ from hb)
 simp at this
/-- the first entry of a map -/
theorem run_map_first {P : Program} {t kt et : TypeId} {m clock : Nat} {w : World} {key v : Value} (ht : P.underlying t = some (.map kt et)) (h : w.heap[m]? = some (.map #[] clock)) (hc : (Instr.checkKey false 10000 kt key).run P w = .ok () w) (hf : (Instr.findKey kt key []).run P w = .ok none w) : ∃ w', (Instr.mapUpdate t (.map (some m)) key v).run P w = .ok () w' ∧ w.mapTurned w' m := by
 refine ⟨setBlock w m (.map #[{ key := key, val := v, born := clock }] (clock + 1)), ?_, #[], clock, _, _, h, rfl⟩
 simp [Instr.mapUpdate, run_underlying ht, MapKept.run_getObj_map h, hc, hf, MapKept.run_setObj_map _ h, Result.andThen, setBlock]
theorem run_both (w : World) (m : Nat) (h : w.heap[m]? = some (.map #[] 0)) (x : Int) : ∃ w', (Instr.mapUpdate 206 (.map (some m)) (.agg #[S [97], S [98]]) (.int .i64 x)).run Tryz.prog w = .ok () w' ∧ w.mapTurned w' m :=
 run_map_first Tryz.underlying206 h (by kernel_rfl) (by kernel_rfl)
theorem run_name (w : World) (m : Nat) (h : w.heap[m]? = some (.map #[] 0)) (x : Int) : ∃ w', (Instr.mapUpdate 207 (.map (some m)) (S [97]) (.int .i64 x)).run Tryz.prog w = .ok () w' ∧ w.mapTurned w' m :=
 run_map_first Tryz.underlying207 h (by kernel_rfl) (by kernel_rfl)
set_option maxRecDepth 100000 in
set_option maxHeartbeats 4000000 in
theorem CostRow_ab (w : World) : Calls Tryz.prog 203 #[.agg abC] w fun e w' => e = .returned (.int .i64 34) ∧ Below w.heap.size w w' := by
 go_enter Tryz.func203, Tryz.ntmps203
 go_wp2
 go_ret
 exact ⟨rfl, (Below.refl _ _).alloc (Nat.le_refl _) _⟩
set_option maxRecDepth 100000 in
set_option maxHeartbeats 4000000 in
theorem Add_ab {t m1 m2 : Nat} (w : World) (hT : Blk w t 210 #[.int .i64 4096, .int .i64 0, .slice none 0 0, .int .i64 0, .map (some m1), .map (some m2)]) (h1 : w.heap[m1]? = some (.map #[] 0)) (h2 : w.heap[m2]? = some (.map #[] 0)) (h12 : m1 ≠ m2) :
  Calls Tryz.prog 169 #[Ptr t, .agg #[S [97], S [98], .bool false]] w fun e w' => e = .returned (.tuple #[]) ∧ (∃ a c, Blk w' t 210 #[.int .i64 4096, .int .i64 34, .slice a 1 c, .int .i64 0, .map (some m1), .map (some m2)] ∧ w'.ownsRow w.heap.size 274 2 (.slice a 1 c) 1 abC.toList) ∧ But (fun k => k = t ∨ k = m1 ∨ k = m2) w w' := by
 have hrl := hT.lt
 have n1 : m1 ≠ t := mblk h1 hT
 have n2 : m2 ≠ t := mblk h2 hT
 have l1 := lt_of_block h1
 have l2 := lt_of_block h2
 go_enter Tryz.func169, Tryz.ntmps169
 go_upto_region 3 with fail
 refine wp_cut (R := fun W => Blk W (w.heap.size + 1) 274 abC ∧ Below w.heap.size w W) ⟨bnew_at _ _ _ _ (by simp), ((Below.refl _ _).alloc (Nat.le_refl _) _).alloc (by simp) _⟩ ?_
 rintro X ⟨hR, hb⟩
 have hTX := hT.on hb
 have y0 : X.cell? ⟨t, 0, none⟩ = some (.int .i64 4096) := hTX.cell 0
 have r0 : X.cell? ⟨w.heap.size + 1, 0, none⟩ = some (S [97]) := hR.cell 0
 have r1 : X.cell? ⟨w.heap.size + 1, 1, none⟩ = some (S [98]) := hR.cell 1
 have hR2 : ∀ W, Below X.heap.size X W → W.cell? ⟨t, 0, none⟩ = some (.int .i64 4096) ∧ W.cell? ⟨w.heap.size + 1, 0, none⟩ = some (S [97]) ∧ W.cell? ⟨w.heap.size + 1, 1, none⟩ = some (S [98]) := fun W hW => ⟨(hTX.on hW).cell 0, (hR.on hW).cell 0, (hR.on hW).cell 1⟩
 go_region_held3 (fun W => W.cell? ⟨t, 0, none⟩ = some (.int .i64 4096) ∧ W.cell? ⟨w.heap.size + 1, 0, none⟩ = some (S [97]) ∧ W.cell? ⟨w.heap.size + 1, 1, none⟩ = some (S [98]))
  (first | go_keep)
  ((go_at_call 203;go_must ((with_reducible refine (CostRow_ab _).mono ?_);rintro e w1 ⟨rfl, hb1⟩;have hb1 := (Below.refl X.heap.size X).drew.trans hb1;obtain ⟨q0, q1, q2⟩ := hR2 _ hb1)))
 go_upto_region 5 with fail
 refine wp_cut (R := fun W => Below X.heap.size X W) hb1 ?_
 clear hb1 q0 q1 q2 y0 r0 r1
 rintro X2 hb2
 replace hTX := hTX.on hb2
 replace hR := hR.on hb2
 replace hb := hb.trans (hb2.mono hb.size)
 clear hb2 hR2
 obtain ⟨y0, r0, r1⟩ : X2.cell? ⟨t, 0, none⟩ = some (.int .i64 4096) ∧ X2.cell? ⟨w.heap.size + 1, 0, none⟩ = some (S [97]) ∧ X2.cell? ⟨w.heap.size + 1, 1, none⟩ = some (S [98]) := ⟨hTX.cell 0, hR.cell 0, hR.cell 1⟩
 go_region_held3 (fun W => W.cell? ⟨t, 0, none⟩ = some (.int .i64 4096) ∧ W.cell? ⟨w.heap.size + 1, 0, none⟩ = some (S [97]) ∧ W.cell? ⟨w.heap.size + 1, 1, none⟩ = some (S [98]))
  (first | go_keep)
  (first
   | (go_at_call 204;go_must ((with_reducible refine (Shrink_empty (IntKind.i64.wrap 4062) (by decide) _ hT1).mono ?_);rintro e w2 ⟨rfl, e2⟩;subst e2))
   | (go_at_call 203;go_must ((with_reducible refine (CostRow_ab _).mono ?_);rintro e w1 ⟨rfl, hb1⟩;have hb1 := (Below.refl X2.heap.size X2).drew.trans hb1;have hT1 := hTX.on hb1;have q0 : w1.cell? ⟨t, 0, none⟩ = some (.int .i64 4096) := hT1.cell 0;have q1 : w1.cell? ⟨w.heap.size + 1, 0, none⟩ = some (S [97]) := (hR.on hb1).cell 0;have q2 : w1.cell? ⟨w.heap.size + 1, 1, none⟩ = some (S [98]) := (hR.on hb1).cell 1)))
 go_upto_region 6 with fail
 refine wp_cut (R := fun W => Below w.heap.size w W ∧ Blk W t 210 #[.int .i64 4096, .int .i64 0, .slice none 0 0, .int .i64 0, .map (some m1), .map (some m2)] ∧ Blk W (w.heap.size + 1) 274 abC) ⟨hb.trans (hb1.mono hb.size), hT1, hR.on hb1⟩ ?_
 clear hb1 q0 q1 q2 hTX hb y0 r0 r1 hT1 hR
 rintro X3 ⟨hb, hTX, hR⟩
 obtain ⟨y2, r0, r1⟩ : X3.cell? ⟨t, 2, none⟩ = some (.slice none 0 0) ∧ X3.cell? ⟨w.heap.size + 1, 0, none⟩ = some (S [97]) ∧ X3.cell? ⟨w.heap.size + 1, 1, none⟩ = some (S [98]) := ⟨hTX.cell 2, hR.cell 0, hR.cell 1⟩
 have y2a : ∀ ob, (X3.alloc ob).cell? ⟨t, 2, none⟩ = some (.slice none 0 0) := fun ob => (hTX.alloc ob).cell 2
 have hzb := hb.size
 go_cut [] (fun wx => ∃ a c, But (fun k => k = t) w wx ∧ Blk wx t 210 #[.int .i64 4096, .int .i64 0, .slice a 1 c, .int .i64 0, .map (some m1), .map (some m2)] ∧ wx.ownsRow w.heap.size 274 2 (.slice a 1 c) 1 abC.toList ∧ Blk wx (w.heap.size + 1) 274 abC)
 case first =>
  go_region_law (refine step_of ?_ (by rfl);refine wp_appG _ _ 208 rfl w.heap.size 274 (.agg #[.string ByteArray.empty, .string ByteArray.empty]) 2 32 Tryz.underlying208 (by kernel_rfl) rfl (by decide) _ _ _ rfl (World.ownsRow_nil _ _ _ _) _ _ _ abC.toList rfl (Rd.drew (Rd.lit X3 274 abC 2 1 rfl (by decide))) (by intro u hu;simp at hu;rcases hu with rfl | rfl <;> rfl) (by unfold maxLen;omega) (by omega) (by simp;omega) ?_;intro a4 c4 w4 hown4 hb4 hg4;have hT4 := (hTX.alloc (.cells abC 274)).drew.below hb4 hrl;have z2 : w4.cell? ⟨t, 2, none⟩ = some (.slice none 0 0) := hT4.cell 2;have zf := hT4.free 2;have hR4 := (hR.alloc (.cells abC 274)).drew.grow hg4 (by intro e;have e2 : some (w.heap.size + 1) = (none : Option Nat) := e;simp at e2))
  all_goals (go_wp2;go_meet;exact ⟨a4, c4, (But.of_below (S := fun k => k = t) (((hb.alloc hzb _).drew).trans hb4)).setCell (p := ⟨t, 2, none⟩) (.inl rfl) _, hT4.set 2 _, ownsRow_setCell_below hown4 hrl _, hR4.other (by show w.heap.size + 1 ≠ t;omega) _⟩)
 case rest =>
  obtain ⟨a, c, hu, hTX, hrow, hR⟩ := hcut
  obtain ⟨W, rfl⟩ : ∃ W, W = wc := ⟨_, rfl⟩
  clear hb y2 y2a r0 r1 hzb hb1
  have hzu := hu.size
  go_upto_region 7 with fail
  have y1 : W.cell? ⟨t, 1, none⟩ = some (.int .i64 0) := hTX.cell 1
  have f1 := hTX.free 1
  have r0 : W.cell? ⟨w.heap.size + 1, 0, none⟩ = some (S [97]) := hR.cell 0
  have r1 : W.cell? ⟨w.heap.size + 1, 1, none⟩ = some (S [98]) := hR.cell 1
  go_cut [] (fun wx => But (fun k => k = t) w wx ∧ Blk wx t 210 #[.int .i64 4096, .int .i64 34, .slice a 1 c, .int .i64 0, .map (some m1), .map (some m2)] ∧ wx.ownsRow w.heap.size 274 2 (.slice a 1 c) 1 abC.toList ∧ Blk wx (w.heap.size + 1) 274 abC)
  case first =>
   go_region_with (go_at_call 203;go_must ((with_reducible refine (CostRow_ab _).mono ?_);rintro e w5 ⟨rfl, hb5⟩;have hT5 := hTX.drew.on hb5;have q1 : w5.cell? ⟨t, 1, none⟩ = some (.int .i64 0) := hT5.cell 1;have g1 := hT5.free 1))
   all_goals (go_wp2;go_meet;exact ⟨(hu.trans (But.of_below (S := fun k => k = t) ((Below.refl _ W).drew.trans hb5))).setCell (p := ⟨t, 1, none⟩) (.inl rfl) _, hT5.set 1 _, ownsRow_setCell_below (own_below hrow ((Below.refl _ W).drew.trans hb5)) hrl _, (hR.on ((Below.refl _ W).drew.trans hb5)).other (by show w.heap.size + 1 ≠ t;omega) _⟩)
  case rest =>
   obtain ⟨hu, hTX, hrow, hR⟩ := hcut
   obtain ⟨W, rfl⟩ : ∃ W, W = wc := ⟨_, rfl⟩
   clear y1 f1 r0 r1 hzu
   have hm1 := (hu.block m1 l1 n1).trans h1
   have hm2 := (hu.block m2 l2 n2).trans h2
   obtain ⟨w8, hr8, ht8⟩ := run_both W.drew m1 hm1 1
   obtain ⟨w9, hr9, ht9⟩ := run_name w8.drew m2 ((But.grown ht8.grown rfl (S := fun k => k = m1)).block m2 (lt_of_block hm2) h12.symm |>.trans hm2) 1
   have hb8 : But (fun k => k = m1) W w8 := (But.refl _ W).drew.trans (But.grown ht8.grown rfl)
   have hb9 : But (fun k => k = m2) w8 w9 := (But.refl _ w8).drew.trans (But.grown ht9.grown rfl)
   have hT8 := hTX.but hb8 n1.symm
   have hT9 := hT8.but hb9 n2.symm
   have hR8 := hR.but hb8 (by omega)
   have y4 : W.cell? ⟨t, 4, none⟩ = some (.map (some m1)) := hTX.cell 4
   have y3 : W.cell? ⟨t, 3, none⟩ = some (.int .i64 0) := hTX.cell 3
   have y2 : W.cell? ⟨t, 2, none⟩ = some (.slice a 1 c) := hTX.cell 2
   have r0 : W.cell? ⟨w.heap.size + 1, 0, none⟩ = some (S [97]) := hR.cell 0
   have r1 : W.cell? ⟨w.heap.size + 1, 1, none⟩ = some (S [98]) := hR.cell 1
   have z5 : w8.cell? ⟨t, 5, none⟩ = some (.map (some m2)) := hT8.cell 5
   have z3 : w8.cell? ⟨t, 3, none⟩ = some (.int .i64 0) := hT8.cell 3
   have z2 : w8.cell? ⟨t, 2, none⟩ = some (.slice a 1 c) := hT8.cell 2
   have q0 : w8.cell? ⟨w.heap.size + 1, 0, none⟩ = some (S [97]) := hR8.cell 0
   go_upto_region 8 with fail
   go_region
   go_upto_region 9 with fail
   go_region
   go_end0
   refine ⟨rfl, ⟨a, c, hT9, own_same hrow fun g hg => ?_⟩, ((hu.more fun k h => .inl h).trans (hb8.more fun k h => .inr (.inl h))).trans (hb9.more fun k h => .inr (.inr h))⟩
   have hl := own_lt hrow hg
   exact (hb9.block g (Nat.lt_of_lt_of_le hl.2 hb8.size) (by omega)).trans (hb8.block g hl.2 (by omega))
end Go.Proofs.YtkeeofhjdffhbaaGreatDoor
namespace Go.Proofs.YtkeeofhjdffhbaaGreatDoor
open Go Go.RowKit Go.Dr
set_option maxRecDepth 100000 in
set_option maxHeartbeats 4000000 in
theorem Literal_new {r d B : Nat} {v fv cv hv : Value} (c : UInt8) (nm s rest : Bytes) (hbt : Go.bits .and .i64 (c.toNat : Int) ((2 ^ 6 - 1 : Nat) : Int) = ((0 : Nat) : Int)) (hnm : nm.length < 127) (hs : s.length < 127) (w : World)
  (hR : Blk w r 219 #[Ptr d, v, fv, cv, hv]) (h : By B w v (c :: UInt8.ofNat nm.length :: (nm ++ (UInt8.ofNat s.length :: (s ++ rest))))) (hBr : B ≤ r) :
  Calls Tryz.prog 168 #[Ptr r, .int .i64 6, .bool false] w fun e w' => e = .returned (.agg #[S nm, S s, .bool false]) ∧ (∃ v', Blk w' r 219 #[Ptr d, v', fv, cv, hv] ∧ By B w' v' rest) ∧ But (fun k => k = r) w w' := by
 have hb0 := (Below.refl w.heap.size w).alloc (Nat.le_refl _) (.cells #[S [], S [], .bool false] 41)
 have hO := Blk.new w 41 #[S [], S [], .bool false]
 have hrl := hR.lt
 have hN := Number_byte 6 0 c _ (.inr (.inr (.inl rfl))) hbt (by decide) _ (hR.on hb0) (h.below (hb0.mono (show B ≤ w.heap.size by omega))) hBr
 clear h
 go_enter Tryz.func168, Tryz.ntmps168
 go_wp2_with fail
 refine hN.mono ?_
 rintro e w1 ⟨rfl, ⟨v1, hR1, hB1⟩, hb1⟩
 have hO1 := hO.but hb1 (by show w.heap.size ≠ r;omega)
 have hz1 := hb1.size
 have hz0 := hb0.size
 have hsz : w.heap.size + 1 ≤ w1.heap.size := by have := hz1;simp at this;omega
 have nO : w.heap.size ≠ w1.heap.size := by omega
 have nO' : w1.heap.size ≠ w.heap.size := by omega
 have nR : w.heap.size ≠ r := by omega
 clear hN
 go_wp2_with fail
 have hrl1 := hR1.lt
 have hb2 := (Below.refl w1.heap.size w1).alloc (Nat.le_refl _) (.cells #[S [], S [], .bool false] 41)
 have hF2 := Blk.new w1 41 #[S [], S [], .bool false]
 have hz2 := hb2.size
 refine (Text_raw nm (UInt8.ofNat s.length :: (s ++ rest)) hnm _ (hR1.on hb2) (hB1.below (hb2.mono (by omega))) hBr).mono ?_
 rintro e w3 ⟨rfl, ⟨v3, hR3, hB3⟩, hb3⟩
 have nF : w1.heap.size ≠ r := by omega
 have hF3 := hF2.but hb3 nF
 have hO3 := (hO1.on hb2).but hb3 nR
 have hz3 := hb3.size
 have q0 : w3.cell? ⟨w1.heap.size, 0, none⟩ = some (S []) := hF3.cell 0
 have p0 := hF3.free 0
 have hR4 := hR3.other (p := ⟨w1.heap.size, 0, none⟩) (fun e => nF e.symm) (S nm)
 have hB4 : By B (w3.setCell ⟨w1.heap.size, 0, none⟩ (S nm)) v3 (UInt8.ofNat s.length :: (s ++ rest)) := hB3.below ((Below.refl B w3).setCell (p := ⟨w1.heap.size, 0, none⟩) (by show B ≤ w1.heap.size;omega) _)
 have hT := Text_raw s rest hs _ hR4 hB4 hBr
 go_wp2_with fail
 refine hT.mono ?_
 rintro e w5 ⟨rfl, ⟨v5, hR5, hB5⟩, hb5⟩
 have hF5 : Blk w5 w1.heap.size 41 #[S nm, S [], .bool false] := (hF3.set 0 (S nm)).but hb5 nF
 have hO5 := (hO3.other (p := ⟨w1.heap.size, 0, none⟩) (by show w.heap.size ≠ w1.heap.size;omega) (S nm)).but hb5 (by show w.heap.size ≠ r;omega)
 have u0 : w5.cell? ⟨w1.heap.size, 0, none⟩ = some (S nm) := hF5.cell 0
 have u1 : w5.cell? ⟨w1.heap.size, 1, none⟩ = some (S []) := hF5.cell 1
 have u2 : w5.cell? ⟨w1.heap.size, 2, none⟩ = some (.bool false) := hF5.cell 2
 have x1 := hF5.free 1
 have x2 := hF5.free 2
 have o0 : w5.cell? ⟨w.heap.size, 0, none⟩ = some (S []) := hO5.cell 0
 have o1 : w5.cell? ⟨w.heap.size, 1, none⟩ = some (S []) := hO5.cell 1
 have o2 : w5.cell? ⟨w.heap.size, 2, none⟩ = some (.bool false) := hO5.cell 2
 have y0 := hO5.free 0
 have y1 := hO5.free 1
 have y2 := hO5.free 2
 clear hT
 go_wp2
 have hOf := ((((hO5.other (p := ⟨w1.heap.size, 1, none⟩) nO (S s)).other (p := ⟨w1.heap.size, 2, none⟩) nO (.bool false)).set 0 (S nm)).set 1 (S s)).set 2 (.bool false)
 have hRf := ((((hR5.other (p := ⟨w1.heap.size, 1, none⟩) (fun e => nF e.symm) (S s)).other (p := ⟨w1.heap.size, 2, none⟩) (fun e => nF e.symm) (.bool false)).other (p := ⟨w.heap.size, 0, none⟩) (fun e => nR e.symm) (S nm)).other (p := ⟨w.heap.size, 1, none⟩) (fun e => nR e.symm) (S s)).other (p := ⟨w.heap.size, 2, none⟩) (fun e => nR e.symm) (.bool false)
 have hz5 := hb5.size
 have hB : B ≤ w.heap.size := by omega
 have hB1' : B ≤ w1.heap.size := by omega
 have hBl := (((((Below.refl B w5).setCell (p := ⟨w1.heap.size, 1, none⟩) hB1' (S s)).setCell (p := ⟨w1.heap.size, 2, none⟩) hB1' (.bool false)).setCell (p := ⟨w.heap.size, 0, none⟩) hB (S nm)).setCell (p := ⟨w.heap.size, 1, none⟩) hB (S s)).setCell (p := ⟨w.heap.size, 2, none⟩) hB (.bool false)
 refine bodyPost_ret (results_cell1 Tryz.results168 rfl (run_loadVar_row _ w.heap.size 41 41 _ (0, 0) _ hOf Tryz.underlying41 (by rfl) (by kernel_rfl))) rfl ⟨rfl, ⟨v5, hRf, hB5.below hBl⟩, ?_⟩
 have e0 : But (fun k => k = r) w w1 := (But.of_below hb0).trans hb1
 have e3 : But (fun k => k = r) w w3 := (e0.trans (But.of_below hb2)).trans hb3
 have l1 : w.heap.size ≤ w1.heap.size := by omega
 have e5 := (e3.setCell (p := ⟨w1.heap.size, 0, none⟩) (.inr l1) (S nm)).trans hb5
 exact ((((e5.setCell (p := ⟨w1.heap.size, 1, none⟩) (.inr l1) (S s)).setCell (p := ⟨w1.heap.size, 2, none⟩) (.inr l1) (.bool false)).setCell (p := ⟨w.heap.size, 0, none⟩) (.inr (Nat.le_refl _)) (S nm)).setCell (p := ⟨w.heap.size, 1, none⟩) (.inr (Nat.le_refl _)) (S s)).setCell (p := ⟨w.heap.size, 2, none⟩) (.inr (Nat.le_refl _)) (.bool false)
end Go.Proofs.YtkeeofhjdffhbaaGreatDoor
