/- Parts of the proof of wr_root: the texts Hpk6 Hpk7 Hpk8 Hpk9 Hdr2. -/
import Derived.Test.YtkeeofhjdffhbaaGreatDoorW11
set_option linter.unusedSimpArgs false
set_option linter.unusedVariables false
set_option linter.unnecessarySimpa false
namespace Go.Proofs.YtkeeofhjdffhbaaGreatDoor
open Go.RowKit Go.Dr
set_option maxRecDepth 100000 in
set_option maxHeartbeats 4000000 in
/-- a field is put behind the others -/
theorem Put_any {r : Nat} {v dv hv fv : Value} {cost : Int} (l : List F) (f : F) (w : World) (base : Nat) (hR : Blk w r 219 #[dv, v, fv, .int .i64 cost, hv]) (hbr : r < base) (hbw : base ≤ w.heap.size) (ho : w.ownsRow base 41 3 fv l.length (fcells l)) (hfn : f.n.length ≤ 1048576) (hfv : f.v.length ≤ 1048576) (hc0 : 0 ≤ cost) (hc1 : cost ≤ 1099511627776) (hll : l.length ≤ 100000) :
  Calls Tryz.prog 165 #[Ptr r, .agg #[S f.n, S f.v, .bool f.m]] w fun e w' => e = .returned (.tuple #[]) ∧ ∃ a c, Blk w' r 219 #[dv, v, .slice a (l.length + 1) c, .int .i64 (cost + ((f.n.length : Int) + (f.v.length : Int) + 32)), hv] ∧ w'.ownsRow base 41 3 (.slice a (l.length + 1) c) (l.length + 1) (fcells (l ++ [f])) ∧ But (fun k => k = r ∨ base ≤ k) w w' := by
 obtain ⟨fa, fc, rfl⟩ := own_form ho
 obtain ⟨W, eW⟩ : ∃ W, W = w.alloc (.cells #[S f.n, S f.v, .bool f.m] 41) := ⟨_, rfl⟩
 have hb : Below w.heap.size w W := by rw [eW];exact (Below.refl _ _).alloc (Nat.le_refl _) _
 have hF : Blk W w.heap.size 41 #[S f.n, S f.v, .bool f.m] := by rw [eW];exact Blk.new _ _ _
 have hRW := hR.on hb
 have y3 : W.cell? ⟨r, 3, none⟩ = some (.int .i64 cost) := hRW.cell 3
 have f3 := hRW.free 3
 have g0 : W.cell? ⟨w.heap.size, 0, none⟩ = some (S f.n) := hF.cell 0
 have g1 : W.cell? ⟨w.heap.size, 1, none⟩ = some (S f.v) := hF.cell 1
 go_enter Tryz.func165, Tryz.ntmps165
 go_upto_region 1 with fail
 rw [← eW]
 clear eW
 go_region
 obtain ⟨W2, eW2⟩ : ∃ W2, W2 = (W.setCell ⟨r, 3, none⟩ (.int .i64 (cost + ((f.n.length : Int) + (f.v.length : Int) + 32)))).drew := ⟨_, rfl⟩
 have hrl := hR.lt
 have hWl := hF.lt
 have hWz := hb.size
 have hR2 : Blk W2 r 219 #[dv, v, .slice fa l.length fc, .int .i64 (cost + ((f.n.length : Int) + (f.v.length : Int) + 32)), hv] := by rw [eW2];exact (hRW.set 3 _).drew
 have hF2 : Blk W2 w.heap.size 41 #[S f.n, S f.v, .bool f.m] := by rw [eW2];exact (hF.other (p := ⟨r, 3, none⟩) (by show w.heap.size ≠ r;omega) _).drew
 have ho2 : W2.ownsRow base 41 3 (.slice fa l.length fc) l.length (fcells l) := by rw [eW2];exact own_dr (ownsRow_setCell_below (own_below ho hb) hbr _)
 have hu2 : But (fun k => k = r ∨ base ≤ k) w W2 := by rw [eW2];exact ((But.of_below (S := fun k => k = r ∨ base ≤ k) hb).setCell (p := ⟨r, 3, none⟩) (.inl (.inl rfl)) _).drew
 have x2 : W2.cell? ⟨r, 2, none⟩ = some (.slice fa l.length fc) := hR2.cell 2
 have x2a : ∀ ob, (W2.alloc ob).cell? ⟨r, 2, none⟩ = some (.slice fa l.length fc) := fun ob => (hR2.alloc ob).cell 2
 have k0 : W2.cell? ⟨w.heap.size, 0, none⟩ = some (S f.n) := hF2.cell 0
 have k1 : W2.cell? ⟨w.heap.size, 1, none⟩ = some (S f.v) := hF2.cell 1
 have k2 : W2.cell? ⟨w.heap.size, 2, none⟩ = some (.bool f.m) := hF2.cell 2
 have hz2 := hu2.size
 go_upto_region 2 with fail
 rw [← eW2]
 clear eW2 y3 f3 g0 g1 hRW hF ho hR
 go_region_law (refine step_of ?_ (by rfl);refine wp_appG _ _ 42 rfl base 41 (.agg #[.string ByteArray.empty, .string ByteArray.empty, .bool false]) 3 40 Tryz.underlying42 (by kernel_rfl) rfl (by decide) _ _ _ rfl (own_dr (ho2.alloc _)) _ _ _ [S f.n, S f.v, .bool f.m] rfl (Rd.drew (Rd.lit W2 41 #[S f.n, S f.v, .bool f.m] 3 1 rfl (by decide))) (by intro u hu;simp at hu;rcases hu with rfl | rfl | rfl <;> rfl) (by unfold maxLen;omega) (by omega) (by simp;omega) ?_;intro a3 c3 w3 hown3 hb3 hg3;have hR3 := (hR2.alloc (.cells #[S f.n, S f.v, .bool f.m] 41)).drew.below hb3 hbr;have z2 : w3.cell? ⟨r, 2, none⟩ = some (.slice fa l.length fc) := hR3.cell 2;have zf := hR3.free 2)
 all_goals (
  go_wp2
  go_end0
  exact ⟨rfl, a3, c3, hR3.set 2 _, (by rw [fcells_append];exact ownsRow_setCell_below hown3 hbr _), ((hu2.trans (((But.refl (fun k => k = r ∨ base ≤ k) W2).alloc _).drew)).trans ⟨hb3.os, hb3.tape, hb3.output, hb3.size, fun i _ hS => hb3.block i (by omega)⟩).setCell (p := ⟨r, 2, none⟩) (.inl (.inl rfl)) _⟩)
end Go.Proofs.YtkeeofhjdffhbaaGreatDoor
namespace Go.Proofs.YtkeeofhjdffhbaaGreatDoor
open Go.RowKit Go.Dr
set_option maxRecDepth 100000 in
set_option maxHeartbeats 4000000 in
theorem Literal_row {r d t B : Nat} {v fv cv hv : Value} (k : Nat) (c : UInt8) (s rest nm vl : Bytes) (hk0 : 0 < k) (hk1 : k < 15) (hbt : Go.bits .and .i64 (c.toNat : Int) ((2 ^ 4 - 1 : Nat) : Int) = (k : Int)) (hs : s.length < 127) (w : World)
  (hR : Blk w r 219 #[Ptr d, v, fv, cv, hv]) (h : By B w v (c :: UInt8.ofNat s.length :: (s ++ rest))) (hBr : B ≤ r) (hd : w.cell? ⟨d, 2, none⟩ = some (Ptr t)) (hdl : d < w.heap.size) (hdr : d ≠ r)
  (hRow : ∀ w : World, w.cell? ⟨r, 0, none⟩ = some (Ptr d) → w.cell? ⟨d, 2, none⟩ = some (Ptr t) → r < w.heap.size → d < w.heap.size → Calls Tryz.prog 166 #[Ptr r, .int .i64 (k : Int)] w fun e w' => e = .returned (.agg #[S nm, S vl, .bool false]) ∧ Below w.heap.size w w') :
  Calls Tryz.prog 168 #[Ptr r, .int .i64 4, .bool false] w fun e w' => e = .returned (.agg #[S nm, S s, .bool false]) ∧ (∃ v', Blk w' r 219 #[Ptr d, v', fv, cv, hv] ∧ By B w' v' rest) ∧ But (fun k => k = r) w w' := by
 have hb0 := (Below.refl w.heap.size w).alloc (Nat.le_refl _) (.cells #[S [], S [], .bool false] 41)
 have hO := Blk.new w 41 #[S [], S [], .bool false]
 have hrl := hR.lt
 have hN := Number_byte 4 k c _ (.inl rfl) hbt (by show k + 1 < 16;omega) _ (hR.on hb0) (h.below (hb0.mono (show B ≤ w.heap.size by omega))) hBr
 have hk0' : (0 : Int) < (k : Int) := by omega
 have hfd : ∀ w' : World, (Instr.field 41 (.agg #[S nm, S vl, .bool false]) 0).run Tryz.prog w' = .ok (S nm) w' := fun w' => by kernel_rfl
 clear h
 go_enter Tryz.func168, Tryz.ntmps168
 go_wp2_with fail
 refine hN.mono ?_
 rintro e w1 ⟨rfl, ⟨v1, hR1, hB1⟩, hb1⟩
 have hO1 := hO.but hb1 (by show w.heap.size ≠ r;omega)
 have hd1 : w1.cell? ⟨d, 2, none⟩ = some (Ptr t) := by
  rw [← hd]
  simp only [World.cell?, hb1.block d (Nat.lt_of_lt_of_le hdl hb0.size) hdr, hb0.block d hdl]
 have hz1 := hb1.size
 have hz0 := hb0.size
 have hsz : w.heap.size + 1 ≤ w1.heap.size := by have := hz1;simp at this;omega
 have nO : w.heap.size ≠ w1.heap.size := by omega
 have nO' : w1.heap.size ≠ w.heap.size := by omega
 have nR : w.heap.size ≠ r := by omega
 clear hN
 go_wp2_with fail
 have hrl1 := hR1.lt
 have hb2 := (Below.refl w1.heap.size w1).alloc (Nat.le_refl _) (.cells #[S [], S [], .bool false] 41)
 have hF2 := Blk.new w1 41 #[S [], S [], .bool false]
 have hd2 : (w1.alloc (.cells #[S [], S [], .bool false] 41)).cell? ⟨d, 2, none⟩ = some (Ptr t) := by
  rw [hb2.cell (p := ⟨d, 2, none⟩) (by show d < _;omega)]
  exact hd1
 have hz2 := hb2.size
 refine (hRow _ ((hR1.on hb2).cell 0) hd2 (hR1.on hb2).lt (by omega)).mono ?_
 rintro e w3 ⟨rfl, hb3⟩
 have hF3 := hF2.on hb3
 have hO3 := (hO1.on hb2).on hb3
 have hR3 := (hR1.on hb2).on hb3
 have hz3 := hb3.size
 have hB3 : By B w3 v1 (UInt8.ofNat s.length :: (s ++ rest)) := (hB1.below (hb2.mono (by omega))).below (hb3.mono (by omega))
 have q0 : w3.cell? ⟨w1.heap.size, 0, none⟩ = some (S []) := hF3.cell 0
 have p0 := hF3.free 0
 have nF : w1.heap.size ≠ r := by omega
 have hR4 := hR3.other (p := ⟨w1.heap.size, 0, none⟩) (fun e => nF e.symm) (S nm)
 have hB4 : By B (w3.setCell ⟨w1.heap.size, 0, none⟩ (S nm)) v1 (UInt8.ofNat s.length :: (s ++ rest)) := hB3.below ((Below.refl B w3).setCell (p := ⟨w1.heap.size, 0, none⟩) (by show B ≤ w1.heap.size;omega) _)
 have hT := Text_raw s rest hs _ hR4 hB4 hBr
 go_wp2_with fail
 refine hT.mono ?_
 rintro e w5 ⟨rfl, ⟨v5, hR5, hB5⟩, hb5⟩
 have hF5 : Blk w5 w1.heap.size 41 #[S nm, S [], .bool false] := (hF3.set 0 (S nm)).but hb5 nF
 have hO5 := (hO3.other (p := ⟨w1.heap.size, 0, none⟩) (by show w.heap.size ≠ w1.heap.size;omega) (S nm)).but hb5 (by show w.heap.size ≠ r;omega)
 have u0 : w5.cell? ⟨w1.heap.size, 0, none⟩ = some (S nm) := hF5.cell 0
 have u1 : w5.cell? ⟨w1.heap.size, 1, none⟩ = some (S []) := hF5.cell 1
 have u2 : w5.cell? ⟨w1.heap.size, 2, none⟩ = some (.bool false) := hF5.cell 2
 have x1 := hF5.free 1
 have x2 := hF5.free 2
 have o0 : w5.cell? ⟨w.heap.size, 0, none⟩ = some (S []) := hO5.cell 0
 have o1 : w5.cell? ⟨w.heap.size, 1, none⟩ = some (S []) := hO5.cell 1
 have o2 : w5.cell? ⟨w.heap.size, 2, none⟩ = some (.bool false) := hO5.cell 2
 have y0 := hO5.free 0
 have y1 := hO5.free 1
 have y2 := hO5.free 2
 clear hT
 go_wp2
 have hOf := ((((hO5.other (p := ⟨w1.heap.size, 1, none⟩) nO (S s)).other (p := ⟨w1.heap.size, 2, none⟩) nO (.bool false)).set 0 (S nm)).set 1 (S s)).set 2 (.bool false)
 have hRf := ((((hR5.other (p := ⟨w1.heap.size, 1, none⟩) (fun e => nF e.symm) (S s)).other (p := ⟨w1.heap.size, 2, none⟩) (fun e => nF e.symm) (.bool false)).other (p := ⟨w.heap.size, 0, none⟩) (fun e => nR e.symm) (S nm)).other (p := ⟨w.heap.size, 1, none⟩) (fun e => nR e.symm) (S s)).other (p := ⟨w.heap.size, 2, none⟩) (fun e => nR e.symm) (.bool false)
 have hz5 := hb5.size
 have hB : B ≤ w.heap.size := by omega
 have hB1' : B ≤ w1.heap.size := by omega
 have hBl := (((((Below.refl B w5).setCell (p := ⟨w1.heap.size, 1, none⟩) hB1' (S s)).setCell (p := ⟨w1.heap.size, 2, none⟩) hB1' (.bool false)).setCell (p := ⟨w.heap.size, 0, none⟩) hB (S nm)).setCell (p := ⟨w.heap.size, 1, none⟩) hB (S s)).setCell (p := ⟨w.heap.size, 2, none⟩) hB (.bool false)
 refine bodyPost_ret (results_cell1 Tryz.results168 rfl (run_loadVar_row _ w.heap.size 41 41 _ (0, 0) _ hOf Tryz.underlying41 (by rfl) (by kernel_rfl))) rfl ⟨rfl, ⟨v5, hRf, hB5.below hBl⟩, ?_⟩
 have e0 : But (fun k => k = r) w w1 := (But.of_below hb0).trans hb1
 have e3 : But (fun k => k = r) w w3 := (e0.trans (But.of_below hb2)).trans (But.of_below hb3)
 have l1 : w.heap.size ≤ w1.heap.size := by omega
 have e5 := (e3.setCell (p := ⟨w1.heap.size, 0, none⟩) (.inr l1) (S nm)).trans hb5
 exact ((((e5.setCell (p := ⟨w1.heap.size, 1, none⟩) (.inr l1) (S s)).setCell (p := ⟨w1.heap.size, 2, none⟩) (.inr l1) (.bool false)).setCell (p := ⟨w.heap.size, 0, none⟩) (.inr (Nat.le_refl _)) (S nm)).setCell (p := ⟨w.heap.size, 1, none⟩) (.inr (Nat.le_refl _)) (S s)).setCell (p := ⟨w.heap.size, 2, none⟩) (.inr (Nat.le_refl _)) (.bool false)
end Go.Proofs.YtkeeofhjdffhbaaGreatDoor
namespace Go.Proofs.YtkeeofhjdffhbaaGreatDoor
open Go Go.RowKit Go.Dr
/-- a reader: what is left, what it read -/
def RS (w : World) (r d B base : Nat) (bs : Bytes) (l : List F) (cost ch : Int) : Prop :=
 ∃ v fv, Blk w r 219 #[Ptr d, v, fv, .int .i64 cost, .int .i64 ch] ∧ By B w v bs ∧ w.ownsRow base 41 3 fv l.length (fcells l)
set_option maxRecDepth 100000 in
set_option maxHeartbeats 4000000 in
/-- nothing goes of a table that is empty -/
theorem Shrink_empty {t : Nat} {most gone : Int} {a b : Value} (n : Int) (hn : 0 ≤ n) (w : World) (h : Blk w t 210 #[.int .i64 most, .int .i64 0, .slice none 0 0, .int .i64 gone, a, b]) :
  Calls Tryz.prog 204 #[Ptr t, .int .i64 n] w fun e w' => e = .returned (.tuple #[]) ∧ w' = w := by
 have y1 : w.cell? ⟨t, 1, none⟩ = some (.int .i64 0) := h.cell 1
 have hq : ¬ n < 0 := by omega
 go_enter Tryz.func204, Tryz.ntmps204
 go_wp2
 refine wp_loop_rounds 1 ?_
 rw [rounds_succ]
 go_wp2
 go_end0
 exact ⟨rfl, rfl⟩
set_option maxRecDepth 100000 in
set_option maxHeartbeats 4000000 in
theorem Resize_empty {t : Nat} {most gone : Int} {a b : Value} (n : Int) (hn : 0 ≤ n) (hn2 : n ≤ 65536) (w : World) (h : Blk w t 210 #[.int .i64 most, .int .i64 0, .slice none 0 0, .int .i64 gone, a, b]) :
  Calls Tryz.prog 205 #[Ptr t, .int .i64 n] w fun e w' => e = .returned (.int .i64 0) ∧ w' = w.setCell ⟨t, 0, none⟩ (.int .i64 n) := by
 have y0 : w.cell? ⟨t, 0, none⟩ = some (.int .i64 most) := h.cell 0
 have f0 := h.free 0
 have hs := Shrink_empty n hn _ (h.set 0 (.int .i64 n))
 have hq : ¬ n < 0 := by omega
 have hq2 : ¬ 65536 < n := by omega
 go_enter Tryz.func205, Tryz.ntmps205
 go_wp2_with (go_at_call 204;(with_reducible refine hs.mono ?_);rintro e w2 ⟨rfl, e2⟩;subst e2)
 go_ret
 exact ⟨rfl, rfl⟩
set_option maxRecDepth 100000 in
set_option maxHeartbeats 4000000 in
/-- a change of size to nothing -/
theorem resize_zero {r d t B base : Nat} {tab lst most gone : Int} {a b : Value} {bk : Bool} (rest : Bytes) (w : World) (hS : RS w r d B base (32 :: rest) [] 0 0) (hBr : B ≤ r) (hbr : r < base) (hD : Blk w d 163 #[.int .i64 tab, .int .i64 lst, Ptr t, .bool bk]) (hT : Blk w t 210 #[.int .i64 most, .int .i64 0, .slice none 0 0, .int .i64 gone, a, b]) (hdr : d ≠ r) (htr : t ≠ r) (htB : t < base) (htab : 0 ≤ tab) (htd : t ≠ d) (hdt : ∀ (w' : World) (v : Value), Blk w' t 210 #[.int .i64 most, .int .i64 0, .slice none 0 0, .int .i64 gone, a, b] → By B w' v rest → By B (w'.setCell ⟨t, 0, none⟩ (.int .i64 0)) v rest) :
  Calls Tryz.prog 170 #[Ptr r] w fun e w' => e = .returned (.tuple #[]) ∧ RS w' r d B base rest [] 0 1 ∧ Blk w' t 210 #[.int .i64 0, .int .i64 0, .slice none 0 0, .int .i64 gone, a, b] ∧ But (fun k => k = r ∨ k = t) w w' := by
 obtain ⟨v, fv, hR, hB, ho⟩ := hS
 obtain ⟨fa, fc, rfl⟩ := own_form ho
 have hN := Number_byte 5 0 32 rest (.inr (.inl rfl)) (by decide) (by decide) w hR hB hBr
 go_enter Tryz.func170, Tryz.ntmps170
 go_upto_region 1 with (go_at_call 167;refine hN.mono ?_;rintro e w2 ⟨rfl, ⟨v2, hR2, hB2⟩, hb2⟩;have y4 : w2.cell? ⟨r, 4, none⟩ = some (.int .i64 0) := hR2.cell 4;have f4 := hR2.free 4)
 have hD2 := hD.but hb2 (fun e => hdr e)
 have hT2 := hT.but hb2 (fun e => htr e)
 go_upto_region 2 with fail
 have hbs : Below r w2 (w2.setCell ⟨r, 4, none⟩ (.int .i64 1)) := (Below.refl r w2).setCell (p := ⟨r, 4, none⟩) (Nat.le_refl _) _
 refine wp_cut (R := fun W => Blk W r 219 #[Ptr d, v2, .slice fa 0 fc, .int .i64 0, .int .i64 1] ∧ By B W v2 rest ∧ Blk W d 163 #[.int .i64 tab, .int .i64 lst, Ptr t, .bool bk] ∧ Blk W t 210 #[.int .i64 most, .int .i64 0, .slice none 0 0, .int .i64 gone, a, b] ∧ But (fun k => k = r) w W ∧ W.ownsRow base 41 3 (.slice fa 0 fc) 0 []) ⟨hR2.set 4 _, hB2.below (hbs.mono hBr), hD2.other (by show d ≠ r;exact hdr) _, hT2.other (by show t ≠ r;exact htr) _, hb2.setCell (p := ⟨r, 4, none⟩) (.inl rfl) _, ownsRow_setCell_below (own_same ho fun g hg => hb2.block g (own_lt ho hg).2 (by have := (own_lt ho hg).1;rintro rfl;omega)) hbr _⟩ ?_
 clear hb2 hR2 hB2 hD2 hT2 hbs y4 f4 hN w2
 rintro W ⟨hR3, hB3, hD3, hT3, hb3, ho3⟩
 have x2 : W.cell? ⟨r, 2, none⟩ = some (.slice fa 0 fc) := hR3.cell 2
 have x4 : W.cell? ⟨r, 4, none⟩ = some (.int .i64 1) := hR3.cell 4
 have x0 : W.cell? ⟨r, 0, none⟩ = some (Ptr d) := hR3.cell 0
 have z0 : W.cell? ⟨d, 0, none⟩ = some (.int .i64 tab) := hD3.cell 0
 have z2 : W.cell? ⟨d, 2, none⟩ = some (Ptr t) := hD3.cell 2
 have hq : ¬ tab < 0 := by omega
 have hRe := Resize_empty 0 (by decide) (by decide) W hT3
 go_wp2_with (go_at_call 205;(with_reducible refine hRe.mono ?_);rintro e w5 ⟨rfl, e5⟩;subst e5)
 go_end0
 exact ⟨rfl, ⟨v2, .slice fa 0 fc, hR3.other (by show r ≠ t;exact htr.symm) _, hdt _ _ hT3 hB3, ownsRow_setCell_below ho3 htB _⟩, hT3.set 0 _, (hb3.more (fun _ h => .inl h)).setCell (p := ⟨t, 0, none⟩) (.inl (.inr rfl)) _⟩
/-- bytes stay where another block's cell turns -/
theorem By.off {B : Nat} {w : World} {v : Value} {bs : Bytes} (h : By B w v bs) {t : Nat} {T : TypeId} {xs : Array Value} (hT : Blk w t T xs) (hx : ∀ (j : Nat) (c : UInt8), xs[j]? ≠ some (B8 c)) (k : Nat) (u : Value) : By B (w.setCell ⟨t, k, none⟩ u) v bs := by
 obtain ⟨a, cap, h1, h2, h3, h4, h5, h6⟩ := h
 refine ⟨a, cap, h1, h2, h3, h4, h5, fun j y hy => ?_⟩
 obtain ⟨b, off, e1, e2, e3⟩ := h6 j y hy
 refine ⟨b, off, e1, e2, ?_⟩
 have hne : b ≠ t := fun e => by
  subst e
  have hc := hT.cell (off + j)
  rw [e3] at hc
  obtain ⟨c, -, rfl⟩ := List.mem_map.1 (List.mem_of_getElem? hy)
  exact hx _ c hc.symm
 rw [← e3]
 simp only [World.cell?, Below.heap_setCell w ⟨t, k, none⟩ u b hne]
/-- how many bytes a field counts -/
def fcost (f : F) : Int := (f.n.length : Int) + (f.v.length : Int) + 32
set_option maxRecDepth 100000 in
set_option maxHeartbeats 4000000 in
/-- the first byte that is left -/
theorem RS.head {w : World} {r d B base : Nat} {c : UInt8} {rest : Bytes} {l : List F} {cost ch : Int} (h : RS w r d B base (c :: rest) l cost ch) : ∃ b off cv, w.cell? ⟨r, 1, none⟩ = some (.slice (some ⟨b, off, none⟩) (c :: rest).length cv) ∧ w.cell? ⟨b, off, none⟩ = some (.int .u8 (c.toNat : Int)) ∧ (c :: rest).length ≤ 9223372036854775807 := by
 obtain ⟨v, fv, hR, hB, ho⟩ := h
 obtain ⟨av, cv, rfl, hcv, hcm⟩ := hB.form
 obtain ⟨b, off, rfl, hb, x0⟩ := hB.at 0 (by simp)
 exact ⟨b, off, cv, hR.cell 1, x0, by omega⟩
set_option maxRecDepth 100000 in
set_option maxHeartbeats 4000000 in
/-- a part that is a row's number -/
theorem Part_row {r d t B base : Nat} {cost ch : Int} (k : Nat) (c : UInt8) (rest : Bytes) (l : List F) (f : F) (hc : 128 ≤ c.toNat) (hbt : Go.bits .and .i64 (c.toNat : Int) ((2 ^ 7 - 1 : Nat) : Int) = (k : Int)) (hk : k + 1 < 128) (w : World) (hS : RS w r d B base (c :: rest) l cost ch) (hBr : B ≤ r) (hbr : r < base) (hbw : base ≤ w.heap.size) (hd : w.cell? ⟨d, 2, none⟩ = some (Ptr t)) (hdl : d < w.heap.size) (hdr : d ≠ r) (hfn : f.n.length ≤ 1048576) (hfv : f.v.length ≤ 1048576) (hc0 : 0 ≤ cost) (hc1 : cost ≤ 1099511627776) (hll : l.length ≤ 100000)
  (hRow : ∀ w : World, w.cell? ⟨r, 0, none⟩ = some (Ptr d) → w.cell? ⟨d, 2, none⟩ = some (Ptr t) → r < w.heap.size → d < w.heap.size → Calls Tryz.prog 166 #[Ptr r, .int .i64 (k : Int)] w fun e w' => e = .returned (.agg #[S f.n, S f.v, .bool f.m]) ∧ Below w.heap.size w w') :
  Calls Tryz.prog 118 #[Ptr r] w fun e w' => e = .returned (.tuple #[]) ∧ RS w' r d B base rest (l ++ [f]) (cost + fcost f) ch ∧ But (fun k => k = r ∨ base ≤ k) w w' := by
 obtain ⟨b, off, cv, y1, x0, hlen⟩ := hS.head
 obtain ⟨v, fv, hR, hB, ho⟩ := hS
 have hN := Number_byte 7 k c rest (.inr (.inr (.inr rfl))) hbt hk w hR hB hBr
 have hcc : (128 : Int) ≤ (c.toNat : Int) := by omega
 have hlz : (0 : Int) < ((c :: rest).length : Int) := by simp
 clear hB
 go_enter Tryz.func118, Tryz.ntmps118
 go_wp2_with first
  | (go_at_call 167;refine hN.mono ?_;rintro e w2 ⟨rfl, ⟨v2, hR2, hB2⟩, hb2⟩;have p0 : w2.cell? ⟨r, 0, none⟩ = some (Ptr d) := hR2.cell 0;have p2 : w2.cell? ⟨d, 2, none⟩ = some (Ptr t) := (by rw [← hd];simp only [World.cell?, hb2.block d hdl hdr]);have hRw := hRow w2 p0 p2 hR2.lt (Nat.lt_of_lt_of_le hdl hb2.size);have ho2 := own_same ho (fun g hg => hb2.block g (own_lt ho hg).2 (fun e => by have := (own_lt ho hg).1;have e' : g = r := e;omega)))
  | (go_at_call 166;(with_reducible refine hRw.mono ?_);rintro e w3 ⟨rfl, hb3⟩;have hR3 := hR2.on hb3;have hz3 := hb3.size;have hz2 := hb2.size;have ho3 := own_below ho2 hb3;have hB3 := hB2.below (hb3.mono (show B ≤ w2.heap.size by omega));have hPut := Put_any l f w3 base hR3 hbr (by omega) ho3 hfn hfv hc0 hc1 hll)
  | (go_at_call 165;(with_reducible refine hPut.mono ?_);rintro e w4 ⟨rfl, a4, c4, hR4, ho4, hb4⟩)
 go_end0
 refine ⟨rfl, ⟨v2, _, hR4, hB3.below (hb4.below (fun k hk => by omega) (show B ≤ w3.heap.size by omega)), by rw [List.length_append];exact ho4⟩, ((hb2.more (fun _ h => .inl h)).trans (But.of_below hb3)).trans hb4⟩
set_option maxRecDepth 100000 in
set_option maxHeartbeats 4000000 in
/-- a part that is a name's number and a value -/
theorem Part_lit {r d t B base : Nat} {cost ch : Int} (k : Nat) (c : UInt8) (s rest nm vl : Bytes) (l : List F) (hk0 : 0 < k) (hk1 : k < 15) (hc : c.toNat < 16) (hbt : Go.bits .and .i64 (c.toNat : Int) ((2 ^ 4 - 1 : Nat) : Int) = (k : Int)) (hs : s.length < 127) (w : World) (hS : RS w r d B base (c :: UInt8.ofNat s.length :: (s ++ rest)) l cost ch) (hBr : B ≤ r) (hbr : r < base) (hbw : base ≤ w.heap.size) (hd : w.cell? ⟨d, 2, none⟩ = some (Ptr t)) (hdl : d < w.heap.size) (hdr : d ≠ r) (hfn : nm.length ≤ 1048576) (hc0 : 0 ≤ cost) (hc1 : cost ≤ 1099511627776) (hll : l.length ≤ 100000)
  (hRow : ∀ w : World, w.cell? ⟨r, 0, none⟩ = some (Ptr d) → w.cell? ⟨d, 2, none⟩ = some (Ptr t) → r < w.heap.size → d < w.heap.size → Calls Tryz.prog 166 #[Ptr r, .int .i64 (k : Int)] w fun e w' => e = .returned (.agg #[S nm, S vl, .bool false]) ∧ Below w.heap.size w w') :
  Calls Tryz.prog 118 #[Ptr r] w fun e w' => e = .returned (.tuple #[]) ∧ RS w' r d B base rest (l ++ [⟨nm, s, false⟩]) (cost + fcost ⟨nm, s, false⟩) ch ∧ But (fun k => k = r ∨ base ≤ k) w w' := by
 obtain ⟨b, off, cv, y1, x0, hlen⟩ := hS.head
 obtain ⟨v, fv, hR, hB, ho⟩ := hS
 have hL := Literal_row k c s rest nm vl hk0 hk1 hbt hs w hR hB hBr hd hdl hdr hRow
 have hc1' : ¬ (128 : Int) ≤ (c.toNat : Int) := by omega
 have hc2' : ¬ (64 : Int) ≤ (c.toNat : Int) := by omega
 have hc3' : ¬ (32 : Int) ≤ (c.toNat : Int) := by omega
 have hc4' : ¬ (16 : Int) ≤ (c.toNat : Int) := by omega
 have hlz : (0 : Int) < ((c :: UInt8.ofNat s.length :: (s ++ rest)).length : Int) := by simp <;> omega
 clear hB
 go_enter Tryz.func118, Tryz.ntmps118
 go_wp2_with first
  | (go_at_call 168;(with_reducible refine hL.mono ?_);rintro e w2 ⟨rfl, ⟨v2, hR2, hB2⟩, hb2⟩;have hz2 := hb2.size;have ho2 := own_same ho (fun g hg => hb2.block g (own_lt ho hg).2 (fun e => by have := (own_lt ho hg).1;have e' : g = r := e;omega));have hPut := Put_any l ⟨nm, s, false⟩ w2 base hR2 hbr (by omega) ho2 hfn (by show s.length ≤ _;omega) hc0 hc1 hll)
  | (go_at_call 165;(with_reducible refine hPut.mono ?_);rintro e w4 ⟨rfl, a4, c4, hR4, ho4, hb4⟩)
 go_end0
 refine ⟨rfl, ⟨v2, _, hR4, hB2.below (hb4.below (fun k hk => by omega) (show B ≤ w2.heap.size by omega)), by rw [List.length_append];exact ho4⟩, (hb2.more (fun _ h => .inl h)).trans hb4⟩
set_option maxRecDepth 100000 in
set_option maxHeartbeats 4000000 in
/-- a part that is a change of size to nothing -/
theorem Part_zero {r d t B base : Nat} {tab lst most gone : Int} {a b : Value} {bk : Bool} (rest : Bytes) (w : World) (hS : RS w r d B base (32 :: rest) [] 0 0) (hBr : B ≤ r) (hbr : r < base) (hD : Blk w d 163 #[.int .i64 tab, .int .i64 lst, Ptr t, .bool bk]) (hT : Blk w t 210 #[.int .i64 most, .int .i64 0, .slice none 0 0, .int .i64 gone, a, b]) (hdr : d ≠ r) (htr : t ≠ r) (htB : t < base) (htab : 0 ≤ tab) (htd : t ≠ d) (hdt : ∀ (w' : World) (v : Value), Blk w' t 210 #[.int .i64 most, .int .i64 0, .slice none 0 0, .int .i64 gone, a, b] → By B w' v rest → By B (w'.setCell ⟨t, 0, none⟩ (.int .i64 0)) v rest) :
  Calls Tryz.prog 118 #[Ptr r] w fun e w' => e = .returned (.tuple #[]) ∧ RS w' r d B base rest [] 0 1 ∧ Blk w' t 210 #[.int .i64 0, .int .i64 0, .slice none 0 0, .int .i64 gone, a, b] ∧ But (fun k => k = r ∨ k = t) w w' := by
 have hZ := resize_zero rest w hS hBr hbr hD hT hdr htr htB htab htd hdt
 obtain ⟨b, off, cv, y1, x0', hlen⟩ := hS.head
 have x0 : w.cell? ⟨b, off, none⟩ = some (.int .u8 32) := x0'
 have hlz : (0 : Int) < ((32 :: rest).length : Int) := by simp
 clear hS x0'
 go_enter Tryz.func118, Tryz.ntmps118
 go_wp2_with (go_at_call 170;(with_reducible refine hZ.mono ?_);rintro e w2 ⟨rfl, h1, h2, h3⟩)
 go_end0
 exact ⟨rfl, h1, h2, h3⟩
end Go.Proofs.YtkeeofhjdffhbaaGreatDoor
namespace Go.Proofs.YtkeeofhjdffhbaaGreatDoor
open Go Go.RowKit Go.Dr
/-- a part that is read as one field -/
def PartRun (d t : Nat) (bs : Bytes) (f : F) : Prop := ∀ (r B base : Nat) (l : List F) (cost ch : Int) (rest : Bytes) (w : World), RS w r d B base (bs ++ rest) l cost ch → B ≤ r → r < base → base ≤ w.heap.size → w.cell? ⟨d, 2, none⟩ = some (Ptr t) → d < w.heap.size → d ≠ r → 0 ≤ cost → cost ≤ 1099511627776 → l.length ≤ 100000 →
 Calls Tryz.prog 118 #[Ptr r] w fun e w' => e = .returned (.tuple #[]) ∧ RS w' r d B base rest (l ++ [f]) (cost + fcost f) ch ∧ But (fun k => k = r ∨ base ≤ k) w w'
abbrev fMethod : F := ⟨[58, 109, 101, 116, 104, 111, 100], [71, 69, 84], false⟩
abbrev fScheme : F := ⟨[58, 115, 99, 104, 101, 109, 101], [104, 116, 116, 112], false⟩
abbrev fAuth : F := ⟨[58, 97, 117, 116, 104, 111, 114, 105, 116, 121], [104], false⟩
abbrev fPath (p : Bytes) : F := ⟨[58, 112, 97, 116, 104], p, false⟩
theorem run_130 (d t : Nat) : PartRun d t [130] fMethod := fun r B base l cost ch rest w hS h1 h2 h3 h4 h5 h6 h7 h8 h9 =>
 Part_row 2 130 rest l fMethod (by decide) (by decide) (by decide) w hS h1 h2 h3 h4 h5 h6 (by decide) (by decide) h7 h8 h9 (fun w a b c d => Row_2 w a b c d)
theorem run_134 (d t : Nat) : PartRun d t [134] fScheme := fun r B base l cost ch rest w hS h1 h2 h3 h4 h5 h6 h7 h8 h9 =>
 Part_row 6 134 rest l fScheme (by decide) (by decide) (by decide) w hS h1 h2 h3 h4 h5 h6 (by decide) (by decide) h7 h8 h9 (fun w a b c d => Row_6 w a b c d)
theorem run_132 (d t : Nat) : PartRun d t [132] (fPath [47]) := fun r B base l cost ch rest w hS h1 h2 h3 h4 h5 h6 h7 h8 h9 =>
 Part_row 4 132 rest l (fPath [47]) (by decide) (by decide) (by decide) w hS h1 h2 h3 h4 h5 h6 (by decide) (by decide) h7 h8 h9 (fun w a b c d => Row_4 w a b c d)
theorem run_auth (d t : Nat) : PartRun d t [1, 1, 104] fAuth := fun r B base l cost ch rest w hS h1 h2 h3 h4 h5 h6 h7 h8 h9 =>
 Part_lit 1 1 [104] rest _ [] l (by decide) (by decide) (by decide) (by decide) (by decide) w hS h1 h2 h3 h4 h5 h6 (by decide) h7 h8 h9 (fun w a b c d => Row_1 w a b c d)
theorem run_x (d t : Nat) : PartRun d t [4, 2, 47, 120] (fPath [47, 120]) := fun r B base l cost ch rest w hS h1 h2 h3 h4 h5 h6 h7 h8 h9 =>
 Part_lit 4 4 [47, 120] rest _ [47] l (by decide) (by decide) (by decide) (by decide) (by decide) w hS h1 h2 h3 h4 h5 h6 (by decide) h7 h8 h9 (fun w a b c d => Row_4 w a b c d)
set_option maxRecDepth 100000 in
set_option maxHeartbeats 8000000 in
theorem Decode_get {d t : Nat} {tab lst most gone : Int} {m1 m2 : Nat} (lb p : Bytes) (v : Value) (hL : PartRun d t lb (fPath p)) (hlb : lb ≠ []) (hp : p.length ≤ 100) (hlst : 165 + (p.length : Int) ≤ lst) (htab : 0 ≤ tab) (htd : t ≠ d) (w : World) (hD : Blk w d 163 #[.int .i64 tab, .int .i64 lst, Ptr t, .bool false]) (hT : Blk w t 210 #[.int .i64 most, .int .i64 0, .slice none 0 0, .int .i64 gone, .map (some m1), .map (some m2)]) (h : By w.heap.size w v (32 :: ([130] ++ ([134] ++ ([1, 1, 104] ++ (lb ++ [])))))) :
  Calls Tryz.prog 88 #[Ptr d, v] w fun e w' => (∃ a c, e = .returned (.tuple #[.slice a 4 c, .int .i64 0]) ∧ w'.ownsRow w.heap.size 41 3 (.slice a 4 c) 4 (fcells [fMethod, fScheme, fAuth, fPath p])) ∧ Blk w' t 210 #[.int .i64 0, .int .i64 0, .slice none 0 0, .int .i64 gone, .map (some m1), .map (some m2)] ∧ But (fun k => k = t) w w' := by
 have hmf : ∀ (fn : Fn) (first cap : Array Value) (w : World), (Instr.makeFunc fn first cap).run Tryz.prog w = .ok (.func fn first cap) w := fun _ _ _ _ => rfl
 have hdl := hD.lt
 have htl := hT.lt
 obtain ⟨av, cv, rfl, hcv, hcm⟩ := h.form
 have hrefl := Below.refl w.heap.size w
 obtain ⟨W, eW⟩ : ∃ W, W = ((w.alloc (.cells #[Ptr d] 94)).alloc (.cells #[.slice none 0 0] 42)).alloc (.cells #[.int .i64 0] 27) := ⟨_, rfl⟩
 have hb : Below w.heap.size w W := by rw [eW];exact ((hrefl.alloc (Nat.le_refl _) _).alloc (by simp) _).alloc (by simp;omega) _
 have hA : Blk W w.heap.size 94 #[Ptr d] := by rw [eW];exact ((Blk.new w _ _).alloc _).alloc _
 have hB : Blk W (w.heap.size + 1) 42 #[.slice none 0 0] := by rw [eW];exact (bnew_at (w.alloc (.cells #[Ptr d] 94)) _ _ _ (by simp)).alloc _
 have hC : Blk W (w.heap.size + 1 + 1) 27 #[.int .i64 0] := by rw [eW];exact bnew_at ((w.alloc (.cells #[Ptr d] 94)).alloc (.cells #[.slice none 0 0] 42)) _ _ _ (by simp)
 have hz : W.heap.size = w.heap.size + 3 := by rw [eW];simp
 have hDW := hD.on hb
 have d3 : W.cell? ⟨d, 3, none⟩ = some (.bool false) := hDW.cell 3
 have a0 : W.cell? ⟨w.heap.size, 0, none⟩ = some (Ptr d) := hA.cell 0
 have n1 : w.heap.size + 3 ≠ w.heap.size := by omega
 generalize hbl : (32 :: ([130] ++ ([134] ++ ([1, 1, 104] ++ (lb ++ [])))) : Bytes).length = bl at *
 obtain ⟨W1, eW1⟩ : ∃ W1, W1 = W.alloc (.cells #[Ptr d, .slice av bl cv, .slice none 0 0, .int .i64 0, .int .i64 0] 219) := ⟨_, rfl⟩
 have hb1 : Below W.heap.size W W1 := by rw [eW1];exact (Below.refl _ _).alloc (Nat.le_refl _) _
 have hR1 : Blk W1 (w.heap.size + 3) 219 #[Ptr d, .slice av bl cv, .slice none 0 0, .int .i64 0, .int .i64 0] := by rw [eW1];exact bnew_at W _ _ _ hz
 have hD1 := hDW.on hb1
 have hT1 := (hT.on hb).on hb1
 have h1 := (h.below hb).below (hb1.mono (by omega))
 have hdR : d ≠ w.heap.size + 3 := by omega
 have hA1 := hA.on hb1
 have hB1 := hB.on hb1
 have hC1 := hC.on hb1
 have hw1 : Below w.heap.size w W1 := hb.trans (hb1.mono (by omega))
 have hz1 : w.heap.size + 4 ≤ W1.heap.size := by have := hR1.lt;omega
 have hS1 : RS W1 (w.heap.size + 3) d w.heap.size (w.heap.size + 4) (32 :: ([130] ++ ([134] ++ ([1, 1, 104] ++ (lb ++ []))))) [] 0 0 := ⟨_, _, hR1, h1, World.ownsRow_nil _ _ _ _⟩
 have hP0 := Part_zero _ W1 hS1 (by omega) (by omega) hD1 hT1 hdR (by omega) (by omega) htab htd (fun w' v hTb hBy => By.off hBy hTb (by intro j c;rcases j with _ | _ | _ | _ | _ | _ | j <;> simp) 0 _)
 have r1 : W1.cell? ⟨w.heap.size + 3, 1, none⟩ = some (.slice av bl cv) := hR1.cell 1
 have hbl0 : (0 : Int) < (bl : Int) := by rw [← hbl];simp;omega
 have HB := Lib.hid hbl
 clear hbl
 go_enter_defers Tryz.func88, Tryz.ntmps88
 go_upto_region 1 with fail
 rw [← eW]
 clear eW
 go_upto_region 5 with fail
 rw [← eW1]
 clear eW1 hz
 refine wp_loop_rounds 6 ?_
 rw [rounds_succ]
 go_wp2_with (go_at_call 118;(with_reducible refine hP0.mono ?_);rintro e w2 ⟨rfl, hS2, hT2, hb2⟩)
 have hu2 : But (fun k => k = t ∨ w.heap.size ≤ k) w w2 := (But.of_below hw1).trans (hb2.more fun k hk => by rcases hk with h | h;exact .inr (by omega);exact .inl h)
 have kp : ∀ {w' : World} {g : Nat} {o : Obj}, But (fun k => k = w.heap.size + 3 ∨ w.heap.size + 4 ≤ k) w2 w' → w2.heap[g]? = some o → g < w.heap.size + 3 → w'.heap[g]? = some o := fun {w' g o} hb ho hg => (hb.block g (lt_of_block ho) (by omega)).trans ho
 have hk2 : ∀ (g : Nat) (o : Obj), g ≠ w.heap.size + 3 → g ≠ t → W1.heap[g]? = some o → w2.heap[g]? = some o := fun g o h1 h2 ho => (hb2.block g (lt_of_block ho) (by omega)).trans ho
 have hA2 : Blk w2 _ _ _ := hk2 _ _ (by omega) (by omega) hA1
 have hB2 : Blk w2 _ _ _ := hk2 _ _ (by omega) (by omega) hB1
 have hC2 : Blk w2 _ _ _ := hk2 _ _ (by omega) (by omega) hC1
 have hD2 : Blk w2 _ _ _ := hk2 _ _ hdR htd.symm hD1
 have d2 : w2.cell? ⟨d, 2, none⟩ = some (Ptr t) := hD2.cell 2
 have hz2 : w.heap.size + 4 ≤ w2.heap.size := Nat.le_trans hz1 hb2.size
 have hu : But (fun k => k = w.heap.size + 3 ∨ w.heap.size + 4 ≤ k) w2 w2 := But.refl _ _
 have fc1 : fcost fMethod = 42 := rfl
 have fc2 : fcost fScheme = 43 := rfl
 have fc3 : fcost fAuth = 43 := rfl
 have fc4 : fcost (fPath p) = (p.length : Int) + 37 := by simp only [fcost];simp;omega
 have hl2 : (0 : Int) < ((([130] ++ ([134] ++ ([1, 1, 104] ++ (lb ++ [])))) : Bytes).length : Int) := by (simp;try omega)
 have hS2' : RS w2 (w.heap.size + 3) d w.heap.size (w.heap.size + 4) ([130] ++ ([134] ++ ([1, 1, 104] ++ (lb ++ [])))) [] 0 1 := hS2
 have hP2 := (run_130 d t) (w.heap.size + 3) w.heap.size (w.heap.size + 4) [] 0 1 ([134] ++ ([1, 1, 104] ++ (lb ++ []))) w2 hS2' (by omega) (by omega) hz2 d2 (Nat.lt_of_lt_of_le hdl (by omega)) hdR (by omega) (by omega) (by simp)
 obtain ⟨v2, fv2, hR2, hBy2, ho2⟩ := hS2'
 obtain ⟨a2, c2, rfl, -, -⟩ := hBy2.form
 have r2 : w2.cell? ⟨w.heap.size + 3, 1, none⟩ = some (.slice a2 (([130] ++ ([134] ++ ([1, 1, 104] ++ (lb ++ [])))) : Bytes).length c2) := hR2.cell 1
 generalize hgl2 : (([130] ++ ([134] ++ ([1, 1, 104] ++ (lb ++ [])))) : Bytes).length = bl2 at r2 hl2
 have HL2 := Lib.hid hgl2
 clear hgl2 hS2 hBy2 hR2 ho2
 rw [rounds_succ]
 go_wp2_with (go_at_call 118;(with_reducible refine hP2.mono ?_);rintro e w3 ⟨rfl, hS3, hb3⟩)
 have hv3 : But (fun k => k = w.heap.size + 3 ∨ w.heap.size + 4 ≤ k) w2 w3 := hu.trans hb3
 have d3 : w3.cell? ⟨d, 2, none⟩ = some (Ptr t) := Blk.cell (show Blk w3 _ _ _ from kp hv3 hD2 (by omega)) 2
 have hz3 : w.heap.size + 4 ≤ w3.heap.size := Nat.le_trans hz2 hb3.size
 have hl3 : (0 : Int) < ((([134] ++ ([1, 1, 104] ++ (lb ++ []))) : Bytes).length : Int) := by (simp;try omega)
 have hS3' : RS w3 (w.heap.size + 3) d w.heap.size (w.heap.size + 4) ([134] ++ ([1, 1, 104] ++ (lb ++ []))) ([] ++ [fMethod]) (0 + fcost fMethod) 1 := hS3
 have hP3 := (run_134 d t) (w.heap.size + 3) w.heap.size (w.heap.size + 4) ([] ++ [fMethod]) (0 + fcost fMethod) 1 ([1, 1, 104] ++ (lb ++ [])) w3 hS3' (by omega) (by omega) hz3 d3 (Nat.lt_of_lt_of_le hdl (by omega)) hdR (by omega) (by omega) (by simp)
 obtain ⟨v3, fv3, hR3, hBy3, ho3⟩ := hS3'
 obtain ⟨a3, c3, rfl, -, -⟩ := hBy3.form
 have r3 : w3.cell? ⟨w.heap.size + 3, 1, none⟩ = some (.slice a3 (([134] ++ ([1, 1, 104] ++ (lb ++ []))) : Bytes).length c3) := hR3.cell 1
 generalize hgl3 : (([134] ++ ([1, 1, 104] ++ (lb ++ []))) : Bytes).length = bl3 at r3 hl3
 have HL3 := Lib.hid hgl3
 clear hgl3 hS3 hBy3 hR3 ho3
 rw [rounds_succ]
 go_wp2_with (go_at_call 118;(with_reducible refine hP3.mono ?_);rintro e w4 ⟨rfl, hS4, hb4⟩)
 have hv4 : But (fun k => k = w.heap.size + 3 ∨ w.heap.size + 4 ≤ k) w2 w4 := hv3.trans hb4
 have d4 : w4.cell? ⟨d, 2, none⟩ = some (Ptr t) := Blk.cell (show Blk w4 _ _ _ from kp hv4 hD2 (by omega)) 2
 have hz4 : w.heap.size + 4 ≤ w4.heap.size := Nat.le_trans hz3 hb4.size
 have hl4 : (0 : Int) < ((([1, 1, 104] ++ (lb ++ [])) : Bytes).length : Int) := by (simp;try omega)
 have hS4' : RS w4 (w.heap.size + 3) d w.heap.size (w.heap.size + 4) ([1, 1, 104] ++ (lb ++ [])) (([] ++ [fMethod]) ++ [fScheme]) (0 + fcost fMethod + fcost fScheme) 1 := hS4
 have hP4 := (run_auth d t) (w.heap.size + 3) w.heap.size (w.heap.size + 4) (([] ++ [fMethod]) ++ [fScheme]) (0 + fcost fMethod + fcost fScheme) 1 (lb ++ []) w4 hS4' (by omega) (by omega) hz4 d4 (Nat.lt_of_lt_of_le hdl (by omega)) hdR (by omega) (by omega) (by simp)
 obtain ⟨v4, fv4, hR4, hBy4, ho4⟩ := hS4'
 obtain ⟨a4, c4, rfl, -, -⟩ := hBy4.form
 have r4 : w4.cell? ⟨w.heap.size + 3, 1, none⟩ = some (.slice a4 (([1, 1, 104] ++ (lb ++ [])) : Bytes).length c4) := hR4.cell 1
 generalize hgl4 : (([1, 1, 104] ++ (lb ++ [])) : Bytes).length = bl4 at r4 hl4
 have HL4 := Lib.hid hgl4
 clear hgl4 hS4 hBy4 hR4 ho4
 rw [rounds_succ]
 go_wp2_with (go_at_call 118;(with_reducible refine hP4.mono ?_);rintro e w5 ⟨rfl, hS5, hb5⟩)
 have hv5 : But (fun k => k = w.heap.size + 3 ∨ w.heap.size + 4 ≤ k) w2 w5 := hv4.trans hb5
 have d5 : w5.cell? ⟨d, 2, none⟩ = some (Ptr t) := Blk.cell (show Blk w5 _ _ _ from kp hv5 hD2 (by omega)) 2
 have hz5 : w.heap.size + 4 ≤ w5.heap.size := Nat.le_trans hz4 hb5.size
 have hl5 : (0 : Int) < (((lb ++ []) : Bytes).length : Int) := by have := List.length_pos_iff.2 hlb;simp;omega
 have hS5' : RS w5 (w.heap.size + 3) d w.heap.size (w.heap.size + 4) (lb ++ []) ((([] ++ [fMethod]) ++ [fScheme]) ++ [fAuth]) (0 + fcost fMethod + fcost fScheme + fcost fAuth) 1 := hS5
 have hP5 := (hL) (w.heap.size + 3) w.heap.size (w.heap.size + 4) ((([] ++ [fMethod]) ++ [fScheme]) ++ [fAuth]) (0 + fcost fMethod + fcost fScheme + fcost fAuth) 1 [] w5 hS5' (by omega) (by omega) hz5 d5 (Nat.lt_of_lt_of_le hdl (by omega)) hdR (by omega) (by omega) (by simp)
 obtain ⟨v5, fv5, hR5, hBy5, ho5⟩ := hS5'
 obtain ⟨a5, c5, rfl, -, -⟩ := hBy5.form
 have r5 : w5.cell? ⟨w.heap.size + 3, 1, none⟩ = some (.slice a5 ((lb ++ []) : Bytes).length c5) := hR5.cell 1
 generalize hgl5 : ((lb ++ []) : Bytes).length = bl5 at r5 hl5
 have HL5 := Lib.hid hgl5
 clear hgl5 hS5 hBy5 hR5 ho5
 rw [rounds_succ]
 go_wp2_with (go_at_call 118;(with_reducible refine hP5.mono ?_);rintro e w6 ⟨rfl, hS6, hb6⟩)
 have hv6 : But (fun k => k = w.heap.size + 3 ∨ w.heap.size + 4 ≤ k) w2 w6 := hv5.trans hb6
 have d6 : w6.cell? ⟨d, 2, none⟩ = some (Ptr t) := Blk.cell (show Blk w6 _ _ _ from kp hv6 hD2 (by omega)) 2
 have hz6 : w.heap.size + 4 ≤ w6.heap.size := Nat.le_trans hz5 hb6.size
 obtain ⟨v6, fv6, hR6, hBy6, ho6⟩ := hS6
 obtain ⟨a6, c6, rfl, -, -⟩ := hBy6.form
 obtain ⟨fa, fc, rfl⟩ := own_form ho6
 have hA6 : Blk w6 _ _ _ := kp hv6 hA2 (by omega)
 have hB6 : Blk w6 _ _ _ := kp hv6 hB2 (by omega)
 have hC6 : Blk w6 _ _ _ := kp hv6 hC2 (by omega)
 have hD6 : Blk w6 _ _ _ := kp hv6 hD2 (by omega)
 have hT6 : Blk w6 _ _ _ := kp hv6 hT2 (by omega)
 have x1 : w6.cell? ⟨w.heap.size + 3, 1, none⟩ = some (.slice a6 0 c6) := hR6.cell 1
 have x2 : w6.cell? ⟨w.heap.size + 3, 2, none⟩ = some (.slice fa 4 fc) := hR6.cell 2
 have x3 : w6.cell? ⟨w.heap.size + 3, 3, none⟩ = some (.int .i64 ((p.length : Int) + 165)) := by rw [show ((p.length : Int) + 165) = 0 + fcost fMethod + fcost fScheme + fcost fAuth + fcost (fPath p) by omega];exact hR6.cell 3
 have xa : w6.cell? ⟨w.heap.size, 0, none⟩ = some (Ptr d) := hA6.cell 0
 have xb : w6.cell? ⟨w.heap.size + 1, 0, none⟩ = some (.slice none 0 0) := hB6.cell 0
 have xc : w6.cell? ⟨w.heap.size + 1 + 1, 0, none⟩ = some (.int .i64 0) := hC6.cell 0
 have fb := hB6.free 0
 have fcc := hC6.free 0
 have xd : w6.cell? ⟨d, 1, none⟩ = some (.int .i64 lst) := hD6.cell 1
 have hq : ¬ lst < (p.length : Int) + 165 := by omega
 clear fc1 fc2 fc3 fc4
 rw [rounds_succ]
 go_wp2
 go_region
 go_wp2
 refine leaves_cons (f := 117) (args := #[.pointer (some ⟨w.heap.size, 0, none⟩), .pointer (some ⟨w.heap.size + 1, 0, none⟩), .pointer (some ⟨w.heap.size + 1 + 1, 0, none⟩)]) (by simp) (by simp [go_sem]) ?_
 refine (catch_idle _ _ _ _).mono ?_
 rintro e u' w'' ⟨rfl, rfl, rfl⟩
 obtain ⟨Wf, eWf⟩ : ∃ Wf, Wf = ((w6.setCell ⟨w.heap.size + 1, 0, none⟩ (.slice fa 4 fc)).setCell ⟨w.heap.size + 1 + 1, 0, none⟩ (.int .i64 0)).drew := ⟨_, rfl⟩
 rw [← eWf]
 have hBf : Blk Wf (w.heap.size + 1) 42 #[.slice fa 4 fc] := by rw [eWf];exact ((hB6.set 0 _).other (by simp) _).drew
 have hCf : Blk Wf (w.heap.size + 1 + 1) 27 #[.int .i64 0] := by rw [eWf];exact ((hC6.other (by simp) _).set 0 _).drew
 have hTf : Blk Wf t 210 #[.int .i64 0, .int .i64 0, .slice none 0 0, .int .i64 gone, .map (some m1), .map (some m2)] := by rw [eWf];exact ((hT6.other (p := ⟨w.heap.size + 1, 0, none⟩) (by show t ≠ w.heap.size + 1;omega) _).other (p := ⟨w.heap.size + 1 + 1, 0, none⟩) (by show t ≠ w.heap.size + 1 + 1;omega) _).drew
 have hof : Wf.ownsRow w.heap.size 41 3 (.slice fa 4 fc) 4 (fcells [fMethod, fScheme, fAuth, fPath p]) := by
  rw [eWf]
  have q1 := ownsRow_setCell_below (a := ⟨w.heap.size + 1, 0, none⟩) ho6 (by show w.heap.size + 1 < w.heap.size + 4;omega) (.slice fa 4 fc)
  have q2 := ownsRow_setCell_below (a := ⟨w.heap.size + 1 + 1, 0, none⟩) q1 (by show w.heap.size + 1 + 1 < w.heap.size + 4;omega) (.int .i64 0)
  exact own_dr (own_base q2 (by omega))
 have hbf : But (fun k => k = t) w Wf := by
  rw [eWf]
  refine But.drew (But.setCell (But.setCell ?_ (p := ⟨w.heap.size + 1, 0, none⟩) (.inr (by simp)) _) (p := ⟨w.heap.size + 1 + 1, 0, none⟩) (.inr (by simp;omega)) _)
  have h1 := hu2.trans (hv6.more fun k hk => (.inr (by omega) : k = t ∨ w.heap.size ≤ k))
  exact ⟨h1.os, h1.tape, h1.output, h1.size, fun i hi hS => h1.block i hi (by intro e;rcases e with e | e;exact hS e;omega)⟩
 have z1 : Wf.cell? ⟨w.heap.size + 1, 0, none⟩ = some (.slice fa 4 fc) := hBf.cell 0
 have z2 : Wf.cell? ⟨w.heap.size + 1 + 1, 0, none⟩ = some (.int .i64 0) := hCf.cell 0
 clear eWf
 simp only [Leaves, settle]
 refine ⟨.tuple #[.slice fa 4 fc, .int .i64 0], ?_, ⟨fa, fc, rfl, hof⟩, hTf, hbf⟩
 simp [results, Tryz.results88, go_sem, z1, z2]
end Go.Proofs.YtkeeofhjdffhbaaGreatDoor
namespace Go.Proofs.YtkeeofhjdffhbaaGreatDoor
open Go Go.RowKit Go.Dr
set_option maxRecDepth 100000 in
set_option maxHeartbeats 4000000 in
theorem Token_get (w : World) : Calls Tryz.prog 222 #[S [71, 69, 84]] w fun e w' => e = .returned (.bool true) ∧ w' = w := by
 go_enter Tryz.func222, Tryz.ntmps222
 go_wp2
 refine wp_loop_rounds 4 ?_
 rw [rounds_succ]
 go_wp2
 rw [rounds_succ]
 go_wp2
 rw [rounds_succ]
 go_wp2
 rw [rounds_succ]
 go_wp2
 go_ret
 exact ⟨rfl, rfl⟩
set_option maxRecDepth 100000 in
set_option maxHeartbeats 4000000 in
theorem Path_ok (p : Bytes) (hp : p = [47] ∨ p = [47, 120]) (w : World) : Calls Tryz.prog 226 #[S p, S [71, 69, 84]] w fun e w' => e = .returned (.bool true) ∧ w' = w := by
 rcases hp with rfl | rfl
 ·go_enter Tryz.func226, Tryz.ntmps226
  go_wp2
  refine wp_loop_rounds 2 ?_
  rw [rounds_succ]
  go_wp2
  rw [rounds_succ]
  go_wp2
  go_ret
  exact ⟨rfl, rfl⟩
 ·go_enter Tryz.func226, Tryz.ntmps226
  go_wp2
  refine wp_loop_rounds 3 ?_
  rw [rounds_succ]
  go_wp2
  rw [rounds_succ]
  go_wp2
  rw [rounds_succ]
  go_wp2
  go_ret
  exact ⟨rfl, rfl⟩
set_option maxRecDepth 100000 in
set_option maxHeartbeats 4000000 in
theorem Auth_h (w : World) : Calls Tryz.prog 236 #[S [104]] w fun e w' => e = .returned (.bool true) ∧ w' = w := by
 go_enter Tryz.func236, Tryz.ntmps236
 go_wp2
 refine wp_loop_rounds 2 ?_
 rw [rounds_succ]
 go_wp2
 rw [rounds_succ]
 go_wp2
 go_ret
 exact ⟨rfl, rfl⟩
set_option maxRecDepth 100000 in
set_option maxHeartbeats 4000000 in
theorem Low_h (w : World) : Calls Tryz.prog 99 #[S [104]] w fun e w' => e = .returned (S [104]) ∧ Below w.heap.size w w' := by
 obtain ⟨cap, w1, hrun, hcap, hrow, hbel, hsz⟩ := run_bytes_row (P := Tryz.prog) w 9 26 5 [104] Tryz.underlying9 Tryz.underlying26 Tryz.underlying5
 have c0 : w1.cell? ⟨w.heap.size, 0, none⟩ = some (.int .u8 104) := hrow.cell 0 (by simp)
 have hc : (convert 26 9 (.slice (some ⟨w.heap.size, 0, none⟩) 1 cap)).run Tryz.prog w1 = .ok (S [104]) w1 := run_string_row (P := Tryz.prog) w1 26 9 5 w.heap.size cap [104] Tryz.underlying26 Tryz.underlying5 Tryz.underlying9 hrow
 go_enter Tryz.func99, Tryz.ntmps99
 go_wp2
 clear hrun
 refine wp_loop_rounds 2 ?_
 rw [rounds_succ]
 go_wp2
 rw [rounds_succ]
 go_wp2
 go_ret
 exact ⟨rfl, hbel⟩
set_option maxRecDepth 100000 in
set_option maxHeartbeats 4000000 in
theorem Same_h (w : World) : Calls Tryz.prog 237 #[S [104], S [104]] w fun e w' => e = .returned (.bool true) ∧ Below w.heap.size w w' := by
 go_enter Tryz.func237, Tryz.ntmps237
 go_wp2_with fail
 refine (Low_h _).mono ?_
 rintro e w1 ⟨rfl, hb1⟩
 go_wp2_with fail
 refine (Low_h _).mono ?_
 rintro e w2 ⟨rfl, hb2⟩
 go_wp2
 go_ret
 exact ⟨rfl, hb1.trans (hb2.mono hb1.size)⟩
set_option maxRecDepth 100000 in
set_option maxHeartbeats 4000000 in
theorem Hosts_nil (w : World) : Calls Tryz.prog 227 #[.slice none 0 0] w fun e w' => e = .returned (.tuple #[.slice none 0 0, .slice none 0 0]) ∧ w' = w := by
 go_enter Tryz.func227, Tryz.ntmps227
 go_wp2
 refine wp_loop_rounds 1 ?_
 rw [rounds_succ]
 go_wp2
 go_ret2
 exact ⟨rfl, rfl⟩
set_option maxRecDepth 100000 in
set_option maxHeartbeats 4000000 in
theorem Cookies_nil (w : World) : Calls Tryz.prog 229 #[.slice none 0 0] w fun e w' => e = .returned (.slice none 0 0) ∧ w' = w := by
 go_enter Tryz.func229, Tryz.ntmps229
 go_wp2
 refine wp_loop_rounds 1 ?_
 rw [rounds_succ]
 go_wp2
 go_ret
 exact ⟨rfl, rfl⟩
set_option maxRecDepth 100000 in
set_option maxHeartbeats 4000000 in
theorem Place_h {mb : Nat} {l : List (Bytes × Bytes)} (w : World) (hm : TMp w mb l) (ha : (([58, 97, 117, 116, 104, 111, 114, 105, 116, 121] : Bytes), ([104] : Bytes)) ∈ l) :
  Calls Tryz.prog 228 #[.map (some mb), .slice none 0 0] w fun e w' => e = .returned (.tuple #[S [104], .int .i64 0]) ∧ Below w.heap.size w w' := by
 have hl : (Instr.lookup 252 (.map (some mb)) (.string ⟨#[58, 97, 117, 116, 104, 111, 114, 105, 116, 121]⟩) true).run Tryz.prog w = .ok (.tuple #[.agg #[S [104]], .bool true]) w := (TMp.inn hm (by decide) ha).1
 have hfd : ∀ w' : World, (Instr.field 256 (.agg #[S [104]]) 0).run Tryz.prog w' = .ok (S [104]) w' := fun w' => by kernel_rfl
 go_enter Tryz.func228, Tryz.ntmps228
 go_wp2
 refine wp_cut (R := fun W => (∃ t cs, Blk W (w.heap.size + 1 + 1) t cs ∧ cs[0]? = some (S [104])) ∧ Below w.heap.size w W) ⟨⟨_, _, (bnew_at _ _ _ _ (by simp)).drew, (by rw [Array.getElem?_append_left (by simp)];rfl)⟩, ((((Below.refl _ _).alloc (Nat.le_refl _) _).alloc (by simp) _).alloc (by simp;omega) _).drew⟩ ?_
 rintro W1 ⟨⟨t, cs, hC, ec⟩, hb1⟩
 have c0 : W1.cell? ⟨w.heap.size + 1 + 1, 0, none⟩ = some (S [104]) := (hC.cell 0).trans ec
 generalize (Question.appendCap 1 0 9).cut (w.tape w.drawn (Question.appendCap 1 0 9)) = cap
 refine wp_loop_rounds 2 ?_
 rw [rounds_succ]
 go_wp2_with first
  | (go_at_call 236;(with_reducible refine (Auth_h _).mono ?_);rintro e w3 ⟨rfl, e3⟩;subst e3)
  | (go_at_call 237;go_must ((with_reducible refine (Same_h _).mono ?_);rintro e w3 ⟨rfl, hb3⟩;have c3 : w3.cell? ⟨w.heap.size + 1 + 1, 0, none⟩ = some (S [104]) := ((hC.on hb3).cell 0).trans ec))
 rw [rounds_succ]
 go_wp2_with first
  | (go_at_call 99;(with_reducible refine (Low_h _).mono ?_);rintro e w4 ⟨rfl, hb4⟩)
 go_ret2
 exact ⟨rfl, (hb1.trans (hb3.mono hb1.size)).trans (hb4.mono (hb1.trans (hb3.mono hb1.size)).size)⟩
theorem putR5 {w : World} {b : Nat} {t : TypeId} {a0 a1 a2 a3 a4 : Value} (h : Blk w b t #[a0, a1, a2, a3, a4]) (x0 x1 x2 x3 x4 : Value) : Blk (((((w.setCell ⟨b, 0, none⟩ x0).setCell ⟨b, 1, none⟩ x1).setCell ⟨b, 2, none⟩ x2).setCell ⟨b, 3, none⟩ x3).setCell ⟨b, 4, none⟩ x4) b t #[x0, x1, x2, x3, x4] := ((((h.set 0 x0).set 1 x1).set 2 x2).set 3 x3).set 4 x4
abbrev nsG : List Bytes := [[58, 109, 101, 116, 104, 111, 100], [58, 115, 99, 104, 101, 109, 101], [58, 97, 117, 116, 104, 111, 114, 105, 116, 121], [58, 112, 97, 116, 104]]
abbrev fsG (p : Bytes) : List F := [fMethod, fScheme, fAuth, fPath p]
set_option maxRecDepth 100000 in
set_option maxHeartbeats 8000000 in
/-- what a request of four pseudo-fields asks -/
theorem Read_get {v : Value} (p : Bytes) (hp : p = [47] ∨ p = [47, 120]) (w : World) (h : Fs w.heap.size w v (fsG p)) :
  Calls Tryz.prog 216 #[v] w fun e w' => e = .returned (.tuple #[.agg #[S [71, 69, 84], S [104, 116, 116, 112], S [104], S p, .slice none 0 0], .int .i64 0]) ∧ Below w.heap.size w w' := by
 have hfd : ∀ (l : Bytes) (w' : World), (Instr.field 256 (.agg #[S l]) 0).run Tryz.prog w' = .ok (S l) w' := fun l w' => by kernel_rfl
 have hnn : ∀ f ∈ fsG p, f.n.head? = some 58 ∧ f.n.length ≤ 1000000 ∧ f.n ∈ nsG := by simp
 have hnd : ((fsG p).map F.n).Nodup := by simp
 have hbig : p.length ≤ 100 := by rcases hp with rfl | rfl <;> decide
 obtain ⟨W, eW⟩ : ∃ W, W = ((w.alloc (.cells #[S [], S [], S [], S [], .slice none 0 0] 82)).alloc (.cells (nsG.map S).toArray 9)) := ⟨_, rfl⟩
 have hQ : Blk W w.heap.size 82 #[S [], S [], S [], S [], .slice none 0 0] := by rw [eW];exact (bnew_at _ _ _ _ rfl).alloc _
 have hN : Blk W (w.heap.size + 1) 9 (nsG.map S).toArray := by rw [eW];exact bnew_at _ _ _ _ (by simp)
 have hb : Below w.heap.size w W := by rw [eW];exact ((Below.refl _ _).alloc (Nat.le_refl _) _).alloc (by simp) _
 have hG := Gather_any (N := 4) nsG (fsG p) v hnn hnd (by simp) W ((h.below hb).mono hb.size) rfl (by omega) hN
 go_enter Tryz.func216, Tryz.ntmps216
 go_wp2_with first
  | (go_at_call 172;go_must (rw [show (#[.string ⟨#[58, 109, 101, 116, 104, 111, 100]⟩, .string ⟨#[58, 115, 99, 104, 101, 109, 101]⟩, .string ⟨#[58, 97, 117, 116, 104, 111, 114, 105, 116, 121]⟩, .string ⟨#[58, 112, 97, 116, 104]⟩] : Array Value) = (nsG.map S).toArray from rfl, ← eW];(with_reducible refine hG.mono ?_);rintro e w2 ⟨mb, rfl, hS2, hb2⟩;have hQ2 := hQ.on hb2;have l1 : (Instr.lookup 252 (.map (some mb)) (.string ⟨#[58, 109, 101, 116, 104, 111, 100]⟩) false).run Tryz.prog w2 = .ok (.agg #[S [71, 69, 84]]) w2 := (TMp.inn hS2 (by decide) (by simp)).2;have l2 : (Instr.lookup 252 (.map (some mb)) (.string ⟨#[58, 115, 99, 104, 101, 109, 101]⟩) false).run Tryz.prog w2 = .ok (.agg #[S [104, 116, 116, 112]]) w2 := (TMp.inn hS2 (by decide) (by simp)).2;have l3 : (Instr.lookup 252 (.map (some mb)) (.string ⟨#[58, 112, 97, 116, 104]⟩) false).run Tryz.prog w2 = .ok (.agg #[S p]) w2 := (TMp.inn hS2 (by decide) (by simp)).2;obtain ⟨W3, eW3⟩ : ∃ W3, W3 = w2.alloc (.cells #[S [71, 69, 84], S [104, 116, 116, 112], S [], S p, .slice none 0 0] 82) := ⟨_, rfl⟩;have hQ3 : Blk W3 w2.heap.size 82 #[S [71, 69, 84], S [104, 116, 116, 112], S [], S p, .slice none 0 0] := (by rw [eW3];exact Blk.new _ _ _);have hb3 : Below w2.heap.size w2 W3 := (by rw [eW3];exact (Below.refl _ _).alloc (Nat.le_refl _) _);have hS3 : TMp W3 mb _ := hS2.on hb3;have r0 : W3.cell? ⟨w2.heap.size, 0, none⟩ = some (S [71, 69, 84]) := hQ3.cell 0;have r1 : W3.cell? ⟨w2.heap.size, 1, none⟩ = some (S [104, 116, 116, 112]) := hQ3.cell 1;have r3 : W3.cell? ⟨w2.heap.size, 3, none⟩ = some (S p) := hQ3.cell 3))
  | (go_at_call 222;go_must (rw [show (w2.alloc (.cells #[.string ⟨#[71, 69, 84]⟩, .string ⟨#[104, 116, 116, 112]⟩, .string ⟨#[]⟩, .string ⟨p.toArray⟩, .slice none 0 0] 82)) = W3 from eW3.symm];clear eW3;(with_reducible refine (Token_get _).mono ?_);rintro e w4 ⟨rfl, e4⟩;subst e4))
  | (go_at_call 226;(with_reducible refine (Path_ok p hp _).mono ?_);rintro e w4 ⟨rfl, e4⟩;subst e4)
  | (go_at_call 227;(with_reducible refine (Hosts_nil _).mono ?_);rintro e w4 ⟨rfl, e4⟩;subst e4)
  | (go_at_call 228;go_must ((with_reducible refine (Place_h _ hS3 (by simp)).mono ?_);rintro e w5 ⟨rfl, hb5⟩;have hQ5 := hQ3.on hb5;have s0 : w5.cell? ⟨w2.heap.size, 0, none⟩ = some (S [71, 69, 84]) := hQ5.cell 0;have s1 : w5.cell? ⟨w2.heap.size, 1, none⟩ = some (S [104, 116, 116, 112]) := hQ5.cell 1;have s2 : w5.cell? ⟨w2.heap.size, 2, none⟩ = some (S []) := hQ5.cell 2;have s3 : w5.cell? ⟨w2.heap.size, 3, none⟩ = some (S p) := hQ5.cell 3;have s4 : w5.cell? ⟨w2.heap.size, 4, none⟩ = some (.slice none 0 0) := hQ5.cell 4;have f2 := hQ5.free 2;have f4 := hQ5.free 4;have hz2 := hQ2.lt;have hZ5 := (hQ2.on hb3).on (hb5.mono (Nat.le_refl _));have z0 : w5.cell? ⟨w.heap.size, 0, none⟩ = some (S []) := hZ5.cell 0;have z1 : w5.cell? ⟨w.heap.size, 1, none⟩ = some (S []) := hZ5.cell 1;have z2 : w5.cell? ⟨w.heap.size, 2, none⟩ = some (S []) := hZ5.cell 2;have z3 : w5.cell? ⟨w.heap.size, 3, none⟩ = some (S []) := hZ5.cell 3;have z4 : w5.cell? ⟨w.heap.size, 4, none⟩ = some (.slice none 0 0) := hZ5.cell 4;have y0 := hZ5.free 0;have y1 := hZ5.free 1;have y2 := hZ5.free 2;have y3 := hZ5.free 3;have y4 := hZ5.free 4))
  | (go_at_call 122;(with_reducible refine (Length_nil _).mono ?_);rintro e w6 ⟨rfl, e6⟩;subst e6)
  | (go_at_call 229;(with_reducible refine (Cookies_nil _).mono ?_);rintro e w6 ⟨rfl, e6⟩;subst e6)
 refine bodyPost_ret (results_cell_tmp Tryz.results216 rfl rfl (run_loadVar_row _ w.heap.size 82 82 _ (0, 0) _ (putR5 ((hZ5.other (p := ⟨w2.heap.size, 2, none⟩) (by simp;omega) (S [104])).other (p := ⟨w2.heap.size, 4, none⟩) (by simp;omega) (.slice none 0 0)) _ _ _ _ _) Tryz.underlying82 (by rfl) (by kernel_rfl))) rfl ⟨rfl, ?_⟩
 have hw2 := hb.trans (hb2.mono hb.size)
 have hw5 := (hw2.trans (hb3.mono hw2.size)).trans (hb5.mono (hw2.trans (hb3.mono hw2.size)).size)
 exact ((((((hw5.setCell (p := ⟨w2.heap.size, 2, none⟩) (by simp;omega) _).setCell (p := ⟨w2.heap.size, 4, none⟩) (by simp;omega) _).setCell (p := ⟨w.heap.size, 0, none⟩) (by simp) _).setCell (p := ⟨w.heap.size, 1, none⟩) (by simp) _).setCell (p := ⟨w.heap.size, 2, none⟩) (by simp) _).setCell (p := ⟨w.heap.size, 3, none⟩) (by simp) _).setCell (p := ⟨w.heap.size, 4, none⟩) (by simp) _
end Go.Proofs.YtkeeofhjdffhbaaGreatDoor
