/- Parts of the proof of gr_root: the texts Hpk6 Hpk7 Hpk8. -/
import Derived.Test.YtlkfmhbmcicmfaaGreatDoorG12
set_option linter.unusedSimpArgs false
set_option linter.unusedVariables false
set_option linter.unnecessarySimpa false
namespace Go.Proofs.YtlkfmhbmcicmfaaGreatDoor
open Go.RowKit Go.Dr

set_option maxRecDepth 100000 in
set_option maxHeartbeats 4000000 in
/-- a field is put behind the others -/
theorem Put_any {r : Nat} {v dv hv fv : Value} {cost : Int} (l : List F) (f : F) (w : World) (base : Nat) (hR : Blk w r 224 #[dv, v, fv, .int .i64 cost, hv]) (hbr : r < base) (hbw : base ≤ w.heap.size) (ho : w.ownsRow base 41 3 fv l.length (fcells l)) (hfn : f.n.length ≤ 1048576) (hfv : f.v.length ≤ 1048576) (hc0 : 0 ≤ cost) (hc1 : cost ≤ 1099511627776) (hll : l.length ≤ 100000) :
    Calls Tryz.prog 175 #[Ptr r, .agg #[S f.n, S f.v, .bool f.m]] w fun e w' => e = .returned (.tuple #[]) ∧ ∃ a c, Blk w' r 224 #[dv, v, .slice a (l.length + 1) c, .int .i64 (cost + ((f.n.length : Int) + (f.v.length : Int) + 32)), hv] ∧ w'.ownsRow base 41 3 (.slice a (l.length + 1) c) (l.length + 1) (fcells (l ++ [f])) ∧ But (fun k => k = r ∨ base ≤ k) w w' := by
  obtain ⟨fa, fc, rfl⟩ := own_form ho
  obtain ⟨W, eW⟩ : ∃ W, W = w.alloc (.cells #[S f.n, S f.v, .bool f.m] 41) := ⟨_, rfl⟩
  have hb : Below w.heap.size w W := by rw [eW]; exact (Below.refl _ _).alloc (Nat.le_refl _) _
  have hF : Blk W w.heap.size 41 #[S f.n, S f.v, .bool f.m] := by rw [eW]; exact Blk.new _ _ _
  have hRW := hR.on hb
  have y3 : W.cell? ⟨r, 3, none⟩ = some (.int .i64 cost) := hRW.cell 3
  have f3 := hRW.free 3
  have g0 : W.cell? ⟨w.heap.size, 0, none⟩ = some (S f.n) := hF.cell 0
  have g1 : W.cell? ⟨w.heap.size, 1, none⟩ = some (S f.v) := hF.cell 1
  go_enter Tryz.func175, Tryz.ntmps175
  go_upto_region 1 with fail
  rw [← eW]
  clear eW
  go_region
  obtain ⟨W2, eW2⟩ : ∃ W2, W2 = (W.setCell ⟨r, 3, none⟩ (.int .i64 (cost + ((f.n.length : Int) + (f.v.length : Int) + 32)))).drew := ⟨_, rfl⟩
  have hrl := hR.lt
  have hWl := hF.lt
  have hWz := hb.size
  have hR2 : Blk W2 r 224 #[dv, v, .slice fa l.length fc, .int .i64 (cost + ((f.n.length : Int) + (f.v.length : Int) + 32)), hv] := by rw [eW2]; exact (hRW.set 3 _).drew
  have hF2 : Blk W2 w.heap.size 41 #[S f.n, S f.v, .bool f.m] := by rw [eW2]; exact (hF.other (p := ⟨r, 3, none⟩) (by show w.heap.size ≠ r; omega) _).drew
  have ho2 : W2.ownsRow base 41 3 (.slice fa l.length fc) l.length (fcells l) := by rw [eW2]; exact own_dr (ownsRow_setCell_below (own_below ho hb) hbr _)
  have hu2 : But (fun k => k = r ∨ base ≤ k) w W2 := by rw [eW2]; exact ((But.of_below (S := fun k => k = r ∨ base ≤ k) hb).setCell (p := ⟨r, 3, none⟩) (.inl (.inl rfl)) _).drew
  have x2 : W2.cell? ⟨r, 2, none⟩ = some (.slice fa l.length fc) := hR2.cell 2
  have x2a : ∀ ob, (W2.alloc ob).cell? ⟨r, 2, none⟩ = some (.slice fa l.length fc) := fun ob => (hR2.alloc ob).cell 2
  have k0 : W2.cell? ⟨w.heap.size, 0, none⟩ = some (S f.n) := hF2.cell 0
  have k1 : W2.cell? ⟨w.heap.size, 1, none⟩ = some (S f.v) := hF2.cell 1
  have k2 : W2.cell? ⟨w.heap.size, 2, none⟩ = some (.bool f.m) := hF2.cell 2
  have hz2 := hu2.size
  go_upto_region 2 with fail
  rw [← eW2]
  clear eW2 y3 f3 g0 g1 hRW hF ho hR
  go_region_law (refine step_of ?_ (by rfl); refine wp_appG _ _ 42 rfl base 41 (.agg #[.string ByteArray.empty, .string ByteArray.empty, .bool false]) 3 40 Tryz.underlying42 (by kernel_rfl) rfl (by decide) _ _ _ rfl (own_dr (ho2.alloc _)) _ _ _ [S f.n, S f.v, .bool f.m] rfl (Rd.drew (Rd.lit W2 41 #[S f.n, S f.v, .bool f.m] 3 1 rfl (by decide))) (by intro u hu; simp at hu; rcases hu with rfl | rfl | rfl <;> rfl) (by unfold maxLen; omega) (by omega) (by simp; omega) ?_; intro a3 c3 w3 hown3 hb3 hg3; have hR3 := (hR2.alloc (.cells #[S f.n, S f.v, .bool f.m] 41)).drew.below hb3 hbr; have z2 : w3.cell? ⟨r, 2, none⟩ = some (.slice fa l.length fc) := hR3.cell 2; have zf := hR3.free 2)
  all_goals (
    go_wp2
    go_end0
    exact ⟨rfl, a3, c3, hR3.set 2 _, (by rw [fcells_append]; exact ownsRow_setCell_below hown3 hbr _), ((hu2.trans (((But.refl (fun k => k = r ∨ base ≤ k) W2).alloc _).drew)).trans ⟨hb3.os, hb3.tape, hb3.output, hb3.size, fun i _ hS => hb3.block i (by omega)⟩).setCell (p := ⟨r, 2, none⟩) (.inl (.inl rfl)) _⟩)
end Go.Proofs.YtlkfmhbmcicmfaaGreatDoor

namespace Go.Proofs.YtlkfmhbmcicmfaaGreatDoor
open Go.RowKit Go.Dr

set_option maxRecDepth 100000 in
set_option maxHeartbeats 4000000 in
theorem Literal_row {r d t B : Nat} {v fv cv hv : Value} (k : Nat) (c : UInt8) (s rest nm vl : Bytes) (hk0 : 0 < k) (hk1 : k < 15) (hbt : Go.bits .and .i64 (c.toNat : Int) ((2 ^ 4 - 1 : Nat) : Int) = (k : Int)) (hs : s.length < 127) (w : World)
    (hR : Blk w r 224 #[Ptr d, v, fv, cv, hv]) (h : By B w v (c :: UInt8.ofNat s.length :: (s ++ rest))) (hBr : B ≤ r) (hd : w.cell? ⟨d, 2, none⟩ = some (Ptr t)) (hdl : d < w.heap.size) (hdr : d ≠ r)
    (hRow : ∀ w : World, w.cell? ⟨r, 0, none⟩ = some (Ptr d) → w.cell? ⟨d, 2, none⟩ = some (Ptr t) → r < w.heap.size → d < w.heap.size → Calls Tryz.prog 176 #[Ptr r, .int .i64 (k : Int)] w fun e w' => e = .returned (.agg #[S nm, S vl, .bool false]) ∧ Below w.heap.size w w') :
    Calls Tryz.prog 178 #[Ptr r, .int .i64 4, .bool false] w fun e w' => e = .returned (.agg #[S nm, S s, .bool false]) ∧ (∃ v', Blk w' r 224 #[Ptr d, v', fv, cv, hv] ∧ By B w' v' rest) ∧ But (fun k => k = r) w w' := by
  have hb0 := (Below.refl w.heap.size w).alloc (Nat.le_refl _) (.cells #[S [], S [], .bool false] 41)
  have hO := Blk.new w 41 #[S [], S [], .bool false]
  have hrl := hR.lt
  have hN := Number_byte 4 k c _ (.inl rfl) hbt (by show k + 1 < 16; omega) _ (hR.on hb0) (h.below (hb0.mono (show B ≤ w.heap.size by omega))) hBr
  have hk0' : (0 : Int) < (k : Int) := by omega
  have hfd : ∀ w' : World, (Instr.field 41 (.agg #[S nm, S vl, .bool false]) 0).run Tryz.prog w' = .ok (S nm) w' := fun w' => by kernel_rfl
  clear h
  go_enter Tryz.func178, Tryz.ntmps178
  go_wp2_with fail
  refine hN.mono ?_
  rintro e w1 ⟨rfl, ⟨v1, hR1, hB1⟩, hb1⟩
  have hO1 := hO.but hb1 (by show w.heap.size ≠ r; omega)
  have hd1 : w1.cell? ⟨d, 2, none⟩ = some (Ptr t) := by
    rw [← hd]
    simp only [World.cell?, hb1.block d (Nat.lt_of_lt_of_le hdl hb0.size) hdr, hb0.block d hdl]
  have hz1 := hb1.size
  have hz0 := hb0.size
  have hsz : w.heap.size + 1 ≤ w1.heap.size := by have := hz1; simp at this; omega
  have nO : w.heap.size ≠ w1.heap.size := by omega
  have nO' : w1.heap.size ≠ w.heap.size := by omega
  have nR : w.heap.size ≠ r := by omega
  clear hN
  go_wp2_with fail
  have hrl1 := hR1.lt
  have hb2 := (Below.refl w1.heap.size w1).alloc (Nat.le_refl _) (.cells #[S [], S [], .bool false] 41)
  have hF2 := Blk.new w1 41 #[S [], S [], .bool false]
  have hd2 : (w1.alloc (.cells #[S [], S [], .bool false] 41)).cell? ⟨d, 2, none⟩ = some (Ptr t) := by
    rw [hb2.cell (p := ⟨d, 2, none⟩) (by show d < _; omega)]
    exact hd1
  have hz2 := hb2.size
  refine (hRow _ ((hR1.on hb2).cell 0) hd2 (hR1.on hb2).lt (by omega)).mono ?_
  rintro e w3 ⟨rfl, hb3⟩
  have hF3 := hF2.on hb3
  have hO3 := (hO1.on hb2).on hb3
  have hR3 := (hR1.on hb2).on hb3
  have hz3 := hb3.size
  have hB3 : By B w3 v1 (UInt8.ofNat s.length :: (s ++ rest)) := (hB1.below (hb2.mono (by omega))).below (hb3.mono (by omega))
  have q0 : w3.cell? ⟨w1.heap.size, 0, none⟩ = some (S []) := hF3.cell 0
  have p0 := hF3.free 0
  have nF : w1.heap.size ≠ r := by omega
  have hR4 := hR3.other (p := ⟨w1.heap.size, 0, none⟩) (fun e => nF e.symm) (S nm)
  have hB4 : By B (w3.setCell ⟨w1.heap.size, 0, none⟩ (S nm)) v1 (UInt8.ofNat s.length :: (s ++ rest)) := hB3.below ((Below.refl B w3).setCell (p := ⟨w1.heap.size, 0, none⟩) (by show B ≤ w1.heap.size; omega) _)
  have hT := Text_raw s rest hs _ hR4 hB4 hBr
  go_wp2_with fail
  refine hT.mono ?_
  rintro e w5 ⟨rfl, ⟨v5, hR5, hB5⟩, hb5⟩
  have hF5 : Blk w5 w1.heap.size 41 #[S nm, S [], .bool false] := (hF3.set 0 (S nm)).but hb5 nF
  have hO5 := (hO3.other (p := ⟨w1.heap.size, 0, none⟩) (by show w.heap.size ≠ w1.heap.size; omega) (S nm)).but hb5 (by show w.heap.size ≠ r; omega)
  have u0 : w5.cell? ⟨w1.heap.size, 0, none⟩ = some (S nm) := hF5.cell 0
  have u1 : w5.cell? ⟨w1.heap.size, 1, none⟩ = some (S []) := hF5.cell 1
  have u2 : w5.cell? ⟨w1.heap.size, 2, none⟩ = some (.bool false) := hF5.cell 2
  have x1 := hF5.free 1
  have x2 := hF5.free 2
  have o0 : w5.cell? ⟨w.heap.size, 0, none⟩ = some (S []) := hO5.cell 0
  have o1 : w5.cell? ⟨w.heap.size, 1, none⟩ = some (S []) := hO5.cell 1
  have o2 : w5.cell? ⟨w.heap.size, 2, none⟩ = some (.bool false) := hO5.cell 2
  have y0 := hO5.free 0
  have y1 := hO5.free 1
  have y2 := hO5.free 2
  clear hT
  go_wp2
  have hOf := ((((hO5.other (p := ⟨w1.heap.size, 1, none⟩) nO (S s)).other (p := ⟨w1.heap.size, 2, none⟩) nO (.bool false)).set 0 (S nm)).set 1 (S s)).set 2 (.bool false)
  have hRf := ((((hR5.other (p := ⟨w1.heap.size, 1, none⟩) (fun e => nF e.symm) (S s)).other (p := ⟨w1.heap.size, 2, none⟩) (fun e => nF e.symm) (.bool false)).other (p := ⟨w.heap.size, 0, none⟩) (fun e => nR e.symm) (S nm)).other (p := ⟨w.heap.size, 1, none⟩) (fun e => nR e.symm) (S s)).other (p := ⟨w.heap.size, 2, none⟩) (fun e => nR e.symm) (.bool false)
  have hz5 := hb5.size
  have hB : B ≤ w.heap.size := by omega
  have hB1' : B ≤ w1.heap.size := by omega
  have hBl := (((((Below.refl B w5).setCell (p := ⟨w1.heap.size, 1, none⟩) hB1' (S s)).setCell (p := ⟨w1.heap.size, 2, none⟩) hB1' (.bool false)).setCell (p := ⟨w.heap.size, 0, none⟩) hB (S nm)).setCell (p := ⟨w.heap.size, 1, none⟩) hB (S s)).setCell (p := ⟨w.heap.size, 2, none⟩) hB (.bool false)
  refine bodyPost_ret (results_cell1 Tryz.results178 rfl (run_loadVar_row _ w.heap.size 41 41 _ (0, 0) _ hOf Tryz.underlying41 (by rfl) (by kernel_rfl))) rfl ⟨rfl, ⟨v5, hRf, hB5.below hBl⟩, ?_⟩
  have e0 : But (fun k => k = r) w w1 := (But.of_below hb0).trans hb1
  have e3 : But (fun k => k = r) w w3 := (e0.trans (But.of_below hb2)).trans (But.of_below hb3)
  have l1 : w.heap.size ≤ w1.heap.size := by omega
  have e5 := (e3.setCell (p := ⟨w1.heap.size, 0, none⟩) (.inr l1) (S nm)).trans hb5
  exact ((((e5.setCell (p := ⟨w1.heap.size, 1, none⟩) (.inr l1) (S s)).setCell (p := ⟨w1.heap.size, 2, none⟩) (.inr l1) (.bool false)).setCell (p := ⟨w.heap.size, 0, none⟩) (.inr (Nat.le_refl _)) (S nm)).setCell (p := ⟨w.heap.size, 1, none⟩) (.inr (Nat.le_refl _)) (S s)).setCell (p := ⟨w.heap.size, 2, none⟩) (.inr (Nat.le_refl _)) (.bool false)
end Go.Proofs.YtlkfmhbmcicmfaaGreatDoor

namespace Go.Proofs.YtlkfmhbmcicmfaaGreatDoor
open Go Go.RowKit Go.Dr

/-- a reader: what is left, what it read -/
def RS (w : World) (r d B base : Nat) (bs : Bytes) (l : List F) (cost ch : Int) : Prop :=
  ∃ v fv, Blk w r 224 #[Ptr d, v, fv, .int .i64 cost, .int .i64 ch] ∧ By B w v bs ∧ w.ownsRow base 41 3 fv l.length (fcells l)

set_option maxRecDepth 100000 in
set_option maxHeartbeats 4000000 in
/-- nothing goes of a table that is empty -/
theorem Shrink_empty {t : Nat} {most gone : Int} {a b : Value} (n : Int) (hn : 0 ≤ n) (w : World) (h : Blk w t 215 #[.int .i64 most, .int .i64 0, .slice none 0 0, .int .i64 gone, a, b]) :
    Calls Tryz.prog 212 #[Ptr t, .int .i64 n] w fun e w' => e = .returned (.tuple #[]) ∧ w' = w := by
  have y1 : w.cell? ⟨t, 1, none⟩ = some (.int .i64 0) := h.cell 1
  have hq : ¬ n < 0 := by omega
  go_enter Tryz.func212, Tryz.ntmps212
  go_wp2
  refine wp_loop_rounds 1 ?_
  rw [rounds_succ]
  go_wp2
  go_end0
  exact ⟨rfl, rfl⟩
set_option maxRecDepth 100000 in
set_option maxHeartbeats 4000000 in
theorem Resize_empty {t : Nat} {most gone : Int} {a b : Value} (n : Int) (hn : 0 ≤ n) (hn2 : n ≤ 65536) (w : World) (h : Blk w t 215 #[.int .i64 most, .int .i64 0, .slice none 0 0, .int .i64 gone, a, b]) :
    Calls Tryz.prog 213 #[Ptr t, .int .i64 n] w fun e w' => e = .returned (.int .i64 0) ∧ w' = w.setCell ⟨t, 0, none⟩ (.int .i64 n) := by
  have y0 : w.cell? ⟨t, 0, none⟩ = some (.int .i64 most) := h.cell 0
  have f0 := h.free 0
  have hs := Shrink_empty n hn _ (h.set 0 (.int .i64 n))
  have hq : ¬ n < 0 := by omega
  have hq2 : ¬ 65536 < n := by omega
  go_enter Tryz.func213, Tryz.ntmps213
  go_wp2_with (go_at_call 212; (with_reducible refine hs.mono ?_); rintro e w2 ⟨rfl, e2⟩; subst e2)
  go_ret
  exact ⟨rfl, rfl⟩
set_option maxRecDepth 100000 in
set_option maxHeartbeats 4000000 in
/-- a change of size to nothing -/
theorem resize_zero {r d t B base : Nat} {tab lst most gone : Int} {a b : Value} {bk : Bool} (rest : Bytes) (w : World) (hS : RS w r d B base (32 :: rest) [] 0 0) (hBr : B ≤ r) (hbr : r < base) (hD : Blk w d 169 #[.int .i64 tab, .int .i64 lst, Ptr t, .bool bk]) (hT : Blk w t 215 #[.int .i64 most, .int .i64 0, .slice none 0 0, .int .i64 gone, a, b]) (hdr : d ≠ r) (htr : t ≠ r) (htB : t < base) (htab : 0 ≤ tab) (htd : t ≠ d) (hdt : ∀ (w' : World) (v : Value), Blk w' t 215 #[.int .i64 most, .int .i64 0, .slice none 0 0, .int .i64 gone, a, b] → By B w' v rest → By B (w'.setCell ⟨t, 0, none⟩ (.int .i64 0)) v rest) :
    Calls Tryz.prog 180 #[Ptr r] w fun e w' => e = .returned (.tuple #[]) ∧ RS w' r d B base rest [] 0 1 ∧ Blk w' t 215 #[.int .i64 0, .int .i64 0, .slice none 0 0, .int .i64 gone, a, b] ∧ But (fun k => k = r ∨ k = t) w w' := by
  obtain ⟨v, fv, hR, hB, ho⟩ := hS
  obtain ⟨fa, fc, rfl⟩ := own_form ho
  have hN := Number_byte 5 0 32 rest (.inr (.inl rfl)) (by decide) (by decide) w hR hB hBr
  go_enter Tryz.func180, Tryz.ntmps180
  go_upto_region 1 with (go_at_call 177; refine hN.mono ?_; rintro e w2 ⟨rfl, ⟨v2, hR2, hB2⟩, hb2⟩; have y4 : w2.cell? ⟨r, 4, none⟩ = some (.int .i64 0) := hR2.cell 4; have f4 := hR2.free 4)
  have hD2 := hD.but hb2 (fun e => hdr e)
  have hT2 := hT.but hb2 (fun e => htr e)
  go_upto_region 2 with fail
  have hbs : Below r w2 (w2.setCell ⟨r, 4, none⟩ (.int .i64 1)) := (Below.refl r w2).setCell (p := ⟨r, 4, none⟩) (Nat.le_refl _) _
  refine wp_cut (R := fun W => Blk W r 224 #[Ptr d, v2, .slice fa 0 fc, .int .i64 0, .int .i64 1] ∧ By B W v2 rest ∧ Blk W d 169 #[.int .i64 tab, .int .i64 lst, Ptr t, .bool bk] ∧ Blk W t 215 #[.int .i64 most, .int .i64 0, .slice none 0 0, .int .i64 gone, a, b] ∧ But (fun k => k = r) w W ∧ W.ownsRow base 41 3 (.slice fa 0 fc) 0 []) ⟨hR2.set 4 _, hB2.below (hbs.mono hBr), hD2.other (by show d ≠ r; exact hdr) _, hT2.other (by show t ≠ r; exact htr) _, hb2.setCell (p := ⟨r, 4, none⟩) (.inl rfl) _, ownsRow_setCell_below (own_same ho fun g hg => hb2.block g (own_lt ho hg).2 (by have := (own_lt ho hg).1; rintro rfl; omega)) hbr _⟩ ?_
  clear hb2 hR2 hB2 hD2 hT2 hbs y4 f4 hN w2
  rintro W ⟨hR3, hB3, hD3, hT3, hb3, ho3⟩
  have x2 : W.cell? ⟨r, 2, none⟩ = some (.slice fa 0 fc) := hR3.cell 2
  have x4 : W.cell? ⟨r, 4, none⟩ = some (.int .i64 1) := hR3.cell 4
  have x0 : W.cell? ⟨r, 0, none⟩ = some (Ptr d) := hR3.cell 0
  have z0 : W.cell? ⟨d, 0, none⟩ = some (.int .i64 tab) := hD3.cell 0
  have z2 : W.cell? ⟨d, 2, none⟩ = some (Ptr t) := hD3.cell 2
  have hq : ¬ tab < 0 := by omega
  have hRe := Resize_empty 0 (by decide) (by decide) W hT3
  go_wp2_with (go_at_call 213; (with_reducible refine hRe.mono ?_); rintro e w5 ⟨rfl, e5⟩; subst e5)
  go_end0
  exact ⟨rfl, ⟨v2, .slice fa 0 fc, hR3.other (by show r ≠ t; exact htr.symm) _, hdt _ _ hT3 hB3, ownsRow_setCell_below ho3 htB _⟩, hT3.set 0 _, (hb3.more (fun _ h => .inl h)).setCell (p := ⟨t, 0, none⟩) (.inl (.inr rfl)) _⟩

/-- bytes stay where another block's cell turns -/
theorem By.off {B : Nat} {w : World} {v : Value} {bs : Bytes} (h : By B w v bs) {t : Nat} {T : TypeId} {xs : Array Value} (hT : Blk w t T xs) (hx : ∀ (j : Nat) (c : UInt8), xs[j]? ≠ some (B8 c)) (k : Nat) (u : Value) : By B (w.setCell ⟨t, k, none⟩ u) v bs := by
  obtain ⟨a, cap, h1, h2, h3, h4, h5, h6⟩ := h
  refine ⟨a, cap, h1, h2, h3, h4, h5, fun j y hy => ?_⟩
  obtain ⟨b, off, e1, e2, e3⟩ := h6 j y hy
  refine ⟨b, off, e1, e2, ?_⟩
  have hne : b ≠ t := fun e => by
    subst e
    have hc := hT.cell (off + j)
    rw [e3] at hc
    obtain ⟨c, -, rfl⟩ := List.mem_map.1 (List.mem_of_getElem? hy)
    exact hx _ c hc.symm
  rw [← e3]
  simp only [World.cell?, Below.heap_setCell w ⟨t, k, none⟩ u b hne]

/-- how many bytes a field counts -/
def fcost (f : F) : Int := (f.n.length : Int) + (f.v.length : Int) + 32
set_option maxRecDepth 100000 in
set_option maxHeartbeats 4000000 in
/-- the first byte that is left -/
theorem RS.head {w : World} {r d B base : Nat} {c : UInt8} {rest : Bytes} {l : List F} {cost ch : Int} (h : RS w r d B base (c :: rest) l cost ch) : ∃ b off cv, w.cell? ⟨r, 1, none⟩ = some (.slice (some ⟨b, off, none⟩) (c :: rest).length cv) ∧ w.cell? ⟨b, off, none⟩ = some (.int .u8 (c.toNat : Int)) ∧ (c :: rest).length ≤ 9223372036854775807 := by
  obtain ⟨v, fv, hR, hB, ho⟩ := h
  obtain ⟨av, cv, rfl, hcv, hcm⟩ := hB.form
  obtain ⟨b, off, rfl, hb, x0⟩ := hB.at 0 (by simp)
  exact ⟨b, off, cv, hR.cell 1, x0, by omega⟩
set_option maxRecDepth 100000 in
set_option maxHeartbeats 4000000 in
/-- a part that is a row's number -/
theorem Part_row {r d t B base : Nat} {cost ch : Int} (k : Nat) (c : UInt8) (rest : Bytes) (l : List F) (f : F) (hc : 128 ≤ c.toNat) (hbt : Go.bits .and .i64 (c.toNat : Int) ((2 ^ 7 - 1 : Nat) : Int) = (k : Int)) (hk : k + 1 < 128) (w : World) (hS : RS w r d B base (c :: rest) l cost ch) (hBr : B ≤ r) (hbr : r < base) (hbw : base ≤ w.heap.size) (hd : w.cell? ⟨d, 2, none⟩ = some (Ptr t)) (hdl : d < w.heap.size) (hdr : d ≠ r) (hfn : f.n.length ≤ 1048576) (hfv : f.v.length ≤ 1048576) (hc0 : 0 ≤ cost) (hc1 : cost ≤ 1099511627776) (hll : l.length ≤ 100000)
    (hRow : ∀ w : World, w.cell? ⟨r, 0, none⟩ = some (Ptr d) → w.cell? ⟨d, 2, none⟩ = some (Ptr t) → r < w.heap.size → d < w.heap.size → Calls Tryz.prog 176 #[Ptr r, .int .i64 (k : Int)] w fun e w' => e = .returned (.agg #[S f.n, S f.v, .bool f.m]) ∧ Below w.heap.size w w') :
    Calls Tryz.prog 129 #[Ptr r] w fun e w' => e = .returned (.tuple #[]) ∧ RS w' r d B base rest (l ++ [f]) (cost + fcost f) ch ∧ But (fun k => k = r ∨ base ≤ k) w w' := by
  obtain ⟨b, off, cv, y1, x0, hlen⟩ := hS.head
  obtain ⟨v, fv, hR, hB, ho⟩ := hS
  have hN := Number_byte 7 k c rest (.inr (.inr (.inr rfl))) hbt hk w hR hB hBr
  have hcc : (128 : Int) ≤ (c.toNat : Int) := by omega
  have hlz : (0 : Int) < ((c :: rest).length : Int) := by simp
  clear hB
  go_enter Tryz.func129, Tryz.ntmps129
  go_wp2_with first
    | (go_at_call 177; refine hN.mono ?_; rintro e w2 ⟨rfl, ⟨v2, hR2, hB2⟩, hb2⟩; have p0 : w2.cell? ⟨r, 0, none⟩ = some (Ptr d) := hR2.cell 0; have p2 : w2.cell? ⟨d, 2, none⟩ = some (Ptr t) := (by rw [← hd]; simp only [World.cell?, hb2.block d hdl hdr]); have hRw := hRow w2 p0 p2 hR2.lt (Nat.lt_of_lt_of_le hdl hb2.size); have ho2 := own_same ho (fun g hg => hb2.block g (own_lt ho hg).2 (fun e => by have := (own_lt ho hg).1; have e' : g = r := e; omega)))
    | (go_at_call 176; (with_reducible refine hRw.mono ?_); rintro e w3 ⟨rfl, hb3⟩; have hR3 := hR2.on hb3; have hz3 := hb3.size; have hz2 := hb2.size; have ho3 := own_below ho2 hb3; have hB3 := hB2.below (hb3.mono (show B ≤ w2.heap.size by omega)); have hPut := Put_any l f w3 base hR3 hbr (by omega) ho3 hfn hfv hc0 hc1 hll)
    | (go_at_call 175; (with_reducible refine hPut.mono ?_); rintro e w4 ⟨rfl, a4, c4, hR4, ho4, hb4⟩)
  go_end0
  refine ⟨rfl, ⟨v2, _, hR4, hB3.below (hb4.below (fun k hk => by omega) (show B ≤ w3.heap.size by omega)), by rw [List.length_append]; exact ho4⟩, ((hb2.more (fun _ h => .inl h)).trans (But.of_below hb3)).trans hb4⟩
set_option maxRecDepth 100000 in
set_option maxHeartbeats 4000000 in
/-- a part that is a name's number and a value -/
theorem Part_lit {r d t B base : Nat} {cost ch : Int} (k : Nat) (c : UInt8) (s rest nm vl : Bytes) (l : List F) (hk0 : 0 < k) (hk1 : k < 15) (hc : c.toNat < 16) (hbt : Go.bits .and .i64 (c.toNat : Int) ((2 ^ 4 - 1 : Nat) : Int) = (k : Int)) (hs : s.length < 127) (w : World) (hS : RS w r d B base (c :: UInt8.ofNat s.length :: (s ++ rest)) l cost ch) (hBr : B ≤ r) (hbr : r < base) (hbw : base ≤ w.heap.size) (hd : w.cell? ⟨d, 2, none⟩ = some (Ptr t)) (hdl : d < w.heap.size) (hdr : d ≠ r) (hfn : nm.length ≤ 1048576) (hc0 : 0 ≤ cost) (hc1 : cost ≤ 1099511627776) (hll : l.length ≤ 100000)
    (hRow : ∀ w : World, w.cell? ⟨r, 0, none⟩ = some (Ptr d) → w.cell? ⟨d, 2, none⟩ = some (Ptr t) → r < w.heap.size → d < w.heap.size → Calls Tryz.prog 176 #[Ptr r, .int .i64 (k : Int)] w fun e w' => e = .returned (.agg #[S nm, S vl, .bool false]) ∧ Below w.heap.size w w') :
    Calls Tryz.prog 129 #[Ptr r] w fun e w' => e = .returned (.tuple #[]) ∧ RS w' r d B base rest (l ++ [⟨nm, s, false⟩]) (cost + fcost ⟨nm, s, false⟩) ch ∧ But (fun k => k = r ∨ base ≤ k) w w' := by
  obtain ⟨b, off, cv, y1, x0, hlen⟩ := hS.head
  obtain ⟨v, fv, hR, hB, ho⟩ := hS
  have hL := Literal_row k c s rest nm vl hk0 hk1 hbt hs w hR hB hBr hd hdl hdr hRow
  have hc1' : ¬ (128 : Int) ≤ (c.toNat : Int) := by omega
  have hc2' : ¬ (64 : Int) ≤ (c.toNat : Int) := by omega
  have hc3' : ¬ (32 : Int) ≤ (c.toNat : Int) := by omega
  have hc4' : ¬ (16 : Int) ≤ (c.toNat : Int) := by omega
  have hlz : (0 : Int) < ((c :: UInt8.ofNat s.length :: (s ++ rest)).length : Int) := by simp <;> omega
  clear hB
  go_enter Tryz.func129, Tryz.ntmps129
  go_wp2_with first
    | (go_at_call 178; (with_reducible refine hL.mono ?_); rintro e w2 ⟨rfl, ⟨v2, hR2, hB2⟩, hb2⟩; have hz2 := hb2.size; have ho2 := own_same ho (fun g hg => hb2.block g (own_lt ho hg).2 (fun e => by have := (own_lt ho hg).1; have e' : g = r := e; omega)); have hPut := Put_any l ⟨nm, s, false⟩ w2 base hR2 hbr (by omega) ho2 hfn (by show s.length ≤ _; omega) hc0 hc1 hll)
    | (go_at_call 175; (with_reducible refine hPut.mono ?_); rintro e w4 ⟨rfl, a4, c4, hR4, ho4, hb4⟩)
  go_end0
  refine ⟨rfl, ⟨v2, _, hR4, hB2.below (hb4.below (fun k hk => by omega) (show B ≤ w2.heap.size by omega)), by rw [List.length_append]; exact ho4⟩, (hb2.more (fun _ h => .inl h)).trans hb4⟩
set_option maxRecDepth 100000 in
set_option maxHeartbeats 4000000 in
/-- a part that is a change of size to nothing -/
theorem Part_zero {r d t B base : Nat} {tab lst most gone : Int} {a b : Value} {bk : Bool} (rest : Bytes) (w : World) (hS : RS w r d B base (32 :: rest) [] 0 0) (hBr : B ≤ r) (hbr : r < base) (hD : Blk w d 169 #[.int .i64 tab, .int .i64 lst, Ptr t, .bool bk]) (hT : Blk w t 215 #[.int .i64 most, .int .i64 0, .slice none 0 0, .int .i64 gone, a, b]) (hdr : d ≠ r) (htr : t ≠ r) (htB : t < base) (htab : 0 ≤ tab) (htd : t ≠ d) (hdt : ∀ (w' : World) (v : Value), Blk w' t 215 #[.int .i64 most, .int .i64 0, .slice none 0 0, .int .i64 gone, a, b] → By B w' v rest → By B (w'.setCell ⟨t, 0, none⟩ (.int .i64 0)) v rest) :
    Calls Tryz.prog 129 #[Ptr r] w fun e w' => e = .returned (.tuple #[]) ∧ RS w' r d B base rest [] 0 1 ∧ Blk w' t 215 #[.int .i64 0, .int .i64 0, .slice none 0 0, .int .i64 gone, a, b] ∧ But (fun k => k = r ∨ k = t) w w' := by
  have hZ := resize_zero rest w hS hBr hbr hD hT hdr htr htB htab htd hdt
  obtain ⟨b, off, cv, y1, x0', hlen⟩ := hS.head
  have x0 : w.cell? ⟨b, off, none⟩ = some (.int .u8 32) := x0'
  have hlz : (0 : Int) < ((32 :: rest).length : Int) := by simp
  clear hS x0'
  go_enter Tryz.func129, Tryz.ntmps129
  go_wp2_with (go_at_call 180; (with_reducible refine hZ.mono ?_); rintro e w2 ⟨rfl, h1, h2, h3⟩)
  go_end0
  exact ⟨rfl, h1, h2, h3⟩
end Go.Proofs.YtlkfmhbmcicmfaaGreatDoor

