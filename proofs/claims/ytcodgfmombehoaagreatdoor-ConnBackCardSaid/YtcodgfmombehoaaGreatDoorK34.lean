/- Parts of the proof of bk_root: the texts Rtk1 Rtk0 Rtk2. -/
import Derived.Test.YtcodgfmombehoaaGreatDoorK21
set_option linter.unusedSimpArgs false
set_option linter.unusedVariables false
set_option linter.unnecessarySimpa false
set_option maxRecDepth 100000
set_option maxHeartbeats 64000000
namespace Go.Proofs.YtcodgfmombehoaaGreatDoor
open Go.RowKit Go.Dr
theorem rTake_any {B : Nat} (l : Bytes) (v : Value) (k n : Nat) (w : World) (h : By B w v l) (hn : 1 ≤ n) (hn4 : n ≤ 4) (hk : k + n ≤ l.length) :
  Calls Tryz.prog 106 #[v, .int .i64 (k : Int), .int .i64 (n : Int)] w fun e w' => e = .returned (.tuple #[.int .u32 (beN ((l.drop k).take n) : Nat), .int .i64 0]) ∧ w' = w := by
 obtain ⟨a, cap, rfl, hc, hcm⟩ := h.form;obtain ⟨m, em⟩ : ∃ m, m = (l.drop k).take n := ⟨_, rfl⟩;have eml : m.length = n := (by rw [em, List.length_take, List.length_drop];omega);have emg : ∀ (j : Nat) (h1 : j < m.length) (h2 : k + j < l.length), m[j] = l[k + j] := fun j h1 h2 => by subst em;simp
 rw [← em];have t1 : decide ((n : Int) < 1) = false := (by simp;omega);have t2 : decide ((4 : Int) < (n : Int)) = false := (by simp;omega);have t3 : decide ((k : Int) < 0) = false := (by simp);have EML := Lib.hid eml;have EMG := Lib.hid emg;clear em emg eml;go_enter Tryz.func106, Tryz.ntmps106
 go_wp2
 go_loopw [8, 9] (fun s i wr => ∃ j : Nat, j ≤ n ∧ i = .int .i64 (j : Int) ∧ s = .int .u32 (beN (m.take j) : Nat) ∧ wr = w) (fun s i _ => n - (intOf i).toNat)
 case atStart => exact ⟨0, Nat.zero_le _, rfl, rfl, rfl⟩
 case round =>
  obtain ⟨j, hj, rfl, rfl, rfl⟩ := hrel;by_cases hlt : j < n
  ·have hjm : j < m.length := by rw [EML.out];exact hlt
   obtain ⟨b, off, ea, hb, c0⟩ := h.at (k + j) (by omega);rw [ea];have hs := beN_take m j hjm;rw [EMG.out j hjm (by omega)] at hs
   have h3 : beN (m.take j) < 16777216 := by
    refine Nat.lt_of_lt_of_le (beN_lt _) ?_;rw [List.length_take, Nat.min_eq_left (by omega)];exact Nat.pow_le_pow_right (j := 3) (by decide) (by omega)
   have t4 : decide ((l.length : Int) - (j : Int) ≤ (k : Int)) = false := (by simp;omega);have hbn := (l[k + j]'(by omega)).toNat_lt;have eadd : (((beN (m.take j) : Nat) : Int) * 256 + ((l[k + j]'(by omega)).toNat : Int) % 4294967296) % 4294967296 = ((beN (m.take (j + 1)) : Nat) : Int) := (by rw [hs];omega);clear hs hbn;go_wp2
   go_roundw
   case rel => exact ⟨j + 1, by omega, by go_num, by rw [eadd], trivial⟩
   case measure => simp [intOf];omega
  ·obtain rfl : j = n := by omega
   rw [List.take_of_length_le (by rw [EML.out];omega)];go_wp2;go_ret2;exact ⟨rfl, rfl⟩
theorem rAt_any {B : Nat} (l : Bytes) (v : Value) (k n : Nat) (w : World) (h : By B w v l) (hn : 1 ≤ n) (hn4 : n ≤ 4) (hk : k + n ≤ l.length) :
  Calls Tryz.prog 70 #[v, .int .i64 (k : Int), .int .i64 (n : Int)] w fun e w' => e = .returned (.int .i64 (beN ((l.drop k).take n) : Nat)) ∧ w' = w := by
 have hT := rTake_any l v k n w h hn hn4 hk
 have hlt : beN ((l.drop k).take n) < 4294967296 := by
  refine Nat.lt_of_lt_of_le (beN_lt _) ?_;exact Nat.pow_le_pow_right (j := 4) (by decide) (by rw [List.length_take];omega)
 obtain ⟨m, em⟩ : ∃ m, m = beN ((l.drop k).take n) := ⟨_, rfl⟩;rw [← em] at hT hlt ⊢;clear em;go_enter Tryz.func70, Tryz.ntmps70
 go_wp2_with (go_at_call 106;(with_reducible refine hT.mono ?_);rintro e w' ⟨rfl, rfl⟩)
 go_ret;exact ⟨by first | rfl | (simp;done) | (simp;omega), rfl⟩
open Go Go.RowKit Go.Dr
theorem post_cut {Q : Exit → Act → World → Prop} {e : Exit} {a : Act} {W : World} (R : World → Prop) (hR : R W) (h : ∀ W', R W' → Q e a W') : Q e a W := h W hR
def RTk (l : Bytes) (f : Fr) : Prop := ∀ (rest : Bytes) (v : Value) (w : World), By w.heap.size w v (l ++ rest) → Calls Tryz.prog 36 #[v, .int .i64 16384] w fun e w' => ∃ vs, e = .returned (.tuple #[.agg #[.int .i64 (f.ty : Nat), .int .i64 (f.fl : Nat), .int .i64 (f.st : Nat), S f.data, .int .i64 (f.pad : Nat), vs, .int .i64 (f.code : Nat), .int .i64 (f.last : Nat), .int .i64 (f.inc : Nat), .int .i64 (f.dep : Nat), .int .i64 (f.wt : Nat), .bool f.sole], .int .i64 (l.length : Nat), .agg #[.bool false, .int .i64 0, .int .i64 0]]) ∧ w'.ownsRow w.heap.size 33 2 vs f.sets.length (scells f.sets) ∧ Below w.heap.size w w'
theorem frB_at (ty fl st : Nat) (pl rest : Bytes) (hty : ty < 256) (hfl : fl < 256) (hst : st < 2147483648) (hpl : pl.length < 16777216) :
  (frB ty fl st pl ++ rest).length = 9 + pl.length + rest.length ∧ beN (((frB ty fl st pl ++ rest).drop 0).take 3) = pl.length ∧ beN (((frB ty fl st pl ++ rest).drop 5).take 4) = st ∧
  (∀ h : 3 < (frB ty fl st pl ++ rest).length, B8 (frB ty fl st pl ++ rest)[3] = .int .u8 (ty : Int)) ∧ (∀ h : 4 < (frB ty fl st pl ++ rest).length, B8 (frB ty fl st pl ++ rest)[4] = .int .u8 (fl : Int)) ∧ ((frB ty fl st pl ++ rest).take (9 + pl.length)).drop 9 = pl := by
 refine ⟨by rw [List.length_append, frB_length], ?_, ?_, ?_, ?_, ?_⟩
 ·have e3 : ((frB ty fl st pl ++ rest).drop 0).take 3 = beP pl.length 3 := by simp [frB, beP]
  rw [e3, beN_beP3 _ hpl]
 ·have : ((frB ty fl st pl ++ rest).drop 5).take 4 = beP st 4 := by simp [frB, beP]
  rw [this, beN_beP4 _ (by omega)]
 ·intro h
  have : (frB ty fl st pl ++ rest)[3] = UInt8.ofNat ty := (by simp [frB, beP])
  rw [this];simp [B8]
  omega
 ·intro h
  have : (frB ty fl st pl ++ rest)[4] = UInt8.ofNat fl := (by simp [frB, beP])
  rw [this];simp [B8]
  omega
 ·have e1 : (frB ty fl st pl ++ rest).take (9 + pl.length) = frB ty fl st pl := by rw [← frB_length ty fl st pl];simp
  rw [e1];simp [frB, beP]
theorem rret_take {W : World} {tmps : Array Value} {r0 r1 : Nat} {n : Int} {c0 c1 c2 c3 c4 c5 c6 c7 c8 c9 c10 c11 x0 x1 x2 : Value} {R : Ending → World → Prop} (h4 : tmps[4]? = some (.pointer (some ⟨r0, 0, none⟩))) (h5 : tmps[5]? = some (.int .i64 n)) (h6 : tmps[6]? = some (.pointer (some ⟨r1, 0, none⟩)))
  (h : Blk W r0 36 #[c0, c1, c2, c3, c4, c5, c6, c7, c8, c9, c10, c11]) (h' : Blk W r1 57 #[x0, x1, x2]) (hR : R (.returned (.tuple #[.agg #[c0, c1, c2, c3, c4, c5, c6, c7, c8, c9, c10, c11], .int .i64 n, .agg #[x0, x1, x2]])) W) :
  bodyPost Tryz.prog Tryz.f36 R .ret { tmps := tmps, defers := [] } W := by
 have g0 : W.cell? ⟨r0, 0, none⟩ = some c0 := h.cell 0;have g1 : W.cell? ⟨r0, 1, none⟩ = some c1 := h.cell 1;have g2 : W.cell? ⟨r0, 2, none⟩ = some c2 := h.cell 2;have g3 : W.cell? ⟨r0, 3, none⟩ = some c3 := h.cell 3;have g4 : W.cell? ⟨r0, 4, none⟩ = some c4 := h.cell 4;have g5 : W.cell? ⟨r0, 5, none⟩ = some c5 := h.cell 5;have g6 : W.cell? ⟨r0, 6, none⟩ = some c6 := h.cell 6;have g7 : W.cell? ⟨r0, 7, none⟩ = some c7 := h.cell 7;have g8 : W.cell? ⟨r0, 8, none⟩ = some c8 := h.cell 8;have g9 : W.cell? ⟨r0, 9, none⟩ = some c9 := h.cell 9;have g10 : W.cell? ⟨r0, 10, none⟩ = some c10 := h.cell 10;have g11 : W.cell? ⟨r0, 11, none⟩ = some c11 := h.cell 11;have k0 : W.cell? ⟨r1, 0, none⟩ = some x0 := h'.cell 0;have k1 : W.cell? ⟨r1, 1, none⟩ = some x1 := h'.cell 1;have k2 : W.cell? ⟨r1, 2, none⟩ = some x2 := h'.cell 2;exact bodyPost_ret (v := .tuple #[.agg #[c0, c1, c2, c3, c4, c5, c6, c7, c8, c9, c10, c11], .int .i64 n, .agg #[x0, x1, x2]]) (by simp [results, Tryz.results36, go_sem, h4, h5, h6, g0, g1, g2, g3, g4, g5, g6, g7, g8, g9, g10, g11, k0, k1, k2]) rfl hR
structure R3 (r g : Nat) (w : World) (xs : Array Value) (W : World) : Prop where
 a : Blk W r 36 #[.int .i64 0, .int .i64 0, .int .i64 0, S [], .int .i64 0, .slice none 0 0, .int .i64 0, .int .i64 0, .int .i64 0, .int .i64 0, .int .i64 0, .bool false]
 c : Blk W (r + 1) 57 #[.bool false, .int .i64 0, .int .i64 0]
 f : Blk W g 36 xs
 b : Below r w W
 rg : r + 2 ≤ g
theorem R3.on {r g : Nat} {w W W' : World} {xs : Array Value} (h : R3 r g w xs W) (hb : Below W.heap.size W W') : R3 r g w xs W' := ⟨h.a.on hb, h.c.on hb, h.f.on hb, h.b.trans (hb.mono (Nat.le_trans (by have := h.rg;omega) (Nat.le_of_lt h.f.lt))), h.rg⟩
theorem R3.drew {r g : Nat} {w W : World} {xs : Array Value} (h : R3 r g w xs W) : R3 r g w xs W.drew := h.on ((Below.refl _ _).drew)
theorem R3.put {r g : Nat} {w W : World} {z0 z1 z2 z3 z4 z5 z6 z7 z8 z9 z10 z11 : Value} (h : R3 r g w #[z0, z1, z2, z3, z4, z5, z6, z7, z8, z9, z10, z11] W) (b0 b1 b2 b3 b4 b5 b6 b7 b8 b9 b10 b11 : Value) : R3 r g w #[b0, b1, b2, b3, b4, b5, b6, b7, b8, b9, b10, b11] ((((((((((((W.setCell ⟨g, 0, none⟩ b0).setCell ⟨g, 1, none⟩ b1).setCell ⟨g, 2, none⟩ b2).setCell ⟨g, 3, none⟩ b3).setCell ⟨g, 4, none⟩ b4).setCell ⟨g, 5, none⟩ b5).setCell ⟨g, 6, none⟩ b6).setCell ⟨g, 7, none⟩ b7).setCell ⟨g, 8, none⟩ b8).setCell ⟨g, 9, none⟩ b9).setCell ⟨g, 10, none⟩ b10).setCell ⟨g, 11, none⟩ b11) :=
 ⟨oth12 h.a (by have := h.rg;omega) _ _ _ _ _ _ _ _ _ _ _ _, oth12 h.c (by have := h.rg;omega) _ _ _ _ _ _ _ _ _ _ _ _, set12 h.f _ _ _ _ _ _ _ _ _ _ _ _, bel12 h.b (by have := h.rg;omega) _ _ _ _ _ _ _ _ _ _ _ _, h.rg⟩
open Go.RowKit Go.Dr
theorem rSized_SetA  (w : World) : Calls Tryz.prog 72 #[.agg #[.int .i64 4, .int .i64 1, .int .i64 0, S [], .int .i64 0, .slice none 0 0, .int .i64 0, .int .i64 0, .int .i64 0, .int .i64 0, .int .i64 0, .bool false], .int .i64 0] w fun e w' => e = .returned (.bool true) ∧ Below w.heap.size w w' := by
 have hF : Blk (w.alloc (.cells #[.int .i64 4, .int .i64 1, .int .i64 0, S [], .int .i64 0, .slice none 0 0, .int .i64 0, .int .i64 0, .int .i64 0, .int .i64 0, .int .i64 0, .bool false] 36)) w.heap.size 36 #[.int .i64 4, .int .i64 1, .int .i64 0, S [], .int .i64 0, .slice none 0 0, .int .i64 0, .int .i64 0, .int .i64 0, .int .i64 0, .int .i64 0, .bool false] := Blk.new _ _ _;obtain ⟨g0, g1, g2, g3, g4, g5, g6, g7, g8, g9, g10, g11⟩ := hF.c12;go_enter Tryz.func72, Tryz.ntmps72
 go_wp2;go_ret;exact ⟨rfl, (Below.refl _ _).alloc (Nat.le_refl _) _⟩
theorem rFields_SetA  {B : Nat} (v : Value) (w : World) (h : By B w v (([] : Bytes))) (hB : B ≤ w.heap.size) : Calls Tryz.prog 73 #[.agg #[.int .i64 4, .int .i64 1, .int .i64 0, S [], .int .i64 0, .slice none 0 0, .int .i64 0, .int .i64 0, .int .i64 0, .int .i64 0, .int .i64 0, .bool false], v] w fun e w' => e = .returned (.tuple #[.agg #[.int .i64 4, .int .i64 1, .int .i64 0, S [], .int .i64 0, .slice none 0 0, .int .i64 0, .int .i64 0, .int .i64 0, .int .i64 0, .int .i64 0, .bool false], .bool true]) ∧ Below w.heap.size w w' := by
 have hlen := (show (([] : Bytes)).length = 0 from by first | rfl | simp [beP]);obtain ⟨a, c, rfl, hc, hcm⟩ := h.form;rw [hlen] at h hc ⊢;obtain ⟨a9, c9, h9, hr9⟩ := h.upto 0 (Nat.le_of_eq hlen.symm);replace hr9 : ∀ W : World, (Instr.slice 39 (.slice a 0 c) none (some (.int .i64 0)) none).run Tryz.prog W = .ok (.slice a9 0 c9) W := hr9
 have ht9 : ∀ W : World, Below w.heap.size w W → (convert 39 9 (.slice a9 0 c9)).run Tryz.prog W = .ok (S []) W := fun W hW => (h9.below (hW.mono hB)).text (P := Tryz.prog) 39 9 5 Tryz.underlying39 Tryz.underlying5 Tryz.underlying9
 obtain ⟨W, eW⟩ : ∃ W, W = (w.alloc (.cells #[.int .i64 4, .int .i64 1, .int .i64 0, S [], .int .i64 0, .slice none 0 0, .int .i64 0, .int .i64 0, .int .i64 0, .int .i64 0, .int .i64 0, .bool false] 36)).alloc (.cells #[.int .i64 0, .int .i64 0, .int .i64 0, S [], .int .i64 0, .slice none 0 0, .int .i64 0, .int .i64 0, .int .i64 0, .int .i64 0, .int .i64 0, .bool false] 36) := ⟨_, rfl⟩;have hF : Blk W w.heap.size 36 #[.int .i64 4, .int .i64 1, .int .i64 0, S [], .int .i64 0, .slice none 0 0, .int .i64 0, .int .i64 0, .int .i64 0, .int .i64 0, .int .i64 0, .bool false] := (by rw [eW];exact (Blk.new _ _ _).alloc _);have hR : Blk W (w.heap.size + 1) 36 #[.int .i64 0, .int .i64 0, .int .i64 0, S [], .int .i64 0, .slice none 0 0, .int .i64 0, .int .i64 0, .int .i64 0, .int .i64 0, .int .i64 0, .bool false] := (by rw [eW];exact bnew_at _ _ _ _ (by simp));have hb : Below w.heap.size w W := (by rw [eW];exact ((Below.refl _ _).alloc (Nat.le_refl _) _).alloc (by simp) _);obtain ⟨g0, g1, g2, g3, g4, g5, g6, g7, g8, g9, g10, g11⟩ := hF.c12;obtain ⟨z0, z1, z2, z3, z4, z5, z6, z7, z8, z9, z10, z11⟩ := hR.c12;have f3 := hF.free 3;have r0 := hR.free 0;have r1 := hR.free 1;have r2 := hR.free 2;have r3 := hR.free 3;have r4 := hR.free 4;have r5 := hR.free 5;have r6 := hR.free 6;have r7 := hR.free 7;have r8 := hR.free 8;have r9 := hR.free 9;have r10 := hR.free 10;have r11 := hR.free 11;have HLEN := Lib.hid hlen;clear hlen;go_enter Tryz.func73, Tryz.ntmps73
 go_upto_region 1 with fail;rw [← eW];clear eW;have h9x := ht9 _ hb;go_wp2;refine wp_loop_rounds 1 ?_;rw [rounds_succ];go_wp2;refine bodyPost_ret (results_cell_tmp Tryz.results73 rfl rfl (run_loadVar_row _ (w.heap.size + 1) 36 36 _ (0, 0) _ (set12 (hR.other (p := ⟨w.heap.size, 3, none⟩) (by simp) (S [])) _ _ _ _ _ _ _ _ _ _ _ _) Tryz.underlying36 (by rfl) (by kernel_rfl))) rfl ⟨rfl, bel12 (hb.setCell (p := ⟨w.heap.size, 3, none⟩) (Nat.le_refl _) _) (Nat.le_succ _) _ _ _ _ _ _ _ _ _ _ _ _⟩
end Go.Proofs.YtcodgfmombehoaaGreatDoor
