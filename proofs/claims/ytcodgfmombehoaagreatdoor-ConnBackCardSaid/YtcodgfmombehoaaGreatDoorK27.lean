/- Parts of the proof of bk_root: the texts Cnb3 Dig2 Cnb4. -/
import Derived.Test.YtcodgfmombehoaaGreatDoorK26
import Derived.Test.YtcodgfmombehoaaGreatDoorRows
set_option linter.unusedSimpArgs false
set_option linter.unusedVariables false
set_option linter.unnecessarySimpa false
set_option maxRecDepth 100000
set_option maxHeartbeats 64000000
namespace Go.Proofs.YtcodgfmombehoaaGreatDoor
open Go Go.RowKit Go.Dr
abbrev fStat : F := ⟨[58, 115, 116, 97, 116, 117, 115], [50, 48, 48], false⟩
theorem PutInt_eight (w : World) : Calls Tryz.prog 131 #[.int .u8 128, .int .i64 7, .int .u32 8] w fun e w' => e = .returned (.tuple #[.slice (some ⟨w.heap.size, 0, none⟩) 1 1, .int .i64 0]) ∧ Blk w' w.heap.size 5 #[.int .u8 136] ∧ Below w.heap.size w w' := by
 go_enter Tryz.func131, Tryz.ntmps131
 go_wp2;go_ret2;exact ⟨rfl, Blk.new _ _ _, (Below.refl _ _).alloc (Nat.le_refl _) _⟩
theorem Number_eight (w : World) : Calls Tryz.prog 100 #[.int .u8 128, .int .i64 7, .int .i64 8] w fun e w' => e = .returned (.slice (some ⟨w.heap.size, 0, none⟩) 1 1) ∧ Blk w' w.heap.size 5 #[.int .u8 136] ∧ Below w.heap.size w w' := by
 go_enter Tryz.func100, Tryz.ntmps100
 go_wp2_with (go_at_call 131;go_must ((with_reducible refine (PutInt_eight _).mono ?_);rintro e w2 ⟨rfl, hB2, hb2⟩))
 go_ret;exact ⟨rfl, hB2, hb2⟩
theorem Most_any {t : Nat} {x : Value} (w : World) (ht : w.cell? ⟨t, 0, none⟩ = some x) : Calls Tryz.prog 99 #[Ptr t] w fun r w' => r = .returned x ∧ w' = w := by
 go_enter Tryz.func99, Tryz.ntmps99
 go_wp2;go_ret;exact ⟨rfl, rfl⟩
theorem Sizes_same {e t : Nat} (w : World) (hE : Blk w e 129 #[.int .i64 4096, .int .i64 4096, .int .i64 4096, Ptr t]) (ht : w.cell? ⟨t, 0, none⟩ = some (.int .i64 4096)) (hte : t ≠ e) : Calls Tryz.prog 64 #[Ptr e] w fun r w' => r = .returned (.slice none 0 0) ∧ Blk w' e 129 #[.int .i64 4096, .int .i64 4096, .int .i64 4096, Ptr t] ∧ But (fun k => k = e) w w' := by
 have y1 : w.cell? ⟨e, 1, none⟩ = some (.int .i64 4096) := hE.cell 1;have y2 : w.cell? ⟨e, 2, none⟩ = some (.int .i64 4096) := hE.cell 2;have y3 : w.cell? ⟨e, 3, none⟩ = some (Ptr t) := hE.cell 3;have v1 := hE.free 1;have v2 := hE.free 2;go_enter Tryz.func64, Tryz.ntmps64
 go_wp2_with (go_at_call 99;go_must ((with_reducible refine (Most_any _ ht).mono ?_);rintro r w2 ⟨rfl, e2⟩;subst e2))
 go_region
 all_goals go_wp2
 go_ret;exact ⟨rfl, ((hE.set 1 _).set 2 _).drew, (((But.refl (fun k => k = e) _).setCell (p := ⟨e, 1, none⟩) (.inl rfl) _).setCell (p := ⟨e, 2, none⟩) (.inl rfl) _).drew⟩
theorem Way_stat {e t : Nat} (w : World) (hE : Blk w e 129 #[.int .i64 4096, .int .i64 4096, .int .i64 4096, Ptr t]) : Calls Tryz.prog 65 #[Ptr e, .agg #[S fStat.n, S fStat.v, .bool false]] w fun r w' => r = .returned (.func (.func 103) #[Ptr e] #[]) ∧ Below w.heap.size w w' := by
 have hmf : ∀ (fn : Fn) (first cap : Array Value) (w : World), (Instr.makeFunc fn first cap).run Tryz.prog w = .ok (.func fn first cap) w := fun _ _ _ _ => rfl
 obtain ⟨W, eW⟩ : ∃ W, W = w.alloc (.cells #[S fStat.n, S fStat.v, .bool false] 45) := ⟨_, rfl⟩;have hF : Blk W w.heap.size 45 #[S fStat.n, S fStat.v, .bool false] := (by rw [eW];exact Blk.new _ _ _);have hb : Below w.heap.size w W := (by rw [eW];exact (Below.refl _ _).alloc (Nat.le_refl _) _);have z0 : W.cell? ⟨w.heap.size, 0, none⟩ = some (S fStat.n) := hF.cell 0;have z1 : W.cell? ⟨w.heap.size, 1, none⟩ = some (S fStat.v) := hF.cell 1;have z2 : W.cell? ⟨w.heap.size, 2, none⟩ = some (.bool false) := hF.cell 2;have y3 : W.cell? ⟨e, 3, none⟩ = some (Ptr t) := (hE.on hb).cell 3;go_enter Tryz.func65, Tryz.ntmps65
 go_upto_region 1 with fail;rw [← eW];clear eW;go_wp2
 go_region_with (go_at_call 102;go_must ((with_reducible refine (Find_stat _).mono ?_);rintro e w2 ⟨rfl, hb2⟩))
 all_goals go_wp2
 all_goals go_ret
 all_goals exact ⟨rfl, hb.drew.trans (hb2.mono hb.size)⟩
theorem Found_stat {e t : Nat} (w : World) (hE : Blk w e 129 #[.int .i64 4096, .int .i64 4096, .int .i64 4096, Ptr t]) : Calls Tryz.prog 103 #[Ptr e, .agg #[S fStat.n, S fStat.v, .bool false]] w fun r w' => ∃ g, w.heap.size ≤ g ∧ r = .returned (.slice (some ⟨g, 0, none⟩) 1 1) ∧ Blk w' g 5 #[.int .u8 136] ∧ Below w.heap.size w w' := by
 obtain ⟨W, eW⟩ : ∃ W, W = w.alloc (.cells #[S fStat.n, S fStat.v, .bool false] 45) := ⟨_, rfl⟩;have hF : Blk W w.heap.size 45 #[S fStat.n, S fStat.v, .bool false] := (by rw [eW];exact Blk.new _ _ _);have hb : Below w.heap.size w W := (by rw [eW];exact (Below.refl _ _).alloc (Nat.le_refl _) _);have z0 : W.cell? ⟨w.heap.size, 0, none⟩ = some (S fStat.n) := hF.cell 0;have z1 : W.cell? ⟨w.heap.size, 1, none⟩ = some (S fStat.v) := hF.cell 1;have z2 : W.cell? ⟨w.heap.size, 2, none⟩ = some (.bool false) := hF.cell 2;have y3 : W.cell? ⟨e, 3, none⟩ = some (Ptr t) := (hE.on hb).cell 3;go_enter Tryz.func103, Tryz.ntmps103
 go_upto_region 1 with fail;rw [← eW];clear eW
 go_region_with (go_at_call 102;go_must ((with_reducible refine (Find_stat _).mono ?_);rintro r w2 ⟨rfl, hb2⟩))
 all_goals (
  go_wp2_with (go_at_call 100;go_must ((with_reducible refine (Number_eight _).mono ?_);rintro r w3 ⟨rfl, hB3, hb3⟩))
  go_ret;have hb02 := hb.drew.trans (hb2.mono hb.size)
  exact ⟨_, hb02.size, rfl, hB3, hb02.trans (hb3.mono hb02.size)⟩)
theorem Encode_stat {e t B : Nat} {v : Value} (w : World) (hE : Blk w e 129 #[.int .i64 4096, .int .i64 4096, .int .i64 4096, Ptr t]) (ht : w.cell? ⟨t, 0, none⟩ = some (.int .i64 4096)) (hte : t ≠ e) (hv : w.ownsRow B 45 3 v 1 (fcells [fStat])) (heB : e < B) :
  Calls Tryz.prog 32 #[Ptr e, v] w fun r w' => ∃ x, r = .returned x ∧ w'.ownsRow w.heap.size 5 1 x 1 [B8 136] ∧ Blk w' e 129 #[.int .i64 4096, .int .i64 4096, .int .i64 4096, Ptr t] ∧ But (fun k => k = e) w w' := by
 have hSz := Sizes_same w hE ht hte;obtain ⟨va, vc, rfl⟩ := own_form hv;go_enter Tryz.func32, Tryz.ntmps32
 go_wp2_with (go_at_call 64;go_must ((with_reducible refine hSz.mono ?_);rintro r w2 ⟨rfl, hE2, hb2⟩))
 have hv2 := own_same hv (fun g hg => hb2.block g (hv.lt g hg.symm).2 (fun h => by have := (hv.lt g hg.symm).1;omega));obtain ⟨b, off, eab, hbl, x0, x1, x2⟩ := Fs.at (Fs.own hv2) 0 (by decide);subst eab;rw [Nat.zero_mul, Nat.add_zero] at x0 x1 x2;have x0 : w2.cell? ⟨b, off, none⟩ = some (S fStat.n) := x0;have x1 : w2.cell? ⟨b, off + 1, none⟩ = some (S fStat.v) := x1;have x2 : w2.cell? ⟨b, off + 2, none⟩ = some (.bool false) := x2;have hz2 := hb2.size;obtain ⟨W, eW⟩ : ∃ W, W = w2.alloc (.cells #[S fStat.n, S fStat.v, .bool false] 45) := ⟨_, rfl⟩;have hF : Blk W w2.heap.size 45 #[S fStat.n, S fStat.v, .bool false] := (by rw [eW];exact Blk.new _ _ _);have hb : Below w2.heap.size w2 W := (by rw [eW];exact (Below.refl _ _).alloc (Nat.le_refl _) _);have z0 : W.cell? ⟨w2.heap.size, 0, none⟩ = some (S fStat.n) := hF.cell 0;have z1 : W.cell? ⟨w2.heap.size, 1, none⟩ = some (S fStat.v) := hF.cell 1;have z2 : W.cell? ⟨w2.heap.size, 2, none⟩ = some (.bool false) := hF.cell 2;have hEW := hE2.on hb;have hWy := Way_stat W hEW;refine wp_loop_rounds 2 ?_;rw [rounds_succ];go_upto_region 7 with fail;rw [← eW];clear eW
 go_wp2_with first
  | (go_at_call 65;go_must ((with_reducible refine hWy.mono ?_);rintro r w3 ⟨rfl, hb3⟩;have hF3 := hF.on hb3;have y0 : w3.cell? ⟨w2.heap.size, 0, none⟩ = some (S fStat.n) := hF3.cell 0;have y1 : w3.cell? ⟨w2.heap.size, 1, none⟩ = some (S fStat.v) := hF3.cell 1;have y2 : w3.cell? ⟨w2.heap.size, 2, none⟩ = some (.bool false) := hF3.cell 2;have hFo := Found_stat w3 (hEW.on hb3);have hb23 := hb.trans (hb3.mono hb.size)))
  | (go_at_call 103;go_must ((with_reducible refine hFo.mono ?_);rintro r w4 ⟨g, hg, rfl, hB4, hb4⟩;have hb24 := hb23.trans (hb4.mono hb23.size)))
  | (at_builtin;refine wpList_appAt rfl _ _ 39 rfl w.heap.size 5 (.int .u8 0) 1 1 Tryz.underlying39 (by kernel_rfl) rfl (by decide) _ _ _ rfl (World.ownsRow_nil _ _ _ _) w4.heap.size _ 1 [B8 136] rfl (Rd.own (own_of_blk hB4 hg rfl rfl (by unfold maxLen;omega))) (by intro u hu;simp at hu;subst hu;rfl) (by unfold maxLen;omega) (by omega) (by have := hb24.size;omega) ?_;intro a5 c5 w5 hown5 hg5 hat5)
 rw [rounds_succ];go_wp2;go_ret;refine ⟨_, rfl, hown5, ((hEW.on hb3).on hb4).but (but_grow hg5) (fun h => by cases h), ?_⟩;exact (hb2.trans (But.of_below (S := fun k => k = e) hb24)).trans ((but_grow hg5).more fun g hg => by cases hg)
end Go.Proofs.YtcodgfmombehoaaGreatDoor
namespace Go.Dr
open Go Go.RowKit
def dg (n : Nat) : UInt8 := UInt8.ofNat (48 + n % 10)
def digs (n : Nat) : Bytes := if h : n < 10 then [dg n] else digs (n / 10) ++ [dg n]
decreasing_by omega
theorem digs_small {n : Nat} (h : n < 10) : digs n = [dg n] := by rw [digs, dif_pos h]
theorem digs_step {n : Nat} (h : ¬ n < 10) : digs n = digs (n / 10) ++ [dg n] := by rw [digs, dif_neg h]
theorem dg_mod (m : Nat) : dg (m % 10) = dg m := by unfold dg;rw [Nat.mod_mod]
theorem idx_hex {P : Program} (t : TypeId) (ht : P.underlying t = some .string) (z : Int) (m : Nat) (hz : z = (m : Int) % 10) (w : World) :
  (Instr.index t (.string ⟨#[48, 49, 50, 51, 52, 53, 54, 55, 56, 57, 97, 98, 99, 100, 101, 102]⟩) (.int .i64 z)).run P w = .ok (B8 (dg m)) w := by
 obtain ⟨i, hi, hzi, e⟩ : ∃ i : Nat, i < 10 ∧ z = (i : Int) ∧ dg i = dg m := ⟨m % 10, by omega, by omega, dg_mod m⟩;rw [← e];subst hzi;rw [run_index_string w t _ .i64 _ ht, dif_pos ⟨by omega, by show (i : Int) < 16;omega⟩]
 match i, hi with
 | 0, _ | 1, _ | 2, _ | 3, _ | 4, _ | 5, _ | 6, _ | 7, _ | 8, _ | 9, _ => rfl
def digsP (v : Nat) (T : Bytes) : Bytes := if v = 0 ∧ T ≠ [] then T else digs v ++ T
theorem digsP_step (v : Nat) (T : Bytes) (h : 0 < v ∨ T = []) : digsP (v / 10) (dg v :: T) = digsP v T := by
 have e : digsP v T = digs v ++ T := by
  unfold digsP;rw [if_neg];rintro ⟨h1, h2⟩
  rcases h with h | h
  ·omega
  ·exact h2 h
 rw [e];unfold digsP;by_cases h10 : v < 10
 ·rw [if_pos ⟨by omega, by simp⟩, digs_small h10];rfl
 ·rw [if_neg (by omega), digs_step h10, List.append_assoc];rfl
theorem digsP_zero (T : Bytes) (h : T ≠ []) : digsP 0 T = T := by unfold digsP;rw [if_pos ⟨rfl, h⟩]
theorem len_bound {v k n : Nat} (h : v * 10 ^ k ≤ n) (hn : n ≤ 9223372036854775807) (hv : 0 < v ∨ k = 0) : k ≤ 18 := by
 rcases hv with hv | hv
 ·by_cases hk : k ≤ 18
  ·exact hk
  ·have h1 : 10 ^ 19 ≤ 10 ^ k := Nat.pow_le_pow_right (by decide) (by omega)
   have h2 : 1 * 10 ^ k ≤ v * 10 ^ k := Nat.mul_le_mul_right _ hv;have h3 : (10 : Nat) ^ 19 = 10000000000000000000 := (by decide);omega
 ·omega
theorem pow_next (v k n : Nat) (h : v * 10 ^ k ≤ n) : v / 10 * 10 ^ (k + 1) ≤ n := by
 have h1 : v / 10 * 10 ≤ v := (by omega);have h2 : v / 10 * 10 * 10 ^ k ≤ v * 10 ^ k := Nat.mul_le_mul_right _ h1;rw [Nat.pow_succ, Nat.mul_comm (10 ^ k), ← Nat.mul_assoc];omega
end Go.Dr
namespace Go.Proofs.YtcodgfmombehoaaGreatDoor
open Go.RowKit Go.Dr
theorem set_tail {xs : Array Value} {k : Nat} {T : Bytes} {c : UInt8} (hs : xs.size = 64) (hk : k + 1 + T.length = 64) (h : ∀ j (hj : j < T.length), xs[k + 1 + j]? = some (B8 T[j])) :
  ∀ j (hj : j < (c :: T).length), (xs.setIfInBounds k (B8 c))[k + j]? = some (B8 (c :: T)[j]) := by
 intro j hj;rw [Array.getElem?_setIfInBounds]
 cases j with
 | zero => simp;omega
 | succ j =>
  rw [if_neg (by omega), show k + (j + 1) = k + 1 + j by omega];exact h j (by simpa using hj)
theorem slice64 (w : World) (b k : Nat) (hk : k < 64) : (Instr.sliceAt 207 (.pointer (some ⟨b, 0, none⟩)) (some (.int .i64 (k : Int))) none none).run Tryz.prog w = .ok (.slice (some ⟨b, k, none⟩) (64 - k) (64 - k)) w := by
 have hl : Tryz.prog.arrayLen 207 = 64 := (by kernel_rfl);have he : Tryz.prog.elem 207 = 5 := (by kernel_rfl);obtain ⟨i, hi⟩ := info_of_underlying Tryz.underlying5;have hs : Tryz.prog.cellsOf 5 = 1 := (by kernel_rfl);rw [run_sliceAt_array_l w 207 ⟨b, 0, none⟩ (by kernel_rfl) .i64 (k : Int) (by omega) (by rw [hl];omega), hl, he, run_sizeOf w hi, hs];have h64 : ¬ 64 = k := (by omega);simp [Result.andThen, slicedAt, h64, Addr.add_lit]
theorem digits10_any (n : Nat) (w : World) (hn : n ≤ 9223372036854775807) : Calls Tryz.prog 98 #[.int .i64 n, .int .i64 10] w fun e w' => e = .returned (S (digs n)) ∧ Below w.heap.size w w' := by
 go_enter Tryz.func98, Tryz.ntmps98
 go_wp2
 go_loopw [0, 6] (fun v i wr => ∃ (m k : Nat) (T : Bytes) (xs : Array Value), v = .int .i64 m ∧ i = .int .i64 ((k : Int) + 1) ∧ k + 1 + T.length = 64 ∧ Blk wr w.heap.size 207 xs ∧ xs.size = 64 ∧ (∀ j (hj : j < T.length), xs[k + 1 + j]? = some (B8 T[j])) ∧ Hid (digsP m T = digs n) ∧ (0 < m ∨ T = []) ∧ m * 10 ^ T.length ≤ n ∧ Below w.heap.size w wr) (fun v _ _ => (intOf v).toNat)
 case atStart => exact ⟨n, 63, [], _, rfl, rfl, rfl, Blk.new _ _ _, by simp, by simp, by show digsP n [] = digs n;unfold digsP;simp, .inr rfl, by simp, (Below.refl _ _).alloc (Nat.le_refl _) _⟩
 case round =>
  obtain ⟨m, k, T, xs, rfl, rfl, hk, hX, hs, hT, HD, hv, hle, hbel⟩ := hrel;have hlen := len_bound hle hn (hv.imp_right (fun e => by rw [e];rfl));have hidx : ∀ w' : World, (Instr.index 9 (.string ⟨#[48, 49, 50, 51, 52, 53, 54, 55, 56, 57, 97, 98, 99, 100, 101, 102]⟩) (.int .i64 ((m : Int) % 10))).run Tryz.prog w' = .ok (B8 (dg m)) w' := fun w' => idx_hex 9 Tryz.underlying9 _ m rfl w'
  have hc : wr.cell? ⟨w.heap.size, k, none⟩ = some (xs[k]'(by omega)) := (by rw [hX.cell k, Array.getElem?_eq_getElem]);have hf : wr.frozen? ⟨w.heap.size, k, none⟩ = false := hX.free k;have hT2 := set_tail (c := dg m) hs hk hT;have hX2 := hX.set k (B8 (dg m));have hs2 : (xs.setIfInBounds k (B8 (dg m))).size = 64 := (by simpa using hs);have HD2 : Hid (digsP (m / 10) (dg m :: T) = digs n) := (by show _ = _;rw [digsP_step m T hv];exact HD.out);have hle2 := pow_next m T.length n hle;have hb2 : Below w.heap.size w (wr.setCell ⟨w.heap.size, k, none⟩ (B8 (dg m))) := hbel.setCell (Nat.le_refl _) _
  have hm64 : m ≤ 9223372036854775807 := by
   have : 0 < 10 ^ T.length := Nat.pow_pos (by decide)
   have := Nat.le_mul_of_pos_right m this
   omega
  have hcv : (convert 39 9 (.slice (some ⟨w.heap.size, k, none⟩) (64 - k) (64 - k))).run Tryz.prog (wr.setCell ⟨w.heap.size, k, none⟩ (B8 (dg m))) = .ok (S (dg m :: T)) (wr.setCell ⟨w.heap.size, k, none⟩ (B8 (dg m))) := by
   rw [show 64 - k = (dg m :: T).length by simp;omega]
   exact run_convert_bytes_back _ _ _ 5 ⟨w.heap.size, k, none⟩ _ (dg m :: T) Tryz.underlying39 Tryz.underlying5 Tryz.underlying9 (fun j hj => by
    rw [Addr.add_lit];rw [hX2.cell (k + j)]
    exact hT2 j hj)
  have hsl := fun w' : World => slice64 w' w.heap.size k (by omega)
  clear hT hX hv hle HD;by_cases h0 : m / 10 = 0
  ·have HD2 : Hid (dg m :: T = digs n) := by
    have := HD2.out
    rw [h0, digsP_zero _ (by simp)] at this;exact this
   have g0 : (((m : Int) / 10) == 0) = true := (by simp;omega);clear h0;go_wp2;go_ret;exact ⟨ret_S HD2.out, hb2⟩
  ·have g0 : (((m : Int) / 10) == 0) = false := by simp;omega
   go_wp2
   go_roundw
   case rel => exact ⟨m / 10, k - 1, dg m :: T, _, by go_num, by go_num, by simp;omega, hX2, hs2, by rw [show k - 1 + 1 = k by omega];exact hT2, HD2, .inl (by omega), by simpa using hle2, hb2⟩
   case measure => simp [intOf];omega
theorem Digits_any (n : Nat) (w : World) (hn : n ≤ 9223372036854775807) : Calls Tryz.prog 62 #[.int .i64 n] w fun e w' => e = .returned (S (digs n)) ∧ Below w.heap.size w w' := by
 go_enter Tryz.func62, Tryz.ntmps62
 go_wp2_with fail;refine (digits10_any n w hn).mono ?_;rintro e w1 ⟨rfl, hb1⟩;go_wp2;go_ret;exact ⟨rfl, hb1⟩
open Go Go.RowKit Go.Dr
theorem Digits_200 (w : World) : Calls Tryz.prog 62 #[.int .i64 200] w fun e w' => e = .returned (S [50, 48, 48]) ∧ Below w.heap.size w w' := by
 have h := Digits_any 200 w (by decide);rw [show digs 200 = [50, 48, 48] by decide +kernel] at h;exact h
theorem Answer_200 (w : World) : Calls Tryz.prog 31 #[.int .i64 200, .slice none 0 0] w fun e w' => ∃ B v, e = .returned (.tuple #[v, .int .i64 0]) ∧ w.heap.size ≤ B ∧ w'.ownsRow B 45 3 v 1 (fcells [fStat]) ∧ Below w.heap.size w w' := by
 go_enter Tryz.func31, Tryz.ntmps31
 go_wp2_with (go_at_call 62;go_must ((with_reducible refine (Digits_200 _).mono ?_);rintro r w2 ⟨rfl, hb2⟩))
 refine wp_loop_rounds 1 ?_;rw [rounds_succ];go_wp2;go_ret2;exact ⟨w2.heap.size, _, rfl, hb2.size, own_of_blk (Blk.new _ _ _) (Nat.le_refl _) rfl rfl (by unfold maxLen;omega), hb2.alloc hb2.size _⟩
end Go.Proofs.YtcodgfmombehoaaGreatDoor
