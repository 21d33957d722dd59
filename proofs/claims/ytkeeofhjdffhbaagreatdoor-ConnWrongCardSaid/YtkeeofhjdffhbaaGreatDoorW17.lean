/- Parts of the proof of wr_root: the texts Fpt4 Cnw8. -/
import Derived.Test.YtkeeofhjdffhbaaGreatDoorW16
set_option linter.unusedSimpArgs false
set_option linter.unusedVariables false
set_option linter.unnecessarySimpa false
namespace Go.Dr
/-- the bytes of settings -/
def setsB (l : List (Nat × Nat)) : Bytes := l.flatMap fun s => Go.Proofs.YtkeeofhjdffhbaaGreatDoor.beP s.1 2 ++ Go.Proofs.YtkeeofhjdffhbaaGreatDoor.beP s.2 4
end Go.Dr
namespace Go.Proofs.YtkeeofhjdffhbaaGreatDoor
open Go.RowKit Go.Dr
theorem setsB_len (l : List (Nat × Nat)) : (setsB l).length = 6 * l.length := by
 induction l with
 | nil => rfl
 | cons s l ih =>
  unfold setsB at *
  rw [List.flatMap_cons, List.length_append, ih, List.length_append, beP_length _ 2 (by decide), beP_length _ 4 (by decide), List.length_cons]
  omega
theorem setsB_snoc (l : List (Nat × Nat)) (k : Nat) (h : k < l.length) : setsB (l.take (k + 1)) = setsB (l.take k) ++ (beP l[k].1 2 ++ beP l[k].2 4) := by
 unfold setsB
 rw [take_snoc l k h, List.flatMap_append]
 simp
set_option maxRecDepth 100000 in
set_option maxHeartbeats 4000000 in
theorem bare_SetV (fl st : Nat) (vs : Value) (w : World) : Calls Tryz.prog 176 #[.agg #[.int .i64 4, .int .i64 (fl : Int), .int .i64 (st : Int), S [], .int .i64 0, vs, .int .i64 0, .int .i64 0, .int .i64 0, .int .i64 0, .int .i64 0, .bool false]] w fun e w' => e = .returned (.agg #[.int .i64 4, .int .i64 (fl : Int), .int .i64 (st : Int), S [], .int .i64 0, .slice none 0 0, .int .i64 0, .int .i64 0, .int .i64 0, .int .i64 0, .int .i64 0, .bool false]) ∧ Below w.heap.size w w' := by
 obtain ⟨W, eW⟩ : ∃ W, W = (w.alloc (.cells #[.int .i64 4, .int .i64 (fl : Int), .int .i64 (st : Int), S [], .int .i64 0, vs, .int .i64 0, .int .i64 0, .int .i64 0, .int .i64 0, .int .i64 0, .bool false] 34)).alloc (.cells #[.int .i64 0, .int .i64 0, .int .i64 0, S [], .int .i64 0, .slice none 0 0, .int .i64 0, .int .i64 0, .int .i64 0, .int .i64 0, .int .i64 0, .bool false] 34) := ⟨_, rfl⟩
 have hA : Blk W w.heap.size 34 #[.int .i64 4, .int .i64 (fl : Int), .int .i64 (st : Int), S [], .int .i64 0, vs, .int .i64 0, .int .i64 0, .int .i64 0, .int .i64 0, .int .i64 0, .bool false] := by rw [eW];exact (Blk.new _ _ _).alloc _
 have hZ : Blk W (w.heap.size + 1) 34 #[.int .i64 0, .int .i64 0, .int .i64 0, S [], .int .i64 0, .slice none 0 0, .int .i64 0, .int .i64 0, .int .i64 0, .int .i64 0, .int .i64 0, .bool false] := by rw [eW];exact bnew_at _ _ _ _ (by simp)
 have hb : Below w.heap.size w W := by rw [eW];exact ((Below.refl _ _).alloc (Nat.le_refl _) _).alloc (by simp) _
 have a0 : W.cell? ⟨w.heap.size, 0, none⟩ = some (.int .i64 4) := hA.cell 0
 have a1 : W.cell? ⟨w.heap.size, 1, none⟩ = some (.int .i64 (fl : Int)) := hA.cell 1
 have a2 : W.cell? ⟨w.heap.size, 2, none⟩ = some (.int .i64 (st : Int)) := hA.cell 2
 have a3 : W.cell? ⟨w.heap.size, 3, none⟩ = some (S []) := hA.cell 3
 have a4 : W.cell? ⟨w.heap.size, 4, none⟩ = some (.int .i64 0) := hA.cell 4
 have a5 : W.cell? ⟨w.heap.size, 5, none⟩ = some vs := hA.cell 5
 have a6 : W.cell? ⟨w.heap.size, 6, none⟩ = some (.int .i64 0) := hA.cell 6
 have a7 : W.cell? ⟨w.heap.size, 7, none⟩ = some (.int .i64 0) := hA.cell 7
 have a8 : W.cell? ⟨w.heap.size, 8, none⟩ = some (.int .i64 0) := hA.cell 8
 have a9 : W.cell? ⟨w.heap.size, 9, none⟩ = some (.int .i64 0) := hA.cell 9
 have a10 : W.cell? ⟨w.heap.size, 10, none⟩ = some (.int .i64 0) := hA.cell 10
 have a11 : W.cell? ⟨w.heap.size, 11, none⟩ = some (.bool false) := hA.cell 11
 have b3 := hA.free 3
 have b5 := hA.free 5
 have b6 := hA.free 6
 have b7 := hA.free 7
 have b8 := hA.free 8
 have z0 : W.cell? ⟨w.heap.size + 1, 0, none⟩ = some (.int .i64 0) := hZ.cell 0
 have z1 : W.cell? ⟨w.heap.size + 1, 1, none⟩ = some (.int .i64 0) := hZ.cell 1
 have z2 : W.cell? ⟨w.heap.size + 1, 2, none⟩ = some (.int .i64 0) := hZ.cell 2
 have z3 : W.cell? ⟨w.heap.size + 1, 3, none⟩ = some (S []) := hZ.cell 3
 have z4 : W.cell? ⟨w.heap.size + 1, 4, none⟩ = some (.int .i64 0) := hZ.cell 4
 have z5 : W.cell? ⟨w.heap.size + 1, 5, none⟩ = some (.slice none 0 0) := hZ.cell 5
 have z6 : W.cell? ⟨w.heap.size + 1, 6, none⟩ = some (.int .i64 0) := hZ.cell 6
 have z7 : W.cell? ⟨w.heap.size + 1, 7, none⟩ = some (.int .i64 0) := hZ.cell 7
 have z8 : W.cell? ⟨w.heap.size + 1, 8, none⟩ = some (.int .i64 0) := hZ.cell 8
 have z9 : W.cell? ⟨w.heap.size + 1, 9, none⟩ = some (.int .i64 0) := hZ.cell 9
 have z10 : W.cell? ⟨w.heap.size + 1, 10, none⟩ = some (.int .i64 0) := hZ.cell 10
 have z11 : W.cell? ⟨w.heap.size + 1, 11, none⟩ = some (.bool false) := hZ.cell 11
 have y0 := hZ.free 0
 have y1 := hZ.free 1
 have y2 := hZ.free 2
 have y3 := hZ.free 3
 have y4 := hZ.free 4
 have y5 := hZ.free 5
 have y6 := hZ.free 6
 have y7 := hZ.free 7
 have y8 := hZ.free 8
 have y9 := hZ.free 9
 have y10 := hZ.free 10
 have y11 := hZ.free 11
 go_enter Tryz.func176, Tryz.ntmps176
 go_upto_region 1 with fail
 rw [← eW]
 clear eW
 go_wp2
 refine bodyPost_ret (results_cell1 Tryz.results176 rfl (run_loadVar_row _ (w.heap.size + 1) 34 34 _ (0, 0) _ (set12 ((hZ.other (p := ⟨w.heap.size, 5, none⟩) (by simp) (.slice none 0 0))) _ _ _ _ _ _ _ _ _ _ _ _) Tryz.underlying34 (by rfl) (by kernel_rfl))) rfl ⟨rfl, bel12 ((hb.setCell (p := ⟨w.heap.size, 5, none⟩) (Nat.le_refl _) (.slice none 0 0))) (by omega) _ _ _ _ _ _ _ _ _ _ _ _⟩
set_option maxRecDepth 100000 in
set_option maxHeartbeats 8000000 in
theorem pmay_SetV (fl st : Nat) (hfl : fl < 256) (hst : st < 2147483648) (l : List (Nat × Nat)) (sa : Option Addr) (sc : Nat) (hset : ∀ s ∈ l, s.1 < 65536 ∧ s.2 < 4294967296) (w : World) (hv : Sts w.heap.size w (.slice sa l.length sc) l) : Calls Tryz.prog 123 #[.agg #[.int .i64 4, .int .i64 (fl : Int), .int .i64 (st : Int), S [], .int .i64 0, .slice sa l.length sc, .int .i64 0, .int .i64 0, .int .i64 0, .int .i64 0, .int .i64 0, .bool false]] w fun e w' => e = .returned (.bool true) ∧ Below w.heap.size w w' := by
 obtain ⟨W, eW⟩ : ∃ W, W = w.alloc (.cells #[.int .i64 4, .int .i64 (fl : Int), .int .i64 (st : Int), S [], .int .i64 0, .slice sa l.length sc, .int .i64 0, .int .i64 0, .int .i64 0, .int .i64 0, .int .i64 0, .bool false] 34) := ⟨_, rfl⟩
 have hA : Blk W w.heap.size 34 #[.int .i64 4, .int .i64 (fl : Int), .int .i64 (st : Int), S [], .int .i64 0, .slice sa l.length sc, .int .i64 0, .int .i64 0, .int .i64 0, .int .i64 0, .int .i64 0, .bool false] := by rw [eW];exact Blk.new _ _ _
 have hb : Below w.heap.size w W := by rw [eW];exact (Below.refl _ _).alloc (Nat.le_refl _) _
 have hll : l.length ≤ 9223372036854775807 := by have h := hv;obtain ⟨_, _, e, h1, h2, _⟩ := h;unfold maxLen at h2;omega
 have a0 : W.cell? ⟨w.heap.size, 0, none⟩ = some (.int .i64 4) := hA.cell 0
 have a1 : W.cell? ⟨w.heap.size, 1, none⟩ = some (.int .i64 (fl : Int)) := hA.cell 1
 have a2 : W.cell? ⟨w.heap.size, 2, none⟩ = some (.int .i64 (st : Int)) := hA.cell 2
 have a3 : W.cell? ⟨w.heap.size, 3, none⟩ = some (S []) := hA.cell 3
 have a4 : W.cell? ⟨w.heap.size, 4, none⟩ = some (.int .i64 0) := hA.cell 4
 have a5 : W.cell? ⟨w.heap.size, 5, none⟩ = some (.slice sa l.length sc) := hA.cell 5
 have a6 : W.cell? ⟨w.heap.size, 6, none⟩ = some (.int .i64 0) := hA.cell 6
 have a7 : W.cell? ⟨w.heap.size, 7, none⟩ = some (.int .i64 0) := hA.cell 7
 have a8 : W.cell? ⟨w.heap.size, 8, none⟩ = some (.int .i64 0) := hA.cell 8
 have a9 : W.cell? ⟨w.heap.size, 9, none⟩ = some (.int .i64 0) := hA.cell 9
 have a10 : W.cell? ⟨w.heap.size, 10, none⟩ = some (.int .i64 0) := hA.cell 10
 have a11 : W.cell? ⟨w.heap.size, 11, none⟩ = some (.bool false) := hA.cell 11
 have hw1 := fun (b : Nat) (w : World) (h : Blk w b 2 #[.int .i64 4, .int .i64 (fl : Int), .int .i64 0, .int .i64 0]) => Within4 255 _ _ _ _ b w h (by omega) (by omega) (by omega) (by omega)
 have hw2 := fun (b : Nat) (w : World) (h : Blk w b 2 #[.int .i64 (st : Int), .int .i64 0, .int .i64 0, .int .i64 0]) => Within4 2147483647 _ _ _ _ b w h (by omega) (by omega) (by omega) (by omega)
 have hw3 := fun (b : Nat) (w : World) (h : Blk w b 2 #[.int .i64 0]) => Within1 4294967295 _ b w h (by omega)
 have hB := fun w => bare_SetV fl st (.slice sa l.length sc) w
 have hE := fun w => empty_4 fl st w
 go_enter Tryz.func123, Tryz.ntmps123
 go_upto_region 1 with fail
 rw [← eW]
 clear eW
 go_wp2
 go_loopw [8] (fun i wr => ∃ k : Nat, k ≤ l.length ∧ i = .int .i64 (k : Int) ∧ Below w.heap.size w wr ∧ Blk wr w.heap.size 34 #[.int .i64 4, .int .i64 (fl : Int), .int .i64 (st : Int), S [], .int .i64 0, .slice sa l.length sc, .int .i64 0, .int .i64 0, .int .i64 0, .int .i64 0, .int .i64 0, .bool false]) (fun i _ => l.length - (intOf i).toNat)
 case atStart => exact ⟨0, Nat.zero_le _, rfl, hb, hA⟩
 case round =>
  obtain ⟨k, hk, rfl, hb, hA⟩ := hrel
  by_cases hlt : k < l.length
  ·obtain ⟨b, off, eab, hbl, x0, x1⟩ := Sts.at (show Sts w.heap.size wr (.slice sa l.length sc) l from Rd.below hv hb) k hlt
   subst eab
   have hs := hset _ (List.getElem_mem hlt)
   generalize l[k].1 = id at *
   generalize l[k].2 = v at *
   have hz := hb.size
   have hwa := fun (b : Nat) (w : World) (h : Blk w b 2 #[.int .i64 (id : Int)]) => Within1 65535 _ b w h (by omega)
   have hwb := fun (b : Nat) (w : World) (h : Blk w b 2 #[.int .i64 (v : Int)]) => Within1 4294967295 _ b w h (by omega)
   have HS := Lib.hid hset
   clear hset
   go_wp2_with first
    | (go_at_call 174;(with_reducible refine (hwa (wr.heap.size + 1) _ (bnew_at _ _ _ _ (by simp))).mono ?_);rintro e w4 ⟨rfl, e4⟩;have hS4 : Blk w4 wr.heap.size 31 #[.int .i64 (id : Int), .int .i64 (v : Int)] := (by rw [e4];exact (Blk.new _ _ _).alloc _);have hA4 : Blk w4 w.heap.size 34 _ := (by rw [e4];exact (hA.alloc _).alloc _);have hb4 : Below w.heap.size w w4 := (by rw [e4];exact (hb.alloc hz _).alloc (by simp;omega) _);clear e4;have q1 : w4.cell? ⟨wr.heap.size, 1, none⟩ = some (.int .i64 (v : Int)) := hS4.cell 1)
    | (go_at_call 174;(with_reducible refine (hwb _ _ (Blk.new _ _ _)).mono ?_);rintro e w5 ⟨rfl, e5⟩;have hA5 : Blk w5 w.heap.size 34 _ := (by rw [e5];exact hA4.alloc _);have hb5 : Below w.heap.size w w5 := (by rw [e5];exact hb4.alloc hb4.size _);clear e5)
   go_roundw
   case rel => exact ⟨k + 1, by omega, by go_num, hb5, hA5⟩
   case measure => simp [intOf];omega
  ·obtain rfl : k = l.length := by omega
   clear hset
   have hz := hb.size
   (have a0 : wr.cell? ⟨w.heap.size, 0, none⟩ = some (.int .i64 4) := hA.cell 0;have a1 : wr.cell? ⟨w.heap.size, 1, none⟩ = some (.int .i64 (fl : Int)) := hA.cell 1;have a2 : wr.cell? ⟨w.heap.size, 2, none⟩ = some (.int .i64 (st : Int)) := hA.cell 2;have a3 : wr.cell? ⟨w.heap.size, 3, none⟩ = some (S []) := hA.cell 3;have a4 : wr.cell? ⟨w.heap.size, 4, none⟩ = some (.int .i64 0) := hA.cell 4;have a5 : wr.cell? ⟨w.heap.size, 5, none⟩ = some (.slice sa l.length sc) := hA.cell 5;have a6 : wr.cell? ⟨w.heap.size, 6, none⟩ = some (.int .i64 0) := hA.cell 6;have a7 : wr.cell? ⟨w.heap.size, 7, none⟩ = some (.int .i64 0) := hA.cell 7;have a8 : wr.cell? ⟨w.heap.size, 8, none⟩ = some (.int .i64 0) := hA.cell 8;have a9 : wr.cell? ⟨w.heap.size, 9, none⟩ = some (.int .i64 0) := hA.cell 9;have a10 : wr.cell? ⟨w.heap.size, 10, none⟩ = some (.int .i64 0) := hA.cell 10;have a11 : wr.cell? ⟨w.heap.size, 11, none⟩ = some (.bool false) := hA.cell 11)
   go_wp2_with first
    | (go_at_call 174;(with_reducible refine (hw3 _ _ (Blk.new _ _ _)).mono ?_);rintro e w6 ⟨rfl, e6⟩;have hA6 : Blk w6 w.heap.size 34 #[.int .i64 4, .int .i64 (fl : Int), .int .i64 (st : Int), S [], .int .i64 0, .slice sa l.length sc, .int .i64 0, .int .i64 0, .int .i64 0, .int .i64 0, .int .i64 0, .bool false] := (by rw [e6];exact hA5.alloc _);have hb6 : Below w.heap.size w w6 := (by rw [e6];exact hb5.alloc hz5 _);clear e6;have hz6 := hb6.size;(have d60 : w6.cell? ⟨w.heap.size, 0, none⟩ = some (.int .i64 4) := hA6.cell 0;have d61 : w6.cell? ⟨w.heap.size, 1, none⟩ = some (.int .i64 (fl : Int)) := hA6.cell 1;have d62 : w6.cell? ⟨w.heap.size, 2, none⟩ = some (.int .i64 (st : Int)) := hA6.cell 2;have d63 : w6.cell? ⟨w.heap.size, 3, none⟩ = some (S []) := hA6.cell 3;have d64 : w6.cell? ⟨w.heap.size, 4, none⟩ = some (.int .i64 0) := hA6.cell 4;have d65 : w6.cell? ⟨w.heap.size, 5, none⟩ = some (.slice sa l.length sc) := hA6.cell 5;have d66 : w6.cell? ⟨w.heap.size, 6, none⟩ = some (.int .i64 0) := hA6.cell 6;have d67 : w6.cell? ⟨w.heap.size, 7, none⟩ = some (.int .i64 0) := hA6.cell 7;have d68 : w6.cell? ⟨w.heap.size, 8, none⟩ = some (.int .i64 0) := hA6.cell 8;have d69 : w6.cell? ⟨w.heap.size, 9, none⟩ = some (.int .i64 0) := hA6.cell 9;have d610 : w6.cell? ⟨w.heap.size, 10, none⟩ = some (.int .i64 0) := hA6.cell 10;have d611 : w6.cell? ⟨w.heap.size, 11, none⟩ = some (.bool false) := hA6.cell 11))
    | (go_at_call 174;(with_reducible refine (hw2 _ _ (Blk.new _ _ _)).mono ?_);rintro e w5 ⟨rfl, e5⟩;have hA5 : Blk w5 w.heap.size 34 #[.int .i64 4, .int .i64 (fl : Int), .int .i64 (st : Int), S [], .int .i64 0, .slice sa l.length sc, .int .i64 0, .int .i64 0, .int .i64 0, .int .i64 0, .int .i64 0, .bool false] := (by rw [e5];exact hA4.alloc _);have hb5 : Below w.heap.size w w5 := (by rw [e5];exact hb4.alloc hz4 _);clear e5;have hz5 := hb5.size;(have d50 : w5.cell? ⟨w.heap.size, 0, none⟩ = some (.int .i64 4) := hA5.cell 0;have d51 : w5.cell? ⟨w.heap.size, 1, none⟩ = some (.int .i64 (fl : Int)) := hA5.cell 1;have d52 : w5.cell? ⟨w.heap.size, 2, none⟩ = some (.int .i64 (st : Int)) := hA5.cell 2;have d53 : w5.cell? ⟨w.heap.size, 3, none⟩ = some (S []) := hA5.cell 3;have d54 : w5.cell? ⟨w.heap.size, 4, none⟩ = some (.int .i64 0) := hA5.cell 4;have d55 : w5.cell? ⟨w.heap.size, 5, none⟩ = some (.slice sa l.length sc) := hA5.cell 5;have d56 : w5.cell? ⟨w.heap.size, 6, none⟩ = some (.int .i64 0) := hA5.cell 6;have d57 : w5.cell? ⟨w.heap.size, 7, none⟩ = some (.int .i64 0) := hA5.cell 7;have d58 : w5.cell? ⟨w.heap.size, 8, none⟩ = some (.int .i64 0) := hA5.cell 8;have d59 : w5.cell? ⟨w.heap.size, 9, none⟩ = some (.int .i64 0) := hA5.cell 9;have d510 : w5.cell? ⟨w.heap.size, 10, none⟩ = some (.int .i64 0) := hA5.cell 10;have d511 : w5.cell? ⟨w.heap.size, 11, none⟩ = some (.bool false) := hA5.cell 11))
    | (go_at_call 174;(with_reducible refine (hw1 _ _ (Blk.new _ _ _)).mono ?_);rintro e w4 ⟨rfl, e4⟩;have hA4 : Blk w4 w.heap.size 34 #[.int .i64 4, .int .i64 (fl : Int), .int .i64 (st : Int), S [], .int .i64 0, .slice sa l.length sc, .int .i64 0, .int .i64 0, .int .i64 0, .int .i64 0, .int .i64 0, .bool false] := (by rw [e4];exact hA.alloc _);have hb4 : Below w.heap.size w w4 := (by rw [e4];exact hb.alloc hz _);clear e4;have hz4 := hb4.size;(have d40 : w4.cell? ⟨w.heap.size, 0, none⟩ = some (.int .i64 4) := hA4.cell 0;have d41 : w4.cell? ⟨w.heap.size, 1, none⟩ = some (.int .i64 (fl : Int)) := hA4.cell 1;have d42 : w4.cell? ⟨w.heap.size, 2, none⟩ = some (.int .i64 (st : Int)) := hA4.cell 2;have d43 : w4.cell? ⟨w.heap.size, 3, none⟩ = some (S []) := hA4.cell 3;have d44 : w4.cell? ⟨w.heap.size, 4, none⟩ = some (.int .i64 0) := hA4.cell 4;have d45 : w4.cell? ⟨w.heap.size, 5, none⟩ = some (.slice sa l.length sc) := hA4.cell 5;have d46 : w4.cell? ⟨w.heap.size, 6, none⟩ = some (.int .i64 0) := hA4.cell 6;have d47 : w4.cell? ⟨w.heap.size, 7, none⟩ = some (.int .i64 0) := hA4.cell 7;have d48 : w4.cell? ⟨w.heap.size, 8, none⟩ = some (.int .i64 0) := hA4.cell 8;have d49 : w4.cell? ⟨w.heap.size, 9, none⟩ = some (.int .i64 0) := hA4.cell 9;have d410 : w4.cell? ⟨w.heap.size, 10, none⟩ = some (.int .i64 0) := hA4.cell 10;have d411 : w4.cell? ⟨w.heap.size, 11, none⟩ = some (.bool false) := hA4.cell 11))
    | (go_at_call 176;(with_reducible refine (hB _).mono ?_);rintro e w7 ⟨rfl, hb7⟩)
    | (go_at_call 175;(with_reducible refine (hE _).mono ?_);rintro e w8 ⟨rfl, hb8⟩)
   go_ret
   exact ⟨rfl, (hb6.trans (hb7.mono hz6)).trans (hb8.mono (Nat.le_trans hz6 hb7.size))⟩
set_option maxRecDepth 100000 in
set_option maxHeartbeats 8000000 in
theorem ppay_SetV (fl st : Nat) (l : List (Nat × Nat)) (sa : Option Addr) (sc : Nat) (hset : ∀ s ∈ l, s.1 < 65536 ∧ s.2 < 4294967296) (hl6 : l.length ≤ 1000000) (w : World) (hv : Sts w.heap.size w (.slice sa l.length sc) l) : Calls Tryz.prog 124 #[.agg #[.int .i64 4, .int .i64 (fl : Int), .int .i64 (st : Int), S [], .int .i64 0, .slice sa l.length sc, .int .i64 0, .int .i64 0, .int .i64 0, .int .i64 0, .int .i64 0, .bool false]] w (OutB' (setsB l) w) := by
 obtain ⟨W, eW⟩ : ∃ W, W = w.alloc (.cells #[.int .i64 4, .int .i64 (fl : Int), .int .i64 (st : Int), S [], .int .i64 0, .slice sa l.length sc, .int .i64 0, .int .i64 0, .int .i64 0, .int .i64 0, .int .i64 0, .bool false] 34) := ⟨_, rfl⟩
 have hA : Blk W w.heap.size 34 #[.int .i64 4, .int .i64 (fl : Int), .int .i64 (st : Int), S [], .int .i64 0, .slice sa l.length sc, .int .i64 0, .int .i64 0, .int .i64 0, .int .i64 0, .int .i64 0, .bool false] := by rw [eW];exact Blk.new _ _ _
 have hb : Below w.heap.size w W := by rw [eW];exact (Below.refl _ _).alloc (Nat.le_refl _) _
 have hll : l.length ≤ 9223372036854775807 := by omega
 have a0 : W.cell? ⟨w.heap.size, 0, none⟩ = some (.int .i64 4) := hA.cell 0
 have a1 : W.cell? ⟨w.heap.size, 1, none⟩ = some (.int .i64 (fl : Int)) := hA.cell 1
 have a2 : W.cell? ⟨w.heap.size, 2, none⟩ = some (.int .i64 (st : Int)) := hA.cell 2
 have a3 : W.cell? ⟨w.heap.size, 3, none⟩ = some (S []) := hA.cell 3
 have a4 : W.cell? ⟨w.heap.size, 4, none⟩ = some (.int .i64 0) := hA.cell 4
 have a5 : W.cell? ⟨w.heap.size, 5, none⟩ = some (.slice sa l.length sc) := hA.cell 5
 have a6 : W.cell? ⟨w.heap.size, 6, none⟩ = some (.int .i64 0) := hA.cell 6
 have a7 : W.cell? ⟨w.heap.size, 7, none⟩ = some (.int .i64 0) := hA.cell 7
 have a8 : W.cell? ⟨w.heap.size, 8, none⟩ = some (.int .i64 0) := hA.cell 8
 have a9 : W.cell? ⟨w.heap.size, 9, none⟩ = some (.int .i64 0) := hA.cell 9
 have a10 : W.cell? ⟨w.heap.size, 10, none⟩ = some (.int .i64 0) := hA.cell 10
 have a11 : W.cell? ⟨w.heap.size, 11, none⟩ = some (.bool false) := hA.cell 11
 go_enter Tryz.func124, Tryz.ntmps124
 go_upto_region 1 with fail
 rw [← eW]
 clear eW
 go_wp2
 go_loopw [3, 55] (fun bv i wr => ∃ k : Nat, k ≤ l.length ∧ i = .int .i64 (k : Int) ∧ Below w.heap.size w wr ∧ wr.ownsRow w.heap.size 5 1 bv (setsB (l.take k)).length ((setsB (l.take k)).map B8)) (fun _ i _ => l.length - (intOf i).toNat)
 case atStart => exact ⟨0, Nat.zero_le _, rfl, hb, World.ownsRow_nil _ _ _ _⟩
 case round =>
  obtain ⟨k, hk, rfl, hb, ho⟩ := hrel
  by_cases hlt : k < l.length
  ·obtain ⟨b, off, eab, hbl, x0, x1⟩ := Sts.at (show Sts w.heap.size wr (.slice sa l.length sc) l from Rd.below hv hb) k hlt
   subst eab
   have hs := hset _ (List.getElem_mem hlt)
   have hnx := setsB_snoc l k hlt
   have hlk : (setsB (l.take k)).length ≤ 6000000 := by rw [setsB_len, List.length_take];omega
   have HS := Lib.hid hset
   have HN := Lib.hid hnx
   clear hset hnx
   generalize l[k].1 = id at *
   generalize l[k].2 = v at *
   generalize setsB (l.take k) = sofar at *
   have hz := hb.size
   have hid : IntKind.u32.wrap (id : Int) = (id : Int) := IntWalk.u32_in _ (by omega)
   have hid2 : (id : Int) % 4294967296 = (id : Int) := by omega
   have h2 := fun w => oPut2 id (by omega) w
   have h4 := fun w => pFour v (by omega) w
   obtain ⟨oa, oc, rfl⟩ := own_form ho
   go_upto_region 18 with fail
   refine wp_cut (R := fun W => Blk W wr.heap.size 31 #[.int .i64 (id : Int), .int .i64 (v : Int)] ∧ Below w.heap.size w W ∧ W.ownsRow w.heap.size 5 1 (.slice oa sofar.length oc) sofar.length (sofar.map B8) ∧ W.heap.size = wr.heap.size + 1) ⟨Blk.new _ _ _, hb.alloc hz _, ho.alloc _, by simp⟩ ?_
   rintro W2 ⟨hS2, hb2, ho2, hz2⟩
   have HZ := Lib.hid hz2
   have hz2' : w.heap.size ≤ W2.heap.size := hb2.size
   have hlt2 := hS2.lt
   clear hz2
   have q0 : W2.cell? ⟨wr.heap.size, 0, none⟩ = some (.int .i64 (id : Int)) := hS2.cell 0
   have q1 : W2.cell? ⟨wr.heap.size, 1, none⟩ = some (.int .i64 (v : Int)) := hS2.cell 1
   have hoB : ∀ g, some g = (Value.slice oa sofar.length oc).ownBlock → g < wr.heap.size := fun g hg => (ho.lt g hg.symm).2
   have S0 : Blk W2.drew wr.heap.size 31 _ := hS2.drew
   have O0 : W2.drew.ownsRow w.heap.size 5 1 (.slice oa sofar.length oc) sofar.length (sofar.map B8) := ho2
   have B0 : Below w.heap.size w W2.drew := hb2.drew
   have L0 : wr.heap.size + 1 ≤ W2.drew.heap.size := hlt2
   go_region_law (first
    | (have tok := Y5;have tok2 := Z5;refine step_of ?_ (by rfl);refine wp_appG _ _ 26 (by rfl) w.heap.size 5 (.int .u8 0) 1 1 Tryz.underlying26 (by kernel_rfl) rfl (by decide) (.slice aZ (sofar.length + 2) cZ) _ _ (by rfl) Z5 _ _ _ _ (by rfl) (Rd.own Y5) (b8_one2 _) (by unfold maxLen;omega) (by omega) (by have := L5;omega) ?_;intro aF cF w6 Z6 hb6 hg6;have B6 := B5.trans hb6)
    | (have tok := X4;have tok2 := Y4;refine step_of ?_ (by rfl);refine wp_appG _ _ 26 (by rfl) w.heap.size 5 (.int .u8 0) 1 1 Tryz.underlying26 (by kernel_rfl) rfl (by decide) (.slice oa sofar.length oc) _ _ (by rfl) O4 _ _ _ _ (by rfl) (Rd.own X4) (b8_one2 _) (by unfold maxLen;omega) (by omega) (by have := L4;omega) ?_;intro aZ cZ w5 Z5 hb5 hg5;have hne : some wr.heap.size ≠ (Value.slice oa sofar.length oc).ownBlock := (fun e => by have := hoB _ e;omega);have S5 := S4.grow hg5 hne;have B5 := B4.trans hb5;have L5 := Nat.le_trans L4 hb5.size;have q0 : w5.cell? ⟨wr.heap.size, 0, none⟩ = some (.int .i64 (id : Int)) := S5.cell 0;have q1 : w5.cell? ⟨wr.heap.size, 1, none⟩ = some (.int .i64 (v : Int)) := S5.cell 1;have Y5 := own_same Y4 (fun g hg => hg5.block g (own_lt Y4 hg).2 (fun e => by have h1 := hoB g e;have h2 := (own_lt Y4 hg).1;have h3 := YB;omega)))
    | (have tok := Z3;go_simp;go_at_call 126;(with_reducible refine (h4 _).mono ?_);rintro e w5 ⟨xY, rfl, Y5, hc5⟩;obtain ⟨aY, cY, rfl⟩ := own_form Y5;have S5 := S3.on hc5;have B5 := B3.trans (hc5.mono (by have := L3;omega));have L5 := Nat.le_trans L3 hc5.size;have q0 : w5.cell? ⟨wr.heap.size, 0, none⟩ = some (.int .i64 (id : Int)) := S5.cell 0;have q1 : w5.cell? ⟨wr.heap.size, 1, none⟩ = some (.int .i64 (v : Int)) := S5.cell 1;have Z5 := own_below Z3 hc5)
    | (have tok := X1;refine step_of ?_ (by rfl);refine wp_appG _ _ 26 (by rfl) w.heap.size 5 (.int .u8 0) 1 1 Tryz.underlying26 (by kernel_rfl) rfl (by decide) (.slice oa sofar.length oc) _ _ (by rfl) O1 _ _ _ _ (by rfl) (Rd.own X1) (b8_one2 _) (by unfold maxLen;omega) (by omega) (by have := L1;omega) ?_;intro aZ cZ w3 Z3 hb3 hg3;have hne : some wr.heap.size ≠ (Value.slice oa sofar.length oc).ownBlock := (fun e => by have := hoB _ e;omega);have S3 := S1.grow hg3 hne;have B3 := B1.trans hb3;have L3 := Nat.le_trans L1 hb3.size;have q0 : w3.cell? ⟨wr.heap.size, 0, none⟩ = some (.int .i64 (id : Int)) := S3.cell 0;have q1 : w3.cell? ⟨wr.heap.size, 1, none⟩ = some (.int .i64 (v : Int)) := S3.cell 1)
    | (have tok := X1;go_simp;go_at_call 126;(with_reducible refine (h4 _).mono ?_);rintro e w4 ⟨xY, rfl, Y4, hc4⟩;have YB : wr.heap.size + 1 ≤ w1.heap.size := L1;obtain ⟨aY, cY, rfl⟩ := own_form Y4;have S4 := S1.on hc4;have B4 := B1.trans (hc4.mono (by have := L1;omega));have L4 := Nat.le_trans L1 hc4.size;have q0 : w4.cell? ⟨wr.heap.size, 0, none⟩ = some (.int .i64 (id : Int)) := S4.cell 0;have q1 : w4.cell? ⟨wr.heap.size, 1, none⟩ = some (.int .i64 (v : Int)) := S4.cell 1;have O4 := own_below O1 hc4;have X4 := own_below X1 hc4)
    | (have tok := Y2;go_simp;go_at_call 125;(with_reducible refine (h2 _).mono ?_);rintro e w4 ⟨xX, rfl, X4, hc4⟩;obtain ⟨aX, cX, rfl⟩ := own_form X4;have S4 := S2.on hc4;have B4 := B2.trans (hc4.mono (by have := L2;omega));have L4 := Nat.le_trans L2 hc4.size;have q0 : w4.cell? ⟨wr.heap.size, 0, none⟩ = some (.int .i64 (id : Int)) := S4.cell 0;have q1 : w4.cell? ⟨wr.heap.size, 1, none⟩ = some (.int .i64 (v : Int)) := S4.cell 1;have O4 := own_below O2 hc4;have Y4 := own_below Y2 hc4)
    | (have tok := S0;go_simp;go_at_call 125;(with_reducible refine (h2 _).mono ?_);rintro e w1 ⟨xX, rfl, X1, hc1⟩;obtain ⟨aX, cX, rfl⟩ := own_form X1;have S1 := S0.on hc1;have B1 := B0.trans (hc1.mono (by have := L0;omega));have L1 := Nat.le_trans L0 hc1.size;have q0 : w1.cell? ⟨wr.heap.size, 0, none⟩ = some (.int .i64 (id : Int)) := S1.cell 0;have q1 : w1.cell? ⟨wr.heap.size, 1, none⟩ = some (.int .i64 (v : Int)) := S1.cell 1;have O1 := own_below O0 hc1)
    | (have tok := S0;go_simp;go_at_call 126;(with_reducible refine (h4 _).mono ?_);rintro e w2 ⟨xY, rfl, Y2, hc2⟩;have YB : wr.heap.size + 1 ≤ W2.drew.heap.size := L0;obtain ⟨aY, cY, rfl⟩ := own_form Y2;have S2 := S0.on hc2;have B2 := B0.trans (hc2.mono (by have := L0;omega));have L2 := Nat.le_trans L0 hc2.size;have q0 : w2.cell? ⟨wr.heap.size, 0, none⟩ = some (.int .i64 (id : Int)) := S2.cell 0;have q1 : w2.cell? ⟨wr.heap.size, 1, none⟩ = some (.int .i64 (v : Int)) := S2.cell 1;have O2 := own_below O0 hc2))
   all_goals (
    go_wp2
    go_roundw
    case rel => exact ⟨k + 1, by omega, by go_num, B6, by rw [HN.out, List.map_append, List.map_append, List.length_append, List.length_append, beP_length _ 2 (by decide), beP_length _ 4 (by decide), ← List.append_assoc, ← Nat.add_assoc];exact Z6⟩
    case measure => simp [intOf];omega)
  ·obtain rfl : k = l.length := by omega
   rw [List.take_length] at ho
   clear hset
   go_wp2
   go_ret
   exact ⟨_, rfl, ho, hb⟩
theorem pPut_SetV (fl st : Nat) (hfl : fl < 256) (hst : st < 2147483648) (l : List (Nat × Nat)) (sa : Option Addr) (sc : Nat) (hset : ∀ s ∈ l, s.1 < 65536 ∧ s.2 < 4294967296) (hl6 : l.length ≤ 1000000) (w : World) (hv : Sts w.heap.size w (.slice sa l.length sc) l) : Calls Tryz.prog 91 #[.agg #[.int .i64 4, .int .i64 (fl : Int), .int .i64 (st : Int), S [], .int .i64 0, .slice sa l.length sc, .int .i64 0, .int .i64 0, .int .i64 0, .int .i64 0, .int .i64 0, .bool false]] w fun e w' => ∃ v, e = .returned (.tuple #[v, .int .i64 0]) ∧ w'.ownsRow w.heap.size 5 1 v (frB 4 fl st (setsB l)).length ((frB 4 fl st (setsB l)).map B8) ∧ Below w.heap.size w w' :=
 pPut_of w 4 fl st (by decide) hfl hst _ _ _ _ _ _ _ _ _ (fun w1 hb => pmay_SetV fl st hfl hst l sa sc hset w1 ((Rd.below hv hb).mono hb.size)) (setsB l) (by rw [setsB_len];omega) (fun w1 hb => ppay_SetV fl st l sa sc hset hl6 w1 ((Rd.below hv hb).mono hb.size))
end Go.Proofs.YtkeeofhjdffhbaaGreatDoor
namespace Go.Proofs.YtkeeofhjdffhbaaGreatDoor
open Go Go.RowKit Go.Dr
variable {w w' : World} {n : Nm} {m m' : Mm} {q q' : Cq}
abbrev newC (fb lm hm : Nat) (str win lst : Int) : Array Value := #[.int .i64 str, .int .i64 win, .int .i64 4096, .int .i64 lst, Ptr fb, .pointer none, .pointer none, .pointer none, .int .i64 16384, .map (some lm), .slice none 0 0, .map (some hm), .int .i64 0, .slice none 0 0, .int .i64 0, .bool false, .bool false, .bool false, .int .i64 0, .bool false, .slice none 0 0, .slice none 0 0]
theorem Blk_to {w : World} {b b' : Nat} {t : TypeId} {xs : Array Value} (h : Blk w b t xs) (e : b = b') : Blk w b' t xs := e ▸ h
/-- a connection that is made, without its parts -/
structure Mk (w W : World) (str win lst : Int) (fb lm hm c : Nat) : Prop where
 feed : Blk W fb 158 (feedC 16384 0 (.slice none 0 0) false)
 lmE : W.heap[lm]? = some (.map #[] 0)
 hmE : W.heap[hm]? = some (.map #[] 0)
 conn : Blk W c 126 (newC fb lm hm str win lst)
 lim : Blk W w.heap.size 54 #[.int .i64 str, .int .i64 win, .int .i64 4096, .int .i64 lst]
 ne : lm ≠ hm
 lo : w.heap.size ≤ fb ∧ w.heap.size ≤ lm ∧ w.heap.size ≤ hm ∧ w.heap.size < c
 bel : Below w.heap.size w W
set_option maxRecDepth 100000 in
set_option maxHeartbeats 8000000 in
theorem ConnNew_any (str win lst : Nat) (hs1 : 1 ≤ str) (hs2 : str ≤ 8) (hw : win ≤ 2147483647) (hl : lst ≤ 65536) (w : World) :
  Calls Tryz.prog 17 #[.agg #[.int .i64 (str : Int), .int .i64 (win : Int), .int .i64 4096, .int .i64 (lst : Int)]] w fun e w' => ∃ n F, e = .returned (.tuple #[Ptr n.c, .int .i64 0]) ∧ n.B = w.heap.size ∧ Cw w' n { str := str, win := win, tab := 4096, lst := lst, bytes := frB 4 0 0 (setsB [(1, 4096), (3, str), (4, win), (6, lst)]) } F ∧ Below w.heap.size w w' := by
 have hmm := @run_makeMap Tryz.prog
 have hI := fun w => (show Calls Tryz.prog 34 #[.int .i64 16384, .bool true] w (fun e w' => e = .returned (Ptr w.heap.size) ∧ Blk w' w.heap.size 158 (feedC 16384 0 (.slice none 0 0) false) ∧ Below w.heap.size w w') from ChNew_any 16384 true w (by decide))
 obtain ⟨W, eW⟩ : ∃ W, W = w.alloc (.cells #[.int .i64 (str : Int), .int .i64 (win : Int), .int .i64 4096, .int .i64 (lst : Int)] 54) := ⟨_, rfl⟩
 have hA : Blk W w.heap.size 54 #[.int .i64 (str : Int), .int .i64 (win : Int), .int .i64 4096, .int .i64 (lst : Int)] := by rw [eW];exact Blk.new _ _ _
 have hb : Below w.heap.size w W := by rw [eW];exact (Below.refl _ _).alloc (Nat.le_refl _) _
 have hz : w.heap.size + 1 ≤ W.heap.size := hA.lt
 (have g0 : W.cell? ⟨w.heap.size, 0, none⟩ = some (.int .i64 (str : Int)) := hA.cell 0;have g1 : W.cell? ⟨w.heap.size, 1, none⟩ = some (.int .i64 (win : Int)) := hA.cell 1;have g2 : W.cell? ⟨w.heap.size, 2, none⟩ = some (.int .i64 4096) := hA.cell 2;have g3 : W.cell? ⟨w.heap.size, 3, none⟩ = some (.int .i64 (lst : Int)) := hA.cell 3)
 have k1 : ¬ (str : Int) < 1 := by omega
 have k2 : ¬ (8 : Int) < (str : Int) := by omega
 have k3 : ¬ (win : Int) < 0 := by omega
 have k4 : ¬ (2147483647 : Int) < (win : Int) := by omega
 have k5 : ¬ (lst : Int) < 0 := by omega
 have k6 : ¬ (65536 : Int) < (lst : Int) := by omega
 go_enter Tryz.func17, Tryz.ntmps17
 go_upto_region 1 with fail
 rw [← eW]
 clear eW
 go_upto_region 3 with fail
 have sz1 : (W.alloc (.map #[] 0)).drew.heap.size = W.heap.size + 1 := World.size_alloc W _
 have sz2 : ((W.alloc (.map #[] 0)).alloc (.map #[] 0)).drew.heap.size = W.heap.size + 1 + 1 := by rw [show ((W.alloc (.map #[] 0)).alloc (.map #[] 0)).drew.heap.size = ((W.alloc (.map #[] 0)).alloc (.map #[] 0)).heap.size from rfl, World.size_alloc, World.size_alloc]
 have hS : ∀ W', Below (w.heap.size + 1) W W' → (W'.cell? ⟨w.heap.size, 0, none⟩ = some (.int .i64 (str : Int)) ∧ W'.cell? ⟨w.heap.size, 1, none⟩ = some (.int .i64 (win : Int)) ∧ W'.cell? ⟨w.heap.size, 2, none⟩ = some (.int .i64 4096) ∧ W'.cell? ⟨w.heap.size, 3, none⟩ = some (.int .i64 (lst : Int))) := fun W' h =>
  have hA' := hA.below h (Nat.lt_succ_self _)
  ⟨hA'.cell 0, hA'.cell 1, hA'.cell 2, hA'.cell 3⟩
 go_region_held3 (fun W' => W'.cell? ⟨w.heap.size, 0, none⟩ = some (.int .i64 (str : Int)) ∧ W'.cell? ⟨w.heap.size, 1, none⟩ = some (.int .i64 (win : Int)) ∧ W'.cell? ⟨w.heap.size, 2, none⟩ = some (.int .i64 4096) ∧ W'.cell? ⟨w.heap.size, 3, none⟩ = some (.int .i64 (lst : Int)))
  (exact hS _ (by (repeat (first | (with_reducible exact hc3) | (with_reducible exact Below.refl _ _) | (with_reducible refine Below.drew ?_) | ((with_reducible refine Below.alloc ?_ ?_ _);rotate_left;(first | omega | exact (by simp <;> omega)))))))
  ((go_at_call 34;(with_reducible refine (hI _).mono ?_);rintro e w3 ⟨rfl, hF3, hb3⟩;have hc3 : Below (w.heap.size + 1) W w3 := (by refine Below.trans ?_ (hb3.mono ?_);rotate_left;(first | omega | exact (by simp <;> omega));(repeat (first | (with_reducible exact hc3) | (with_reducible exact Below.refl _ _) | (with_reducible refine Below.drew ?_) | ((with_reducible refine Below.alloc ?_ ?_ _);rotate_left;(first | omega | exact (by simp <;> omega))))));have hz3 : W.heap.size ≤ w3.heap.size := hc3.size))
 all_goals (go_upto_region 4 with fail)
 have hq3 : W.heap.size + 1 ≤ w3.heap.size := by have h : W.heap.size < w3.heap.size := hF3.lt;omega
 refine wp_cut (R := fun W5 => Mk w W5 str win lst (W.heap.size) (w3.heap.size) (w3.heap.size + 1) (w3.heap.size + 1 + 1)) ⟨Blk.alloc (Blk.alloc (Blk.alloc (Blk_to hF3 ((rfl : W.drew.heap.size = W.heap.size))) _) _) _, obj_alloc (obj_alloc (obj_new _ _ _ (by simp)) _) _, obj_alloc (obj_new _ _ _ (by simp)) _, bnew_at _ _ _ _ (by simp), Blk.alloc (Blk.alloc (Blk.alloc (hA.below hc3 (Nat.lt_succ_self _)) _) _) _, by omega, ⟨by omega, by omega, by omega, by omega⟩, Below.alloc (Below.alloc (Below.alloc (hb.trans (hc3.mono (Nat.le_succ _))) (by omega) _) (by simp;omega) _) (by simp;omega) _⟩ ?_
 rintro W5 hM5
 clear hq3 hF3 hb3 hc3
 generalize w3.heap.size + 1 + 1 = c at *
 generalize w3.heap.size + 1 = hm at *
 generalize w3.heap.size = lm at *
 generalize W.heap.size = fb at *
 rotate_left
 have hq3 : W.heap.size + 1 ≤ w3.heap.size := by have h : W.heap.size < w3.heap.size := hF3.lt;omega
 refine wp_cut (R := fun W5 => Mk w W5 str win lst (W.heap.size) (w3.heap.size + 1) (w3.heap.size) (w3.heap.size + 1 + 1)) ⟨Blk.alloc (Blk.alloc (Blk.alloc (Blk_to hF3 ((rfl : W.drew.heap.size = W.heap.size))) _) _) _, obj_alloc (obj_new _ _ _ (by simp)) _, obj_alloc (obj_alloc (obj_new _ _ _ (by simp)) _) _, bnew_at _ _ _ _ (by simp), Blk.alloc (Blk.alloc (Blk.alloc (hA.below hc3 (Nat.lt_succ_self _)) _) _) _, by omega, ⟨by omega, by omega, by omega, by omega⟩, Below.alloc (Below.alloc (Below.alloc (hb.trans (hc3.mono (Nat.le_succ _))) (by omega) _) (by simp;omega) _) (by simp;omega) _⟩ ?_
 rintro W5 hM5
 clear hq3 hF3 hb3 hc3
 generalize w3.heap.size + 1 + 1 = c at *
 generalize w3.heap.size + 1 = lm at *
 generalize w3.heap.size = hm at *
 generalize W.heap.size = fb at *
 rotate_left
 have hq3 : W.heap.size + 1 + 1 ≤ w3.heap.size := by have h := hF3.lt;rw [sz1] at h;omega
 refine wp_cut (R := fun W5 => Mk w W5 str win lst (W.heap.size + 1) (W.heap.size) (w3.heap.size) (w3.heap.size + 1)) ⟨Blk.alloc (Blk.alloc (Blk_to hF3 (sz1)) _) _, obj_alloc (obj_alloc (obj_below (show (W.alloc (.map #[] 0)).drew.heap[W.heap.size]? = some (.map #[] 0) from obj_new W (.map #[] 0) (W.heap.size) (rfl)) hb3 (by rw [sz1];omega)) _) _, obj_alloc (obj_new _ _ _ (by simp)) _, bnew_at _ _ _ _ (by simp), Blk.alloc (Blk.alloc (hA.below hc3 (Nat.lt_succ_self _)) _) _, by omega, ⟨by omega, by omega, by omega, by omega⟩, Below.alloc (Below.alloc (hb.trans (hc3.mono (Nat.le_succ _))) (by omega) _) (by simp;omega) _⟩ ?_
 rintro W5 hM5
 clear hq3 hF3 hb3 hc3
 generalize w3.heap.size + 1 = c at *
 generalize W.heap.size + 1 = fb at *
 generalize w3.heap.size = hm at *
 generalize W.heap.size = lm at *
 rotate_left
 have hq3 : W.heap.size + 1 + 1 + 1 ≤ w3.heap.size := by have h := hF3.lt;rw [sz2] at h;omega
 refine wp_cut (R := fun W5 => Mk w W5 str win lst (W.heap.size + 1 + 1) (W.heap.size) (W.heap.size + 1) (w3.heap.size)) ⟨Blk.alloc (Blk_to hF3 (sz2)) _, obj_alloc (obj_below (show ((W.alloc (.map #[] 0)).alloc (.map #[] 0)).drew.heap[W.heap.size]? = some (.map #[] 0) from obj_alloc (obj_new W (.map #[] 0) (W.heap.size) (rfl)) (.map #[] 0)) hb3 (by rw [sz2];omega)) _, obj_alloc (obj_below (show ((W.alloc (.map #[] 0)).alloc (.map #[] 0)).drew.heap[W.heap.size + 1]? = some (.map #[] 0) from obj_new (W.alloc (.map #[] 0)) (.map #[] 0) (W.heap.size + 1) (World.size_alloc W _)) hb3 (by rw [sz2];omega)) _, bnew_at _ _ _ _ (by simp), Blk.alloc (hA.below hc3 (Nat.lt_succ_self _)) _, by omega, ⟨by omega, by omega, by omega, by omega⟩, Below.alloc (hb.trans (hc3.mono (Nat.le_succ _))) (by omega) _⟩ ?_
 rintro W5 hM5
 clear hq3 hF3 hb3 hc3
 generalize W.heap.size + 1 + 1 = fb at *
 generalize W.heap.size + 1 = hm at *
 generalize w3.heap.size = c at *
 generalize W.heap.size = lm at *
 rotate_left
 have hq3 : W.heap.size + 1 + 1 ≤ w3.heap.size := by have h := hF3.lt;rw [sz1] at h;omega
 refine wp_cut (R := fun W5 => Mk w W5 str win lst (W.heap.size + 1) (w3.heap.size) (W.heap.size) (w3.heap.size + 1)) ⟨Blk.alloc (Blk.alloc (Blk_to hF3 (sz1)) _) _, obj_alloc (obj_new _ _ _ (by simp)) _, obj_alloc (obj_alloc (obj_below (show (W.alloc (.map #[] 0)).drew.heap[W.heap.size]? = some (.map #[] 0) from obj_new W (.map #[] 0) (W.heap.size) (rfl)) hb3 (by rw [sz1];omega)) _) _, bnew_at _ _ _ _ (by simp), Blk.alloc (Blk.alloc (hA.below hc3 (Nat.lt_succ_self _)) _) _, by omega, ⟨by omega, by omega, by omega, by omega⟩, Below.alloc (Below.alloc (hb.trans (hc3.mono (Nat.le_succ _))) (by omega) _) (by simp;omega) _⟩ ?_
 rintro W5 hM5
 clear hq3 hF3 hb3 hc3
 generalize w3.heap.size + 1 = c at *
 generalize W.heap.size + 1 = fb at *
 generalize w3.heap.size = lm at *
 generalize W.heap.size = hm at *
 rotate_left
 have hq3 : W.heap.size + 1 + 1 + 1 ≤ w3.heap.size := by have h := hF3.lt;rw [sz2] at h;omega
 refine wp_cut (R := fun W5 => Mk w W5 str win lst (W.heap.size + 1 + 1) (W.heap.size + 1) (W.heap.size) (w3.heap.size)) ⟨Blk.alloc (Blk_to hF3 (sz2)) _, obj_alloc (obj_below (show ((W.alloc (.map #[] 0)).alloc (.map #[] 0)).drew.heap[W.heap.size + 1]? = some (.map #[] 0) from obj_new (W.alloc (.map #[] 0)) (.map #[] 0) (W.heap.size + 1) (World.size_alloc W _)) hb3 (by rw [sz2];omega)) _, obj_alloc (obj_below (show ((W.alloc (.map #[] 0)).alloc (.map #[] 0)).drew.heap[W.heap.size]? = some (.map #[] 0) from obj_alloc (obj_new W (.map #[] 0) (W.heap.size) (rfl)) (.map #[] 0)) hb3 (by rw [sz2];omega)) _, bnew_at _ _ _ _ (by simp), Blk.alloc (hA.below hc3 (Nat.lt_succ_self _)) _, by omega, ⟨by omega, by omega, by omega, by omega⟩, Below.alloc (hb.trans (hc3.mono (Nat.le_succ _))) (by omega) _⟩ ?_
 rintro W5 hM5
 clear hq3 hF3 hb3 hc3
 generalize W.heap.size + 1 + 1 = fb at *
 generalize W.heap.size + 1 = lm at *
 generalize w3.heap.size = c at *
 generalize W.heap.size = hm at *
 rotate_left
 all_goals (
  have l2 : W5.cell? ⟨w.heap.size, 2, none⟩ = some (.int .i64 4096) := hM5.lim.cell 2
  have l3 : W5.cell? ⟨w.heap.size, 3, none⟩ = some (.int .i64 (lst : Int)) := hM5.lim.cell 3
  have hD := DecNew_lst lst (by omega) W5
  obtain ⟨o1, o2, o3, o4⟩ := hM5.lo
  have z5 := hM5.bel.size
  have cl := hM5.conn.lt
  clear hA hb hz g0 g1 g2 g3 hI hS sz1 sz2 k1 k2 k3 k4 k5 k6
  go_upto_region 5 with (go_at_call 35;(with_reducible refine hD.mono ?_);rintro e w6 ⟨rfl, hb6, hT6, hD6⟩;have hC6 := hM5.conn.on hb6;have y5 : w6.cell? ⟨c, 5, none⟩ = some (.pointer none) := hC6.cell 5;have f5 := hC6.free 5)
  refine wp_cut (R := fun W7 => Blk W7 c 126 #[.int .i64 (str : Int), .int .i64 (win : Int), .int .i64 4096, .int .i64 (lst : Int), Ptr fb, Ptr (W5.heap.size + 3), .pointer none, .pointer none, .int .i64 16384, .map (some lm), .slice none 0 0, .map (some hm), .int .i64 0, .slice none 0 0, .int .i64 0, .bool false, .bool false, .bool false, .int .i64 0, .bool false, .slice none 0 0, .slice none 0 0] ∧ But (fun g => g = c) W5 W7 ∧ Tbl0 W7 (W5.heap.size + 2) ∧ Blk W7 (W5.heap.size + 3) 163 #[.int .i64 4096, .int .i64 (lst : Int), Ptr (W5.heap.size + 2), .bool false]) ⟨hC6.set 5 _, (But.of_below (S := fun g => g = c) hb6).setCell (p := ⟨c, 5, none⟩) (.inl rfl) _, ⟨(Below.heap_setCell _ _ _ _ (by show _ ≠ c;omega)).trans hT6.m1, (Below.heap_setCell _ _ _ _ (by show _ ≠ c;omega)).trans hT6.m2, hT6.blk.other (by show _ ≠ c;omega) _⟩, hD6.other (by show _ ≠ c;omega) _⟩ ?_
  clear l2 l3 hD hb6 hT6 hD6 hC6 y5 f5 w6
  rintro W7 ⟨hC7, hu7, hT7, hD7⟩
  have z7 := hu7.size
  have hE := EncNew_any W7
  go_upto_region 6 with (go_at_call 55;(with_reducible refine hE.mono ?_);rintro e w8 ⟨rfl, hb8, hT8, hE8⟩;have hC8 := hC7.on hb8;have y6 : w8.cell? ⟨c, 6, none⟩ = some (.pointer none) := hC8.cell 6;have f6 := hC8.free 6)
  have lm5 := lt_of_block hM5.lmE
  have hm5 := lt_of_block hM5.hmE
  have fb5 := hM5.feed.lt
  have d7 : W5.heap.size + 3 < W7.heap.size := hD7.lt
  refine wp_cut (R := fun W9 => Blk W9 c 126 #[.int .i64 (str : Int), .int .i64 (win : Int), .int .i64 4096, .int .i64 (lst : Int), Ptr fb, Ptr (W5.heap.size + 3), Ptr (W7.heap.size + 3), .pointer none, .int .i64 16384, .map (some lm), .slice none 0 0, .map (some hm), .int .i64 0, .slice none 0 0, .int .i64 0, .bool false, .bool false, .bool false, .int .i64 0, .bool false, .slice none 0 0, .slice none 0 0] ∧ But (fun g => g = c) W7 W9 ∧ Tbl0 W9 (W7.heap.size + 2) ∧ Blk W9 (W7.heap.size + 3) 181 #[.int .i64 4096, .int .i64 4096, .int .i64 4096, Ptr (W7.heap.size + 2)]) ⟨hC8.set 6 _, (But.of_below (S := fun g => g = c) hb8).setCell (p := ⟨c, 6, none⟩) (.inl rfl) _, ⟨(Below.heap_setCell _ _ _ _ (by show _ ≠ c;omega)).trans hT8.m1, (Below.heap_setCell _ _ _ _ (by show _ ≠ c;omega)).trans hT8.m2, hT8.blk.other (by show _ ≠ c;omega) _⟩, hE8.other (by show _ ≠ c;omega) _⟩ ?_
  clear hE hb8 hT8 hE8 hC8 y6 f6 w8
  rintro W9 ⟨hC9, hu9, hT9, hE9⟩
  have z9 := hu9.size
  have e9 : W7.heap.size + 3 < W9.heap.size := hE9.lt
  have hW := WinNew_any W9
  go_upto_region 7 with (go_at_call 56;(with_reducible refine hW.mono ?_);rintro e w10 ⟨rfl, hb10, hO10, hB10⟩;have hC10 := hC9.on hb10;have y7 : w10.cell? ⟨c, 7, none⟩ = some (.pointer none) := hC10.cell 7;have f7 := hC10.free 7)
  refine wp_cut (R := fun W11 => Blk W11 c 126 #[.int .i64 (str : Int), .int .i64 (win : Int), .int .i64 4096, .int .i64 (lst : Int), Ptr fb, Ptr (W5.heap.size + 3), Ptr (W7.heap.size + 3), Ptr (W9.heap.size + 1), .int .i64 16384, .map (some lm), .slice none 0 0, .map (some hm), .int .i64 0, .slice none 0 0, .int .i64 0, .bool false, .bool false, .bool false, .int .i64 0, .bool false, .slice none 0 0, .slice none 0 0] ∧ But (fun g => g = c) W9 W11 ∧ W11.heap[W9.heap.size]? = some (.map #[] 0) ∧ Blk W11 (W9.heap.size + 1) 183 #[.int .i64 65535, .int .i64 65535, .map (some W9.heap.size)]) ⟨hC10.set 7 _, (But.of_below (S := fun g => g = c) hb10).setCell (p := ⟨c, 7, none⟩) (.inl rfl) _, (Below.heap_setCell _ _ _ _ (by show _ ≠ c;omega)).trans hO10, hB10.other (by show _ ≠ c;omega) _⟩ ?_
  clear hW hb10 hO10 hB10 hC10 y7 f7 w10
  rintro W11 ⟨hC11, hu11, hO11, hB11⟩
  have z11 : W9.heap.size + 1 < W11.heap.size := hB11.lt
  have hall : But (fun g => g = c) W5 W11 := (hu7.trans hu9).trans hu11
  have hu9' := hu9.trans hu11
  obtain ⟨n, en⟩ : ∃ n : Nm, n = ⟨w.heap.size, c, fb, W5.heap.size + 3, W5.heap.size + 2, W7.heap.size + 3, W7.heap.size + 2, W9.heap.size + 1, lm, hm, W9.heap.size, W5.heap.size + 2 - 2, W5.heap.size + 2 - 1, W7.heap.size + 2 - 2, W7.heap.size + 2 - 1⟩ := ⟨_, rfl⟩
  have kp : ∀ {g : Nat} {o : Obj}, W5.heap[g]? = some o → g ≠ c → W11.heap[g]? = some o := fun {g o} h hn => (hall.block g (lt_of_block h) hn).trans h
  have kp7 : ∀ {g : Nat} {o : Obj}, W7.heap[g]? = some o → g ≠ c → W11.heap[g]? = some o := fun {g o} h hn => (hu9'.block g (lt_of_block h) hn).trans h
  have kp9 : ∀ {g : Nat} {o : Obj}, W9.heap[g]? = some o → g ≠ c → W11.heap[g]? = some o := fun {g o} h hn => (hu11.block g (lt_of_block h) hn).trans h
  have nlm : lm ≠ c := fun e => by have h1 := hM5.lmE;rw [e] at h1;have h2 : W5.heap[c]? = _ := hM5.conn;rw [h2] at h1;cases h1
  have nhm : hm ≠ c := fun e => by have h1 := hM5.hmE;rw [e] at h1;have h2 : W5.heap[c]? = _ := hM5.conn;rw [h2] at h1;cases h1
  have nfb : fb ≠ c := fun e => by have h1 := kd_blk hM5.feed;have h2 := kd_blk hM5.conn;rw [e] at h1;omega
  have k_dec := kp7 hD7 (by omega)
  have k_t1 := kp7 hT7.blk (by omega)
  have k_b1 := kp7 hT7.m1 (by omega)
  have k_n1 := kp7 hT7.m2 (by omega)
  have k_enc := kp9 hE9 (by omega)
  have k_t2 := kp9 hT9.blk (by omega)
  have k_b2 := kp9 hT9.m1 (by omega)
  have k_n2 := kp9 hT9.m2 (by omega)
  have hX : Cx W11 n { sb := fun _ => 0, sv := fun _ => .slice none 0 0 } { str := str, win := win, tab := 4096, lst := lst } := by
   rw [en]
   exact {
    blk := hC11
    feed := kp hM5.feed nfb
    dec := k_dec
    t1 := k_t1
    b1 := k_b1
    n1 := k_n1
    enc := k_enc
    t2 := k_t2
    b2 := k_b2
    n2 := k_n2
    book := hB11
    off := GMap.made hO11
    how := GMap.made (kp hM5.hmE nhm)
    live := GMap.made (kp hM5.lmE nlm)
    side := by intro p hp;cases hp
    pend := by intro p hp;cases hp
    bytes := World.ownsRow_nil _ _ _ _
    news := ⟨0, World.ownsRow_nil _ _ _ _⟩
    closed := World.ownsRow_nil _ _ _ _
    tt := by show _ ≠ _;simp only [];omega
    maps := by have := hM5.ne;refine ⟨this, ?_, ?_, ⟨?_, ?_, ?_⟩, ⟨?_, ?_, ?_⟩, ⟨?_, ?_, ?_⟩, ?_, ?_, ?_⟩ <;> (simp only [];omega)
    bp := by intro p hp;cases hp
    ss := by intro p hp;cases hp
    lo := by
     rintro g (hg | hg | hg | ⟨p, hp, _⟩)
     ·simp only [] at hg ⊢;omega
     ·simp only [] at hg ⊢;omega
     ·rcases hg with hg | hg | hg <;> cases hg
     ·cases hp }
  have hw11 : Below w.heap.size w W11 := hM5.bel.trans (hall.below (fun k hk => by omega) z5)
  have hlim : Blk W11 w.heap.size 54 _ := kp hM5.lim (by omega)
  have l0 : W11.cell? ⟨w.heap.size, 0, none⟩ = some (.int .i64 (str : Int)) := hlim.cell 0
  have l1 : W11.cell? ⟨w.heap.size, 1, none⟩ = some (.int .i64 (win : Int)) := hlim.cell 1
  have l2 : W11.cell? ⟨w.heap.size, 2, none⟩ = some (.int .i64 4096) := hlim.cell 2
  have l3 : W11.cell? ⟨w.heap.size, 3, none⟩ = some (.int .i64 (lst : Int)) := hlim.cell 3
  have hnB : n.B = w.heap.size := by rw [en]
  have hnc : c = n.c := by rw [en]
  obtain ⟨W12, eW12⟩ : ∃ W12, W12 = W11.alloc (.cells #[.int .i64 1, .int .i64 4096, .int .i64 3, .int .i64 (str : Int), .int .i64 4, .int .i64 (win : Int), .int .i64 6, .int .i64 (lst : Int)] 31) := ⟨_, rfl⟩
  have hb12 : Below W11.heap.size W11 W12 := by rw [eW12];exact (Below.refl _ _).alloc (Nat.le_refl _) _
  have hst : Sts W12.heap.size W12 (.slice (some ⟨W11.heap.size, 0, none⟩) 4 4) [(1, 4096), (3, str), (4, win), (6, lst)] := by
   have h := Rd.lit W11 31 #[.int .i64 1, .int .i64 4096, .int .i64 3, .int .i64 (str : Int), .int .i64 4, .int .i64 (win : Int), .int .i64 6, .int .i64 (lst : Int)] 2 4 rfl (by decide)
   rw [← eW12] at h
   exact h.mono (by rw [eW12];simp)
  have hWr := Write_any (c0 := .int .i64 4) (c1 := .int .i64 0) (c2 := .int .i64 0) (c3 := .string ⟨#[]⟩) (c4 := .int .i64 0) (c5 := .slice (some ⟨W11.heap.size, 0, none⟩) 4 4) (c6 := .int .i64 0) (c7 := .int .i64 0) (c8 := .int .i64 0) (c9 := .int .i64 0) (c10 := .int .i64 0) (c11 := .bool false) W12 ⟨_, hX.on hb12, rfl⟩ (frB 4 0 0 (setsB [(1, 4096), (3, str), (4, win), (6, lst)])) (fun w1 hb1 => pPut_SetV 0 0 (by decide) (by decide) [(1, 4096), (3, str), (4, win), (6, lst)] _ 4 (by intro s hs;simp at hs;rcases hs with rfl | rfl | rfl | rfl <;> (constructor <;> simp only [] <;> omega)) (show (4 : Nat) ≤ 1000000 by decide) w1 ((Rd.below hst hb1).mono hb1.size)) (by rw [frB_length, setsB_len];simp)
  rw [← hnc] at hWr
  have H1 := Lib.hid hnB
  have H2 := Lib.hid hnc
  clear hnB hnc en
  go_wp2_with (go_at_call 57;rw [← eW12];(with_reducible refine hWr.mono ?_);rintro e w13 ⟨rfl, hg13⟩)
  go_ret2
  obtain ⟨F, h13, b13, s13⟩ := hg13
  refine ⟨n, F, by rw [← H2.out];rfl, H1.out, h13, ?_⟩
  have hz11 := hw11.size
  have hz12 := hb12.size
  exact (hw11.trans (hb12.mono hz11)).trans (b13.below (fun k hk => by have := hX.lo k hk;rw [H1.out] at this;exact this) (Nat.le_trans hz11 hz12)))
end Go.Proofs.YtkeeofhjdffhbaaGreatDoor
