/- Parts of the proof of gr_root: the texts Fpt4. -/
import Derived.Test.YtlkfmhbmcicmfaaGreatDoorG18
set_option linter.unusedSimpArgs false
set_option linter.unusedVariables false
set_option linter.unnecessarySimpa false
namespace Go.Dr
/-- the bytes of settings -/
def setsB (l : List (Nat × Nat)) : Bytes := l.flatMap fun s => Go.Proofs.YtlkfmhbmcicmfaaGreatDoor.beP s.1 2 ++ Go.Proofs.YtlkfmhbmcicmfaaGreatDoor.beP s.2 4
end Go.Dr
namespace Go.Proofs.YtlkfmhbmcicmfaaGreatDoor
open Go.RowKit Go.Dr
theorem setsB_len (l : List (Nat × Nat)) : (setsB l).length = 6 * l.length := by
  induction l with
  | nil => rfl
  | cons s l ih =>
    unfold setsB at *
    rw [List.flatMap_cons, List.length_append, ih, List.length_append, beP_length _ 2 (by decide), beP_length _ 4 (by decide), List.length_cons]
    omega
theorem setsB_snoc (l : List (Nat × Nat)) (k : Nat) (h : k < l.length) : setsB (l.take (k + 1)) = setsB (l.take k) ++ (beP l[k].1 2 ++ beP l[k].2 4) := by
  unfold setsB
  rw [take_snoc l k h, List.flatMap_append]
  simp

set_option maxRecDepth 100000 in
set_option maxHeartbeats 4000000 in
theorem bare_SetV (fl st : Nat) (vs : Value) (w : World) : Calls Tryz.prog 186 #[.agg #[.int .i64 4, .int .i64 (fl : Int), .int .i64 (st : Int), S [], .int .i64 0, vs, .int .i64 0, .int .i64 0, .int .i64 0, .int .i64 0, .int .i64 0, .bool false]] w fun e w' => e = .returned (.agg #[.int .i64 4, .int .i64 (fl : Int), .int .i64 (st : Int), S [], .int .i64 0, .slice none 0 0, .int .i64 0, .int .i64 0, .int .i64 0, .int .i64 0, .int .i64 0, .bool false]) ∧ Below w.heap.size w w' := by
  obtain ⟨W, eW⟩ : ∃ W, W = (w.alloc (.cells #[.int .i64 4, .int .i64 (fl : Int), .int .i64 (st : Int), S [], .int .i64 0, vs, .int .i64 0, .int .i64 0, .int .i64 0, .int .i64 0, .int .i64 0, .bool false] 34)).alloc (.cells #[.int .i64 0, .int .i64 0, .int .i64 0, S [], .int .i64 0, .slice none 0 0, .int .i64 0, .int .i64 0, .int .i64 0, .int .i64 0, .int .i64 0, .bool false] 34) := ⟨_, rfl⟩
  have hA : Blk W w.heap.size 34 #[.int .i64 4, .int .i64 (fl : Int), .int .i64 (st : Int), S [], .int .i64 0, vs, .int .i64 0, .int .i64 0, .int .i64 0, .int .i64 0, .int .i64 0, .bool false] := by rw [eW]; exact (Blk.new _ _ _).alloc _
  have hZ : Blk W (w.heap.size + 1) 34 #[.int .i64 0, .int .i64 0, .int .i64 0, S [], .int .i64 0, .slice none 0 0, .int .i64 0, .int .i64 0, .int .i64 0, .int .i64 0, .int .i64 0, .bool false] := by rw [eW]; exact bnew_at _ _ _ _ (by simp)
  have hb : Below w.heap.size w W := by rw [eW]; exact ((Below.refl _ _).alloc (Nat.le_refl _) _).alloc (by simp) _
  have a0 : W.cell? ⟨w.heap.size, 0, none⟩ = some (.int .i64 4) := hA.cell 0
  have a1 : W.cell? ⟨w.heap.size, 1, none⟩ = some (.int .i64 (fl : Int)) := hA.cell 1
  have a2 : W.cell? ⟨w.heap.size, 2, none⟩ = some (.int .i64 (st : Int)) := hA.cell 2
  have a3 : W.cell? ⟨w.heap.size, 3, none⟩ = some (S []) := hA.cell 3
  have a4 : W.cell? ⟨w.heap.size, 4, none⟩ = some (.int .i64 0) := hA.cell 4
  have a5 : W.cell? ⟨w.heap.size, 5, none⟩ = some vs := hA.cell 5
  have a6 : W.cell? ⟨w.heap.size, 6, none⟩ = some (.int .i64 0) := hA.cell 6
  have a7 : W.cell? ⟨w.heap.size, 7, none⟩ = some (.int .i64 0) := hA.cell 7
  have a8 : W.cell? ⟨w.heap.size, 8, none⟩ = some (.int .i64 0) := hA.cell 8
  have a9 : W.cell? ⟨w.heap.size, 9, none⟩ = some (.int .i64 0) := hA.cell 9
  have a10 : W.cell? ⟨w.heap.size, 10, none⟩ = some (.int .i64 0) := hA.cell 10
  have a11 : W.cell? ⟨w.heap.size, 11, none⟩ = some (.bool false) := hA.cell 11
  have b3 := hA.free 3
  have b5 := hA.free 5
  have b6 := hA.free 6
  have b7 := hA.free 7
  have b8 := hA.free 8
  have z0 : W.cell? ⟨w.heap.size + 1, 0, none⟩ = some (.int .i64 0) := hZ.cell 0
  have z1 : W.cell? ⟨w.heap.size + 1, 1, none⟩ = some (.int .i64 0) := hZ.cell 1
  have z2 : W.cell? ⟨w.heap.size + 1, 2, none⟩ = some (.int .i64 0) := hZ.cell 2
  have z3 : W.cell? ⟨w.heap.size + 1, 3, none⟩ = some (S []) := hZ.cell 3
  have z4 : W.cell? ⟨w.heap.size + 1, 4, none⟩ = some (.int .i64 0) := hZ.cell 4
  have z5 : W.cell? ⟨w.heap.size + 1, 5, none⟩ = some (.slice none 0 0) := hZ.cell 5
  have z6 : W.cell? ⟨w.heap.size + 1, 6, none⟩ = some (.int .i64 0) := hZ.cell 6
  have z7 : W.cell? ⟨w.heap.size + 1, 7, none⟩ = some (.int .i64 0) := hZ.cell 7
  have z8 : W.cell? ⟨w.heap.size + 1, 8, none⟩ = some (.int .i64 0) := hZ.cell 8
  have z9 : W.cell? ⟨w.heap.size + 1, 9, none⟩ = some (.int .i64 0) := hZ.cell 9
  have z10 : W.cell? ⟨w.heap.size + 1, 10, none⟩ = some (.int .i64 0) := hZ.cell 10
  have z11 : W.cell? ⟨w.heap.size + 1, 11, none⟩ = some (.bool false) := hZ.cell 11
  have y0 := hZ.free 0
  have y1 := hZ.free 1
  have y2 := hZ.free 2
  have y3 := hZ.free 3
  have y4 := hZ.free 4
  have y5 := hZ.free 5
  have y6 := hZ.free 6
  have y7 := hZ.free 7
  have y8 := hZ.free 8
  have y9 := hZ.free 9
  have y10 := hZ.free 10
  have y11 := hZ.free 11
  go_enter Tryz.func186, Tryz.ntmps186
  go_upto_region 1 with fail
  rw [← eW]
  clear eW
  go_wp2
  refine bodyPost_ret (results_cell1 Tryz.results186 rfl (run_loadVar_row _ (w.heap.size + 1) 34 34 _ (0, 0) _ (set12 ((hZ.other (p := ⟨w.heap.size, 5, none⟩) (by simp) (.slice none 0 0))) _ _ _ _ _ _ _ _ _ _ _ _) Tryz.underlying34 (by rfl) (by kernel_rfl))) rfl ⟨rfl, bel12 ((hb.setCell (p := ⟨w.heap.size, 5, none⟩) (Nat.le_refl _) (.slice none 0 0))) (by omega) _ _ _ _ _ _ _ _ _ _ _ _⟩

set_option maxRecDepth 100000 in
set_option maxHeartbeats 8000000 in
theorem pmay_SetV (fl st : Nat) (hfl : fl < 256) (hst : st < 2147483648) (l : List (Nat × Nat)) (sa : Option Addr) (sc : Nat) (hset : ∀ s ∈ l, s.1 < 65536 ∧ s.2 < 4294967296) (w : World) (hv : Sts w.heap.size w (.slice sa l.length sc) l) : Calls Tryz.prog 134 #[.agg #[.int .i64 4, .int .i64 (fl : Int), .int .i64 (st : Int), S [], .int .i64 0, .slice sa l.length sc, .int .i64 0, .int .i64 0, .int .i64 0, .int .i64 0, .int .i64 0, .bool false]] w fun e w' => e = .returned (.bool true) ∧ Below w.heap.size w w' := by
  obtain ⟨W, eW⟩ : ∃ W, W = w.alloc (.cells #[.int .i64 4, .int .i64 (fl : Int), .int .i64 (st : Int), S [], .int .i64 0, .slice sa l.length sc, .int .i64 0, .int .i64 0, .int .i64 0, .int .i64 0, .int .i64 0, .bool false] 34) := ⟨_, rfl⟩
  have hA : Blk W w.heap.size 34 #[.int .i64 4, .int .i64 (fl : Int), .int .i64 (st : Int), S [], .int .i64 0, .slice sa l.length sc, .int .i64 0, .int .i64 0, .int .i64 0, .int .i64 0, .int .i64 0, .bool false] := by rw [eW]; exact Blk.new _ _ _
  have hb : Below w.heap.size w W := by rw [eW]; exact (Below.refl _ _).alloc (Nat.le_refl _) _
  have hll : l.length ≤ 9223372036854775807 := by have h := hv; obtain ⟨_, _, e, h1, h2, _⟩ := h; unfold maxLen at h2; omega
  have a0 : W.cell? ⟨w.heap.size, 0, none⟩ = some (.int .i64 4) := hA.cell 0
  have a1 : W.cell? ⟨w.heap.size, 1, none⟩ = some (.int .i64 (fl : Int)) := hA.cell 1
  have a2 : W.cell? ⟨w.heap.size, 2, none⟩ = some (.int .i64 (st : Int)) := hA.cell 2
  have a3 : W.cell? ⟨w.heap.size, 3, none⟩ = some (S []) := hA.cell 3
  have a4 : W.cell? ⟨w.heap.size, 4, none⟩ = some (.int .i64 0) := hA.cell 4
  have a5 : W.cell? ⟨w.heap.size, 5, none⟩ = some (.slice sa l.length sc) := hA.cell 5
  have a6 : W.cell? ⟨w.heap.size, 6, none⟩ = some (.int .i64 0) := hA.cell 6
  have a7 : W.cell? ⟨w.heap.size, 7, none⟩ = some (.int .i64 0) := hA.cell 7
  have a8 : W.cell? ⟨w.heap.size, 8, none⟩ = some (.int .i64 0) := hA.cell 8
  have a9 : W.cell? ⟨w.heap.size, 9, none⟩ = some (.int .i64 0) := hA.cell 9
  have a10 : W.cell? ⟨w.heap.size, 10, none⟩ = some (.int .i64 0) := hA.cell 10
  have a11 : W.cell? ⟨w.heap.size, 11, none⟩ = some (.bool false) := hA.cell 11
  have hw1 := fun (b : Nat) (w : World) (h : Blk w b 2 #[.int .i64 4, .int .i64 (fl : Int), .int .i64 0, .int .i64 0]) => Within4 255 _ _ _ _ b w h (by omega) (by omega) (by omega) (by omega)
  have hw2 := fun (b : Nat) (w : World) (h : Blk w b 2 #[.int .i64 (st : Int), .int .i64 0, .int .i64 0, .int .i64 0]) => Within4 2147483647 _ _ _ _ b w h (by omega) (by omega) (by omega) (by omega)
  have hw3 := fun (b : Nat) (w : World) (h : Blk w b 2 #[.int .i64 0]) => Within1 4294967295 _ b w h (by omega)
  have hB := fun w => bare_SetV fl st (.slice sa l.length sc) w
  have hE := fun w => empty_4 fl st w
  go_enter Tryz.func134, Tryz.ntmps134
  go_upto_region 1 with fail
  rw [← eW]
  clear eW
  go_wp2
  go_loopw [8] (fun i wr => ∃ k : Nat, k ≤ l.length ∧ i = .int .i64 (k : Int) ∧ Below w.heap.size w wr ∧ Blk wr w.heap.size 34 #[.int .i64 4, .int .i64 (fl : Int), .int .i64 (st : Int), S [], .int .i64 0, .slice sa l.length sc, .int .i64 0, .int .i64 0, .int .i64 0, .int .i64 0, .int .i64 0, .bool false]) (fun i _ => l.length - (intOf i).toNat)
  case atStart => exact ⟨0, Nat.zero_le _, rfl, hb, hA⟩
  case round =>
    obtain ⟨k, hk, rfl, hb, hA⟩ := hrel
    by_cases hlt : k < l.length
    · obtain ⟨b, off, eab, hbl, x0, x1⟩ := Sts.at (show Sts w.heap.size wr (.slice sa l.length sc) l from Rd.below hv hb) k hlt
      subst eab
      have hs := hset _ (List.getElem_mem hlt)
      generalize l[k].1 = id at *
      generalize l[k].2 = v at *
      have hz := hb.size
      have hwa := fun (b : Nat) (w : World) (h : Blk w b 2 #[.int .i64 (id : Int)]) => Within1 65535 _ b w h (by omega)
      have hwb := fun (b : Nat) (w : World) (h : Blk w b 2 #[.int .i64 (v : Int)]) => Within1 4294967295 _ b w h (by omega)
      have HS := Lib.hid hset
      clear hset
      go_wp2_with first
        | (go_at_call 184; (with_reducible refine (hwa (wr.heap.size + 1) _ (bnew_at _ _ _ _ (by simp))).mono ?_); rintro e w4 ⟨rfl, e4⟩; have hS4 : Blk w4 wr.heap.size 31 #[.int .i64 (id : Int), .int .i64 (v : Int)] := (by rw [e4]; exact (Blk.new _ _ _).alloc _); have hA4 : Blk w4 w.heap.size 34 _ := (by rw [e4]; exact (hA.alloc _).alloc _); have hb4 : Below w.heap.size w w4 := (by rw [e4]; exact (hb.alloc hz _).alloc (by simp; omega) _); clear e4; have q1 : w4.cell? ⟨wr.heap.size, 1, none⟩ = some (.int .i64 (v : Int)) := hS4.cell 1)
        | (go_at_call 184; (with_reducible refine (hwb _ _ (Blk.new _ _ _)).mono ?_); rintro e w5 ⟨rfl, e5⟩; have hA5 : Blk w5 w.heap.size 34 _ := (by rw [e5]; exact hA4.alloc _); have hb5 : Below w.heap.size w w5 := (by rw [e5]; exact hb4.alloc hb4.size _); clear e5)
      go_roundw
      case rel => exact ⟨k + 1, by omega, by go_num, hb5, hA5⟩
      case measure => simp [intOf]; omega
    · obtain rfl : k = l.length := by omega
      clear hset
      have hz := hb.size
      (have a0 : wr.cell? ⟨w.heap.size, 0, none⟩ = some (.int .i64 4) := hA.cell 0; have a1 : wr.cell? ⟨w.heap.size, 1, none⟩ = some (.int .i64 (fl : Int)) := hA.cell 1; have a2 : wr.cell? ⟨w.heap.size, 2, none⟩ = some (.int .i64 (st : Int)) := hA.cell 2; have a3 : wr.cell? ⟨w.heap.size, 3, none⟩ = some (S []) := hA.cell 3; have a4 : wr.cell? ⟨w.heap.size, 4, none⟩ = some (.int .i64 0) := hA.cell 4; have a5 : wr.cell? ⟨w.heap.size, 5, none⟩ = some (.slice sa l.length sc) := hA.cell 5; have a6 : wr.cell? ⟨w.heap.size, 6, none⟩ = some (.int .i64 0) := hA.cell 6; have a7 : wr.cell? ⟨w.heap.size, 7, none⟩ = some (.int .i64 0) := hA.cell 7; have a8 : wr.cell? ⟨w.heap.size, 8, none⟩ = some (.int .i64 0) := hA.cell 8; have a9 : wr.cell? ⟨w.heap.size, 9, none⟩ = some (.int .i64 0) := hA.cell 9; have a10 : wr.cell? ⟨w.heap.size, 10, none⟩ = some (.int .i64 0) := hA.cell 10; have a11 : wr.cell? ⟨w.heap.size, 11, none⟩ = some (.bool false) := hA.cell 11)
      go_wp2_with first
        | (go_at_call 184; (with_reducible refine (hw3 _ _ (Blk.new _ _ _)).mono ?_); rintro e w6 ⟨rfl, e6⟩; have hA6 : Blk w6 w.heap.size 34 #[.int .i64 4, .int .i64 (fl : Int), .int .i64 (st : Int), S [], .int .i64 0, .slice sa l.length sc, .int .i64 0, .int .i64 0, .int .i64 0, .int .i64 0, .int .i64 0, .bool false] := (by rw [e6]; exact hA5.alloc _); have hb6 : Below w.heap.size w w6 := (by rw [e6]; exact hb5.alloc hz5 _); clear e6; have hz6 := hb6.size; (have d60 : w6.cell? ⟨w.heap.size, 0, none⟩ = some (.int .i64 4) := hA6.cell 0; have d61 : w6.cell? ⟨w.heap.size, 1, none⟩ = some (.int .i64 (fl : Int)) := hA6.cell 1; have d62 : w6.cell? ⟨w.heap.size, 2, none⟩ = some (.int .i64 (st : Int)) := hA6.cell 2; have d63 : w6.cell? ⟨w.heap.size, 3, none⟩ = some (S []) := hA6.cell 3; have d64 : w6.cell? ⟨w.heap.size, 4, none⟩ = some (.int .i64 0) := hA6.cell 4; have d65 : w6.cell? ⟨w.heap.size, 5, none⟩ = some (.slice sa l.length sc) := hA6.cell 5; have d66 : w6.cell? ⟨w.heap.size, 6, none⟩ = some (.int .i64 0) := hA6.cell 6; have d67 : w6.cell? ⟨w.heap.size, 7, none⟩ = some (.int .i64 0) := hA6.cell 7; have d68 : w6.cell? ⟨w.heap.size, 8, none⟩ = some (.int .i64 0) := hA6.cell 8; have d69 : w6.cell? ⟨w.heap.size, 9, none⟩ = some (.int .i64 0) := hA6.cell 9; have d610 : w6.cell? ⟨w.heap.size, 10, none⟩ = some (.int .i64 0) := hA6.cell 10; have d611 : w6.cell? ⟨w.heap.size, 11, none⟩ = some (.bool false) := hA6.cell 11))
        | (go_at_call 184; (with_reducible refine (hw2 _ _ (Blk.new _ _ _)).mono ?_); rintro e w5 ⟨rfl, e5⟩; have hA5 : Blk w5 w.heap.size 34 #[.int .i64 4, .int .i64 (fl : Int), .int .i64 (st : Int), S [], .int .i64 0, .slice sa l.length sc, .int .i64 0, .int .i64 0, .int .i64 0, .int .i64 0, .int .i64 0, .bool false] := (by rw [e5]; exact hA4.alloc _); have hb5 : Below w.heap.size w w5 := (by rw [e5]; exact hb4.alloc hz4 _); clear e5; have hz5 := hb5.size; (have d50 : w5.cell? ⟨w.heap.size, 0, none⟩ = some (.int .i64 4) := hA5.cell 0; have d51 : w5.cell? ⟨w.heap.size, 1, none⟩ = some (.int .i64 (fl : Int)) := hA5.cell 1; have d52 : w5.cell? ⟨w.heap.size, 2, none⟩ = some (.int .i64 (st : Int)) := hA5.cell 2; have d53 : w5.cell? ⟨w.heap.size, 3, none⟩ = some (S []) := hA5.cell 3; have d54 : w5.cell? ⟨w.heap.size, 4, none⟩ = some (.int .i64 0) := hA5.cell 4; have d55 : w5.cell? ⟨w.heap.size, 5, none⟩ = some (.slice sa l.length sc) := hA5.cell 5; have d56 : w5.cell? ⟨w.heap.size, 6, none⟩ = some (.int .i64 0) := hA5.cell 6; have d57 : w5.cell? ⟨w.heap.size, 7, none⟩ = some (.int .i64 0) := hA5.cell 7; have d58 : w5.cell? ⟨w.heap.size, 8, none⟩ = some (.int .i64 0) := hA5.cell 8; have d59 : w5.cell? ⟨w.heap.size, 9, none⟩ = some (.int .i64 0) := hA5.cell 9; have d510 : w5.cell? ⟨w.heap.size, 10, none⟩ = some (.int .i64 0) := hA5.cell 10; have d511 : w5.cell? ⟨w.heap.size, 11, none⟩ = some (.bool false) := hA5.cell 11))
        | (go_at_call 184; (with_reducible refine (hw1 _ _ (Blk.new _ _ _)).mono ?_); rintro e w4 ⟨rfl, e4⟩; have hA4 : Blk w4 w.heap.size 34 #[.int .i64 4, .int .i64 (fl : Int), .int .i64 (st : Int), S [], .int .i64 0, .slice sa l.length sc, .int .i64 0, .int .i64 0, .int .i64 0, .int .i64 0, .int .i64 0, .bool false] := (by rw [e4]; exact hA.alloc _); have hb4 : Below w.heap.size w w4 := (by rw [e4]; exact hb.alloc hz _); clear e4; have hz4 := hb4.size; (have d40 : w4.cell? ⟨w.heap.size, 0, none⟩ = some (.int .i64 4) := hA4.cell 0; have d41 : w4.cell? ⟨w.heap.size, 1, none⟩ = some (.int .i64 (fl : Int)) := hA4.cell 1; have d42 : w4.cell? ⟨w.heap.size, 2, none⟩ = some (.int .i64 (st : Int)) := hA4.cell 2; have d43 : w4.cell? ⟨w.heap.size, 3, none⟩ = some (S []) := hA4.cell 3; have d44 : w4.cell? ⟨w.heap.size, 4, none⟩ = some (.int .i64 0) := hA4.cell 4; have d45 : w4.cell? ⟨w.heap.size, 5, none⟩ = some (.slice sa l.length sc) := hA4.cell 5; have d46 : w4.cell? ⟨w.heap.size, 6, none⟩ = some (.int .i64 0) := hA4.cell 6; have d47 : w4.cell? ⟨w.heap.size, 7, none⟩ = some (.int .i64 0) := hA4.cell 7; have d48 : w4.cell? ⟨w.heap.size, 8, none⟩ = some (.int .i64 0) := hA4.cell 8; have d49 : w4.cell? ⟨w.heap.size, 9, none⟩ = some (.int .i64 0) := hA4.cell 9; have d410 : w4.cell? ⟨w.heap.size, 10, none⟩ = some (.int .i64 0) := hA4.cell 10; have d411 : w4.cell? ⟨w.heap.size, 11, none⟩ = some (.bool false) := hA4.cell 11))
        | (go_at_call 186; (with_reducible refine (hB _).mono ?_); rintro e w7 ⟨rfl, hb7⟩)
        | (go_at_call 185; (with_reducible refine (hE _).mono ?_); rintro e w8 ⟨rfl, hb8⟩)
      go_ret
      exact ⟨rfl, (hb6.trans (hb7.mono hz6)).trans (hb8.mono (Nat.le_trans hz6 hb7.size))⟩

set_option maxRecDepth 100000 in
set_option maxHeartbeats 8000000 in
theorem ppay_SetV (fl st : Nat) (l : List (Nat × Nat)) (sa : Option Addr) (sc : Nat) (hset : ∀ s ∈ l, s.1 < 65536 ∧ s.2 < 4294967296) (hl6 : l.length ≤ 1000000) (w : World) (hv : Sts w.heap.size w (.slice sa l.length sc) l) : Calls Tryz.prog 135 #[.agg #[.int .i64 4, .int .i64 (fl : Int), .int .i64 (st : Int), S [], .int .i64 0, .slice sa l.length sc, .int .i64 0, .int .i64 0, .int .i64 0, .int .i64 0, .int .i64 0, .bool false]] w (OutB' (setsB l) w) := by
  obtain ⟨W, eW⟩ : ∃ W, W = w.alloc (.cells #[.int .i64 4, .int .i64 (fl : Int), .int .i64 (st : Int), S [], .int .i64 0, .slice sa l.length sc, .int .i64 0, .int .i64 0, .int .i64 0, .int .i64 0, .int .i64 0, .bool false] 34) := ⟨_, rfl⟩
  have hA : Blk W w.heap.size 34 #[.int .i64 4, .int .i64 (fl : Int), .int .i64 (st : Int), S [], .int .i64 0, .slice sa l.length sc, .int .i64 0, .int .i64 0, .int .i64 0, .int .i64 0, .int .i64 0, .bool false] := by rw [eW]; exact Blk.new _ _ _
  have hb : Below w.heap.size w W := by rw [eW]; exact (Below.refl _ _).alloc (Nat.le_refl _) _
  have hll : l.length ≤ 9223372036854775807 := by omega
  have a0 : W.cell? ⟨w.heap.size, 0, none⟩ = some (.int .i64 4) := hA.cell 0
  have a1 : W.cell? ⟨w.heap.size, 1, none⟩ = some (.int .i64 (fl : Int)) := hA.cell 1
  have a2 : W.cell? ⟨w.heap.size, 2, none⟩ = some (.int .i64 (st : Int)) := hA.cell 2
  have a3 : W.cell? ⟨w.heap.size, 3, none⟩ = some (S []) := hA.cell 3
  have a4 : W.cell? ⟨w.heap.size, 4, none⟩ = some (.int .i64 0) := hA.cell 4
  have a5 : W.cell? ⟨w.heap.size, 5, none⟩ = some (.slice sa l.length sc) := hA.cell 5
  have a6 : W.cell? ⟨w.heap.size, 6, none⟩ = some (.int .i64 0) := hA.cell 6
  have a7 : W.cell? ⟨w.heap.size, 7, none⟩ = some (.int .i64 0) := hA.cell 7
  have a8 : W.cell? ⟨w.heap.size, 8, none⟩ = some (.int .i64 0) := hA.cell 8
  have a9 : W.cell? ⟨w.heap.size, 9, none⟩ = some (.int .i64 0) := hA.cell 9
  have a10 : W.cell? ⟨w.heap.size, 10, none⟩ = some (.int .i64 0) := hA.cell 10
  have a11 : W.cell? ⟨w.heap.size, 11, none⟩ = some (.bool false) := hA.cell 11
  go_enter Tryz.func135, Tryz.ntmps135
  go_upto_region 1 with fail
  rw [← eW]
  clear eW
  go_wp2
  go_loopw [3, 55] (fun bv i wr => ∃ k : Nat, k ≤ l.length ∧ i = .int .i64 (k : Int) ∧ Below w.heap.size w wr ∧ wr.ownsRow w.heap.size 5 1 bv (setsB (l.take k)).length ((setsB (l.take k)).map B8)) (fun _ i _ => l.length - (intOf i).toNat)
  case atStart => exact ⟨0, Nat.zero_le _, rfl, hb, World.ownsRow_nil _ _ _ _⟩
  case round =>
    obtain ⟨k, hk, rfl, hb, ho⟩ := hrel
    by_cases hlt : k < l.length
    · obtain ⟨b, off, eab, hbl, x0, x1⟩ := Sts.at (show Sts w.heap.size wr (.slice sa l.length sc) l from Rd.below hv hb) k hlt
      subst eab
      have hs := hset _ (List.getElem_mem hlt)
      have hnx := setsB_snoc l k hlt
      have hlk : (setsB (l.take k)).length ≤ 6000000 := by rw [setsB_len, List.length_take]; omega
      have HS := Lib.hid hset
      have HN := Lib.hid hnx
      clear hset hnx
      generalize l[k].1 = id at *
      generalize l[k].2 = v at *
      generalize setsB (l.take k) = sofar at *
      have hz := hb.size
      have hid : IntKind.u32.wrap (id : Int) = (id : Int) := IntWalk.u32_in _ (by omega)
      have hid2 : (id : Int) % 4294967296 = (id : Int) := by omega
      have h2 := fun w => oPut2 id (by omega) w
      have h4 := fun w => pFour v (by omega) w
      obtain ⟨oa, oc, rfl⟩ := own_form ho
      go_upto_region 18 with fail
      refine wp_cut (R := fun W => Blk W wr.heap.size 31 #[.int .i64 (id : Int), .int .i64 (v : Int)] ∧ Below w.heap.size w W ∧ W.ownsRow w.heap.size 5 1 (.slice oa sofar.length oc) sofar.length (sofar.map B8) ∧ W.heap.size = wr.heap.size + 1) ⟨Blk.new _ _ _, hb.alloc hz _, ho.alloc _, by simp⟩ ?_
      rintro W2 ⟨hS2, hb2, ho2, hz2⟩
      have HZ := Lib.hid hz2
      have hz2' : w.heap.size ≤ W2.heap.size := hb2.size
      have hlt2 := hS2.lt
      clear hz2
      have q0 : W2.cell? ⟨wr.heap.size, 0, none⟩ = some (.int .i64 (id : Int)) := hS2.cell 0
      have q1 : W2.cell? ⟨wr.heap.size, 1, none⟩ = some (.int .i64 (v : Int)) := hS2.cell 1
      have hoB : ∀ g, some g = (Value.slice oa sofar.length oc).ownBlock → g < wr.heap.size := fun g hg => (ho.lt g hg.symm).2
      have S0 : Blk W2.drew wr.heap.size 31 _ := hS2.drew
      have O0 : W2.drew.ownsRow w.heap.size 5 1 (.slice oa sofar.length oc) sofar.length (sofar.map B8) := ho2
      have B0 : Below w.heap.size w W2.drew := hb2.drew
      have L0 : wr.heap.size + 1 ≤ W2.drew.heap.size := hlt2
      go_region_law (first
        | (have tok := Y5; have tok2 := Z5; refine step_of ?_ (by rfl); refine wp_appG _ _ 26 (by rfl) w.heap.size 5 (.int .u8 0) 1 1 Tryz.underlying26 (by kernel_rfl) rfl (by decide) (.slice aZ (sofar.length + 2) cZ) _ _ (by rfl) Z5 _ _ _ _ (by rfl) (Rd.own Y5) (b8_one2 _) (by unfold maxLen; omega) (by omega) (by have := L5; omega) ?_; intro aF cF w6 Z6 hb6 hg6; have B6 := B5.trans hb6)
        | (have tok := X4; have tok2 := Y4; refine step_of ?_ (by rfl); refine wp_appG _ _ 26 (by rfl) w.heap.size 5 (.int .u8 0) 1 1 Tryz.underlying26 (by kernel_rfl) rfl (by decide) (.slice oa sofar.length oc) _ _ (by rfl) O4 _ _ _ _ (by rfl) (Rd.own X4) (b8_one2 _) (by unfold maxLen; omega) (by omega) (by have := L4; omega) ?_; intro aZ cZ w5 Z5 hb5 hg5; have hne : some wr.heap.size ≠ (Value.slice oa sofar.length oc).ownBlock := (fun e => by have := hoB _ e; omega); have S5 := S4.grow hg5 hne; have B5 := B4.trans hb5; have L5 := Nat.le_trans L4 hb5.size; have q0 : w5.cell? ⟨wr.heap.size, 0, none⟩ = some (.int .i64 (id : Int)) := S5.cell 0; have q1 : w5.cell? ⟨wr.heap.size, 1, none⟩ = some (.int .i64 (v : Int)) := S5.cell 1; have Y5 := own_same Y4 (fun g hg => hg5.block g (own_lt Y4 hg).2 (fun e => by have h1 := hoB g e; have h2 := (own_lt Y4 hg).1; have h3 := YB; omega)))
        | (have tok := Z3; go_simp; go_at_call 137; (with_reducible refine (h4 _).mono ?_); rintro e w5 ⟨xY, rfl, Y5, hc5⟩; obtain ⟨aY, cY, rfl⟩ := own_form Y5; have S5 := S3.on hc5; have B5 := B3.trans (hc5.mono (by have := L3; omega)); have L5 := Nat.le_trans L3 hc5.size; have q0 : w5.cell? ⟨wr.heap.size, 0, none⟩ = some (.int .i64 (id : Int)) := S5.cell 0; have q1 : w5.cell? ⟨wr.heap.size, 1, none⟩ = some (.int .i64 (v : Int)) := S5.cell 1; have Z5 := own_below Z3 hc5)
        | (have tok := X1; refine step_of ?_ (by rfl); refine wp_appG _ _ 26 (by rfl) w.heap.size 5 (.int .u8 0) 1 1 Tryz.underlying26 (by kernel_rfl) rfl (by decide) (.slice oa sofar.length oc) _ _ (by rfl) O1 _ _ _ _ (by rfl) (Rd.own X1) (b8_one2 _) (by unfold maxLen; omega) (by omega) (by have := L1; omega) ?_; intro aZ cZ w3 Z3 hb3 hg3; have hne : some wr.heap.size ≠ (Value.slice oa sofar.length oc).ownBlock := (fun e => by have := hoB _ e; omega); have S3 := S1.grow hg3 hne; have B3 := B1.trans hb3; have L3 := Nat.le_trans L1 hb3.size; have q0 : w3.cell? ⟨wr.heap.size, 0, none⟩ = some (.int .i64 (id : Int)) := S3.cell 0; have q1 : w3.cell? ⟨wr.heap.size, 1, none⟩ = some (.int .i64 (v : Int)) := S3.cell 1)
        | (have tok := X1; go_simp; go_at_call 137; (with_reducible refine (h4 _).mono ?_); rintro e w4 ⟨xY, rfl, Y4, hc4⟩; have YB : wr.heap.size + 1 ≤ w1.heap.size := L1; obtain ⟨aY, cY, rfl⟩ := own_form Y4; have S4 := S1.on hc4; have B4 := B1.trans (hc4.mono (by have := L1; omega)); have L4 := Nat.le_trans L1 hc4.size; have q0 : w4.cell? ⟨wr.heap.size, 0, none⟩ = some (.int .i64 (id : Int)) := S4.cell 0; have q1 : w4.cell? ⟨wr.heap.size, 1, none⟩ = some (.int .i64 (v : Int)) := S4.cell 1; have O4 := own_below O1 hc4; have X4 := own_below X1 hc4)
        | (have tok := Y2; go_simp; go_at_call 136; (with_reducible refine (h2 _).mono ?_); rintro e w4 ⟨xX, rfl, X4, hc4⟩; obtain ⟨aX, cX, rfl⟩ := own_form X4; have S4 := S2.on hc4; have B4 := B2.trans (hc4.mono (by have := L2; omega)); have L4 := Nat.le_trans L2 hc4.size; have q0 : w4.cell? ⟨wr.heap.size, 0, none⟩ = some (.int .i64 (id : Int)) := S4.cell 0; have q1 : w4.cell? ⟨wr.heap.size, 1, none⟩ = some (.int .i64 (v : Int)) := S4.cell 1; have O4 := own_below O2 hc4; have Y4 := own_below Y2 hc4)
        | (have tok := S0; go_simp; go_at_call 136; (with_reducible refine (h2 _).mono ?_); rintro e w1 ⟨xX, rfl, X1, hc1⟩; obtain ⟨aX, cX, rfl⟩ := own_form X1; have S1 := S0.on hc1; have B1 := B0.trans (hc1.mono (by have := L0; omega)); have L1 := Nat.le_trans L0 hc1.size; have q0 : w1.cell? ⟨wr.heap.size, 0, none⟩ = some (.int .i64 (id : Int)) := S1.cell 0; have q1 : w1.cell? ⟨wr.heap.size, 1, none⟩ = some (.int .i64 (v : Int)) := S1.cell 1; have O1 := own_below O0 hc1)
        | (have tok := S0; go_simp; go_at_call 137; (with_reducible refine (h4 _).mono ?_); rintro e w2 ⟨xY, rfl, Y2, hc2⟩; have YB : wr.heap.size + 1 ≤ W2.drew.heap.size := L0; obtain ⟨aY, cY, rfl⟩ := own_form Y2; have S2 := S0.on hc2; have B2 := B0.trans (hc2.mono (by have := L0; omega)); have L2 := Nat.le_trans L0 hc2.size; have q0 : w2.cell? ⟨wr.heap.size, 0, none⟩ = some (.int .i64 (id : Int)) := S2.cell 0; have q1 : w2.cell? ⟨wr.heap.size, 1, none⟩ = some (.int .i64 (v : Int)) := S2.cell 1; have O2 := own_below O0 hc2))
      all_goals (
        go_wp2
        go_roundw
        case rel => exact ⟨k + 1, by omega, by go_num, B6, by rw [HN.out, List.map_append, List.map_append, List.length_append, List.length_append, beP_length _ 2 (by decide), beP_length _ 4 (by decide), ← List.append_assoc, ← Nat.add_assoc]; exact Z6⟩
        case measure => simp [intOf]; omega)
    · obtain rfl : k = l.length := by omega
      rw [List.take_length] at ho
      clear hset
      go_wp2
      go_ret
      exact ⟨_, rfl, ho, hb⟩

theorem pPut_SetV (fl st : Nat) (hfl : fl < 256) (hst : st < 2147483648) (l : List (Nat × Nat)) (sa : Option Addr) (sc : Nat) (hset : ∀ s ∈ l, s.1 < 65536 ∧ s.2 < 4294967296) (hl6 : l.length ≤ 1000000) (w : World) (hv : Sts w.heap.size w (.slice sa l.length sc) l) : Calls Tryz.prog 101 #[.agg #[.int .i64 4, .int .i64 (fl : Int), .int .i64 (st : Int), S [], .int .i64 0, .slice sa l.length sc, .int .i64 0, .int .i64 0, .int .i64 0, .int .i64 0, .int .i64 0, .bool false]] w fun e w' => ∃ v, e = .returned (.tuple #[v, .int .i64 0]) ∧ w'.ownsRow w.heap.size 5 1 v (frB 4 fl st (setsB l)).length ((frB 4 fl st (setsB l)).map B8) ∧ Below w.heap.size w w' :=
  pPut_of w 4 fl st (by decide) hfl hst _ _ _ _ _ _ _ _ _ (fun w1 hb => pmay_SetV fl st hfl hst l sa sc hset w1 ((Rd.below hv hb).mono hb.size)) (setsB l) (by rw [setsB_len]; omega) (fun w1 hb => ppay_SetV fl st l sa sc hset hl6 w1 ((Rd.below hv hb).mono hb.size))

end Go.Proofs.YtlkfmhbmcicmfaaGreatDoor

