
/- ControlAdds: a directive more sets just what it says, and nothing else. -/
import Derived.Test.YtcicpboblppfiaaDoorLaw13a
import Derived.Deep.RegionHeld3
import Derived.Test.YtcicpboblppfiaaDoorBase3
namespace Go.Proofs.YtcicpboblppfiaaDoor
open Go.RowKit Go.Dr

def flagF (k : Nat) : F := ⟨CacheControl, flagName k, false⟩
def flagNames : List Bytes := [noStore, noCache, noTransform, pubName, privName, mustRe, proxyRe, onlyIf]
theorem fsum_flag (l : List F) (k : Nat) (hk : k < 8) (h : fsum l ≤ 16384) : fsum (l ++ [flagF k]) ≤ 1099511627776 := by
  rw [fsum_append]
  have : fsum [flagF k] ≤ 100 := by
    match k, hk with
    | 0, _ => decide
    | 1, _ => decide
    | 2, _ => decide
    | 3, _ => decide
    | 4, _ => decide
    | 5, _ => decide
    | 6, _ => decide
    | 7, _ => decide
  omega

set_option linter.unusedSimpArgs false in
set_option maxRecDepth 100000 in
set_option maxHeartbeats 8000000 in
theorem adds0 (l : List F) (n : Int) (v : Value) (w : World) (h : Fs w.heap.size w v l) (hb : ∀ f ∈ l, f.n.length ≤ 140737488355328 ∧ f.v.length ≤ 140737488355328)
    (hn0 : 0 ≤ n) (hn1 : n ≤ 255) (hk : n % 8 = 0) (hq : decide (16384 < (fbytes l : Int)) = false) (hsum : fsum l ≤ 16384) :
    Calls Tryd.prog 10 #[v, .int .u8 n] w fun e w' => e = .returned (.bool true) ∧ Below w.heap.size w w' := by
  have HB := Lib.hid hb
  clear hb
  have hll := fsum_length l
  go_enter Tryd.func10, Tryd.ntmps10
  go_wp2_with fail
  refine (awake13_any _).mono ?_
  rintro e w1 ⟨rfl, hb1⟩
  go_wp2_with fail
  refine (FBytes_any l v _ ((h.below hb1).mono hb1.size) HB.out).mono ?_
  rintro e w2 ⟨rfl, hb2⟩
  have hw2 := Bl.tr hb1 hb2
  have l2 := (h.below hw2).mono hw2.size
  clear h HB hb1 hb2
  have HA := Lib.hid (readC_adds l 0 (by decide))
  have HS := Lib.hid (fsum_flag l 0 (by decide) hsum)
  (generalize hgenc : readC l = c at *; have Hc := Lib.hid hgenc; clear hgenc)
  have hN := Blk.new w2 9 (flagNames.map S).toArray
  have hal : Below w2.heap.size w2 (w2.alloc (.cells (flagNames.map S).toArray 9)) := (Below.refl _ _).alloc (Nat.le_refl _) _
  have l3 := (l2.below hal).mono hal.size
  have hw3 := Bl.tr hw2 hal
  clear l2 hal hw2
  go_wp2_with fail
  change Calls _ _ _ (w2.alloc (.cells (flagNames.map S).toArray 9)) _
  generalize w2.alloc (.cells (flagNames.map S).toArray 9) = w3 at *
  generalize w2.heap.size = bN at *
  refine (Read_at c l Hc.out _ _ l3 (by omega)).mono ?_
  rintro e w4 ⟨rfl, hb4⟩
  have hal : Below w4.heap.size w4 (w4.alloc (.cells (c.flag 0).cells 66)) := (Below.refl _ _).alloc (Nat.le_refl _) _
  have hC := Blk.new w4 66 (c.flag 0).cells
  have h34 := Bl.tr hb4 hal
  have hw5 := Bl.tr hw3 h34
  have l5 := (l3.below h34).mono h34.size
  have hN5 := hN.on h34
  have hNC : bN < w4.heap.size := Nat.lt_of_lt_of_le hN.lt hb4.size
  go_wp2_with fail
  change Code.wp _ _ _ _ (w4.alloc (.cells (c.flag 0).cells 66))
  have hNC' : bN ≠ w4.heap.size := by omega
  clear hNC hal hb4 l3 hw3 h34 hN
  generalize w4.alloc (.cells (c.flag 0).cells 66) = w5 at *
  generalize w4.heap.size = bC at *
  have hCl := hC.lt
  have hNl := hN5.lt
  obtain ⟨pa, ca, rfl, hm⟩ := l5.form
  (have g0 : w5.cell? ⟨bC, 0, none⟩ = some (.bool true) := hC.cell 0; have g1 : w5.cell? ⟨bC, 1, none⟩ = some (.bool c.nc) := hC.cell 1; have g2 : w5.cell? ⟨bC, 2, none⟩ = some (.bool c.nt) := hC.cell 2; have g3 : w5.cell? ⟨bC, 3, none⟩ = some (.bool c.pu) := hC.cell 3; have g4 : w5.cell? ⟨bC, 4, none⟩ = some (.bool c.pr) := hC.cell 4; have g5 : w5.cell? ⟨bC, 5, none⟩ = some (.bool c.mr) := hC.cell 5; have g6 : w5.cell? ⟨bC, 6, none⟩ = some (.bool c.px) := hC.cell 6; have g7 : w5.cell? ⟨bC, 7, none⟩ = some (.bool c.oi) := hC.cell 7; have g8 : w5.cell? ⟨bC, 8, none⟩ = some (.int .i64 c.ma) := hC.cell 8; have g9 : w5.cell? ⟨bC, 9, none⟩ = some (.int .i64 c.sm) := hC.cell 9; have g10 : w5.cell? ⟨bC, 10, none⟩ = some (.int .i64 c.mf) := hC.cell 10; have g11 : w5.cell? ⟨bC, 11, none⟩ = some (.int .i64 c.ms) := hC.cell 11; have gn : w5.cell? ⟨bN, 0, none⟩ = some (S (flagName 0)) := hN5.cell 0)
  go_wp2_with fail
  go_region_held3 (fun w' => w'.cell? ⟨bC, 0, none⟩ = some (.bool true) ∧ w'.cell? ⟨bC, 1, none⟩ = some (.bool c.nc) ∧ w'.cell? ⟨bC, 2, none⟩ = some (.bool c.nt) ∧ w'.cell? ⟨bC, 3, none⟩ = some (.bool c.pu) ∧ w'.cell? ⟨bC, 4, none⟩ = some (.bool c.pr) ∧ w'.cell? ⟨bC, 5, none⟩ = some (.bool c.mr) ∧ w'.cell? ⟨bC, 6, none⟩ = some (.bool c.px) ∧ w'.cell? ⟨bC, 7, none⟩ = some (.bool c.oi) ∧ w'.cell? ⟨bC, 8, none⟩ = some (.int .i64 c.ma) ∧ w'.cell? ⟨bC, 9, none⟩ = some (.int .i64 c.sm) ∧ w'.cell? ⟨bC, 10, none⟩ = some (.int .i64 c.mf) ∧ w'.cell? ⟨bC, 11, none⟩ = some (.int .i64 c.ms) ∧ w'.cell? ⟨bN, 0, none⟩ = some (S (flagName 0)))
    (first | go_keep)
    ((first
      | (refine step_of ?_ (by rfl); refine wp_appG0 _ _ 26 rfl w5.heap.size 45 (.agg #[.string ByteArray.empty, .string ByteArray.empty, .bool false]) 3 40 Tryd.underlying26 (by kernel_rfl) rfl (by decide) _ rfl (by first | exact own_lit w5.drew w5.heap.size rfl w5.heap.size (Nat.le_refl _) _ _ | exact (own_lit w5.drew w5.heap.size rfl w5.heap.size (Nat.le_refl _) _ _).alloc _ | exact own_lit (w5.drew.alloc _) (w5.heap.size + 1) (by simp) w5.heap.size (by omega) _ _) _ _ _ _ rfl (by first | exact l5.below ((Below.refl _ _).drew.alloc (Nat.le_refl _) _) | exact l5.below (((Below.refl _ _).drew.alloc (Nat.le_refl _) _).alloc (by simp) _)) (fcells_one _) (by unfold maxLen; omega) (by omega) (by first | omega | (simp; done) | (simp; omega)) ?_; intro a8 c8 w8 hown8 hb8 hg8; have hC8 : Blk w8 bC 66 (c.flag 0).cells := (by first | exact (hC.drew.alloc _).below hb8 hCl | exact ((hC.drew.alloc _).alloc _).below hb8 hCl); have hN8 : Blk w8 bN 9 (flagNames.map S).toArray := (by first | exact (hN5.drew.alloc _).below hb8 hNl | exact ((hN5.drew.alloc _).alloc _).below hb8 hNl); (have k0 : w8.cell? ⟨bC, 0, none⟩ = some (.bool true) := hC8.cell 0; have k1 : w8.cell? ⟨bC, 1, none⟩ = some (.bool c.nc) := hC8.cell 1; have k2 : w8.cell? ⟨bC, 2, none⟩ = some (.bool c.nt) := hC8.cell 2; have k3 : w8.cell? ⟨bC, 3, none⟩ = some (.bool c.pu) := hC8.cell 3; have k4 : w8.cell? ⟨bC, 4, none⟩ = some (.bool c.pr) := hC8.cell 4; have k5 : w8.cell? ⟨bC, 5, none⟩ = some (.bool c.mr) := hC8.cell 5; have k6 : w8.cell? ⟨bC, 6, none⟩ = some (.bool c.px) := hC8.cell 6; have k7 : w8.cell? ⟨bC, 7, none⟩ = some (.bool c.oi) := hC8.cell 7; have k8 : w8.cell? ⟨bC, 8, none⟩ = some (.int .i64 c.ma) := hC8.cell 8; have k9 : w8.cell? ⟨bC, 9, none⟩ = some (.int .i64 c.sm) := hC8.cell 9; have k10 : w8.cell? ⟨bC, 10, none⟩ = some (.int .i64 c.mf) := hC8.cell 10; have k11 : w8.cell? ⟨bC, 11, none⟩ = some (.int .i64 c.ms) := hC8.cell 11; have kn : w8.cell? ⟨bN, 0, none⟩ = some (S (flagName 0)) := hN8.cell 0); have hz8 : w5.heap.size < w8.heap.size := (by have := hg8.size; simp at this; omega))
      | (refine step_of ?_ (by rfl); refine wp_appG _ _ 26 rfl w5.heap.size 45 (.agg #[.string ByteArray.empty, .string ByteArray.empty, .bool false]) 3 40 Tryd.underlying26 (by kernel_rfl) rfl (by decide) _ _ _ rfl (by first | exact hown8.alloc _ | exact hown8) _ _ _ _ rfl (by first | exact (show Rd _ _ 3 _ 1 (fcells [flagF 0]) from Rd.lit w8 45 #[S CacheControl, S (flagName 0), .bool false] 3 1 rfl (by decide)) | exact (show Rd _ _ 3 _ 1 (fcells [flagF 0]) from (Rd.lit_at (w5.drew.alloc (.cells #[] 45)) (w5.heap.size + 1) (by simp) 45 #[S CacheControl, S (flagName 0), .bool false] 3 1 rfl (by decide)).block (B' := w8.heap.size) (hg8.block _ (by simp) (by show some _ ≠ some w5.heap.size; simp)) (by have q : w5.heap.size + 1 + 1 ≤ w8.heap.size := (by have := hg8.size; simpa using this); omega)) | exact (show Rd _ _ 3 _ 1 (fcells [flagF 0]) from (Rd.lit_at w5 w5.heap.size rfl 45 #[S CacheControl, S (flagName 0), .bool false] 3 1 rfl (by decide)).block (B' := w8.heap.size) ((hg8.block w5.heap.size (by simp; omega) (by show some _ ≠ some (w5.heap.size + 1); simp)).trans (Below.heap_alloc (w5.alloc (.cells #[S CacheControl, S (flagName 0), .bool false] 45)) _ w5.heap.size (by simp))) (by have q : w5.heap.size + 1 + 1 ≤ w8.heap.size := (by have := hg8.size; simpa using this); omega))) (fcells_one _) (by unfold maxLen; omega) (by omega) (by first | omega | (simp; done) | (simp; omega)) ?_; intro a9 c9 w9 hown9 hb9 hg9; have hC9 : Blk w9 bC 66 (c.flag 0).cells := (by first | exact (hC8.alloc _).below hb9 hCl | exact hC8.below hb9 hCl); have hN9 : Blk w9 bN 9 (flagNames.map S).toArray := (by first | exact (hN8.alloc _).below hb9 hNl | exact hN8.below hb9 hNl); (have k0 : w9.cell? ⟨bC, 0, none⟩ = some (.bool true) := hC9.cell 0; have k1 : w9.cell? ⟨bC, 1, none⟩ = some (.bool c.nc) := hC9.cell 1; have k2 : w9.cell? ⟨bC, 2, none⟩ = some (.bool c.nt) := hC9.cell 2; have k3 : w9.cell? ⟨bC, 3, none⟩ = some (.bool c.pu) := hC9.cell 3; have k4 : w9.cell? ⟨bC, 4, none⟩ = some (.bool c.pr) := hC9.cell 4; have k5 : w9.cell? ⟨bC, 5, none⟩ = some (.bool c.mr) := hC9.cell 5; have k6 : w9.cell? ⟨bC, 6, none⟩ = some (.bool c.px) := hC9.cell 6; have k7 : w9.cell? ⟨bC, 7, none⟩ = some (.bool c.oi) := hC9.cell 7; have k8 : w9.cell? ⟨bC, 8, none⟩ = some (.int .i64 c.ma) := hC9.cell 8; have k9 : w9.cell? ⟨bC, 9, none⟩ = some (.int .i64 c.sm) := hC9.cell 9; have k10 : w9.cell? ⟨bC, 10, none⟩ = some (.int .i64 c.mf) := hC9.cell 10; have k11 : w9.cell? ⟨bC, 11, none⟩ = some (.int .i64 c.ms) := hC9.cell 11; have kn : w9.cell? ⟨bN, 0, none⟩ = some (S (flagName 0)) := hN9.cell 0); have hw9 : Below w5.heap.size w5 w9 := (by first | exact (((((Below.refl w5.heap.size w5).drew.alloc (Nat.le_refl _) _).trans hb8).alloc (by omega) _).trans hb9) | exact ((((Below.refl w5.heap.size w5).drew.alloc (Nat.le_refl _) _).alloc (by simp) _).trans hb8).trans hb9); have hF9 : Fs w9.heap.size w9 (.slice a9 (l.length + 1) c9) (l ++ [flagF 0]) := (by have := Rd.own hown9; unfold Fs; rw [fcells_append, List.length_append]; exact this))
      | (go_at_call 35; refine (Read_at { c with ns := true } _ HA.out _ _ hF9 HS.out).mono ?_; rintro e w10 ⟨rfl, hb10⟩; have hC10 := hC9.on hb10; have hN10 := hN9.on hb10; (have m0 : w10.cell? ⟨bC, 0, none⟩ = some (.bool true) := hC10.cell 0; have m1 : w10.cell? ⟨bC, 1, none⟩ = some (.bool c.nc) := hC10.cell 1; have m2 : w10.cell? ⟨bC, 2, none⟩ = some (.bool c.nt) := hC10.cell 2; have m3 : w10.cell? ⟨bC, 3, none⟩ = some (.bool c.pu) := hC10.cell 3; have m4 : w10.cell? ⟨bC, 4, none⟩ = some (.bool c.pr) := hC10.cell 4; have m5 : w10.cell? ⟨bC, 5, none⟩ = some (.bool c.mr) := hC10.cell 5; have m6 : w10.cell? ⟨bC, 6, none⟩ = some (.bool c.px) := hC10.cell 6; have m7 : w10.cell? ⟨bC, 7, none⟩ = some (.bool c.oi) := hC10.cell 7; have m8 : w10.cell? ⟨bC, 8, none⟩ = some (.int .i64 c.ma) := hC10.cell 8; have m9 : w10.cell? ⟨bC, 9, none⟩ = some (.int .i64 c.sm) := hC10.cell 9; have m10 : w10.cell? ⟨bC, 10, none⟩ = some (.int .i64 c.mf) := hC10.cell 10; have m11 : w10.cell? ⟨bC, 11, none⟩ = some (.int .i64 c.ms) := hC10.cell 11; have mn : w10.cell? ⟨bN, 0, none⟩ = some (S (flagName 0)) := hN10.cell 0))))
  all_goals
    go_wp2
    go_ret
    exact ⟨rfl, Bl.tr hw5 (Bl.tr hw9 hb10)⟩

set_option linter.unusedSimpArgs false in
set_option maxRecDepth 100000 in
set_option maxHeartbeats 8000000 in
theorem adds1 (l : List F) (n : Int) (v : Value) (w : World) (h : Fs w.heap.size w v l) (hb : ∀ f ∈ l, f.n.length ≤ 140737488355328 ∧ f.v.length ≤ 140737488355328)
    (hn0 : 0 ≤ n) (hn1 : n ≤ 255) (hk : n % 8 = 1) (hq : decide (16384 < (fbytes l : Int)) = false) (hsum : fsum l ≤ 16384) :
    Calls Tryd.prog 10 #[v, .int .u8 n] w fun e w' => e = .returned (.bool true) ∧ Below w.heap.size w w' := by
  have HB := Lib.hid hb
  clear hb
  have hll := fsum_length l
  go_enter Tryd.func10, Tryd.ntmps10
  go_wp2_with fail
  refine (awake13_any _).mono ?_
  rintro e w1 ⟨rfl, hb1⟩
  go_wp2_with fail
  refine (FBytes_any l v _ ((h.below hb1).mono hb1.size) HB.out).mono ?_
  rintro e w2 ⟨rfl, hb2⟩
  have hw2 := Bl.tr hb1 hb2
  have l2 := (h.below hw2).mono hw2.size
  clear h HB hb1 hb2
  have HA := Lib.hid (readC_adds l 1 (by decide))
  have HS := Lib.hid (fsum_flag l 1 (by decide) hsum)
  (generalize hgenc : readC l = c at *; have Hc := Lib.hid hgenc; clear hgenc)
  have hN := Blk.new w2 9 (flagNames.map S).toArray
  have hal : Below w2.heap.size w2 (w2.alloc (.cells (flagNames.map S).toArray 9)) := (Below.refl _ _).alloc (Nat.le_refl _) _
  have l3 := (l2.below hal).mono hal.size
  have hw3 := Bl.tr hw2 hal
  clear l2 hal hw2
  go_wp2_with fail
  change Calls _ _ _ (w2.alloc (.cells (flagNames.map S).toArray 9)) _
  generalize w2.alloc (.cells (flagNames.map S).toArray 9) = w3 at *
  generalize w2.heap.size = bN at *
  refine (Read_at c l Hc.out _ _ l3 (by omega)).mono ?_
  rintro e w4 ⟨rfl, hb4⟩
  have hal : Below w4.heap.size w4 (w4.alloc (.cells (c.flag 1).cells 66)) := (Below.refl _ _).alloc (Nat.le_refl _) _
  have hC := Blk.new w4 66 (c.flag 1).cells
  have h34 := Bl.tr hb4 hal
  have hw5 := Bl.tr hw3 h34
  have l5 := (l3.below h34).mono h34.size
  have hN5 := hN.on h34
  have hNC : bN < w4.heap.size := Nat.lt_of_lt_of_le hN.lt hb4.size
  go_wp2_with fail
  change Code.wp _ _ _ _ (w4.alloc (.cells (c.flag 1).cells 66))
  have hNC' : bN ≠ w4.heap.size := by omega
  clear hNC hal hb4 l3 hw3 h34 hN
  generalize w4.alloc (.cells (c.flag 1).cells 66) = w5 at *
  generalize w4.heap.size = bC at *
  have hCl := hC.lt
  have hNl := hN5.lt
  obtain ⟨pa, ca, rfl, hm⟩ := l5.form
  (have g0 : w5.cell? ⟨bC, 0, none⟩ = some (.bool c.ns) := hC.cell 0; have g1 : w5.cell? ⟨bC, 1, none⟩ = some (.bool true) := hC.cell 1; have g2 : w5.cell? ⟨bC, 2, none⟩ = some (.bool c.nt) := hC.cell 2; have g3 : w5.cell? ⟨bC, 3, none⟩ = some (.bool c.pu) := hC.cell 3; have g4 : w5.cell? ⟨bC, 4, none⟩ = some (.bool c.pr) := hC.cell 4; have g5 : w5.cell? ⟨bC, 5, none⟩ = some (.bool c.mr) := hC.cell 5; have g6 : w5.cell? ⟨bC, 6, none⟩ = some (.bool c.px) := hC.cell 6; have g7 : w5.cell? ⟨bC, 7, none⟩ = some (.bool c.oi) := hC.cell 7; have g8 : w5.cell? ⟨bC, 8, none⟩ = some (.int .i64 c.ma) := hC.cell 8; have g9 : w5.cell? ⟨bC, 9, none⟩ = some (.int .i64 c.sm) := hC.cell 9; have g10 : w5.cell? ⟨bC, 10, none⟩ = some (.int .i64 c.mf) := hC.cell 10; have g11 : w5.cell? ⟨bC, 11, none⟩ = some (.int .i64 c.ms) := hC.cell 11; have gn : w5.cell? ⟨bN, 1, none⟩ = some (S (flagName 1)) := hN5.cell 1)
  go_wp2_with fail
  go_region_held3 (fun w' => w'.cell? ⟨bC, 0, none⟩ = some (.bool c.ns) ∧ w'.cell? ⟨bC, 1, none⟩ = some (.bool true) ∧ w'.cell? ⟨bC, 2, none⟩ = some (.bool c.nt) ∧ w'.cell? ⟨bC, 3, none⟩ = some (.bool c.pu) ∧ w'.cell? ⟨bC, 4, none⟩ = some (.bool c.pr) ∧ w'.cell? ⟨bC, 5, none⟩ = some (.bool c.mr) ∧ w'.cell? ⟨bC, 6, none⟩ = some (.bool c.px) ∧ w'.cell? ⟨bC, 7, none⟩ = some (.bool c.oi) ∧ w'.cell? ⟨bC, 8, none⟩ = some (.int .i64 c.ma) ∧ w'.cell? ⟨bC, 9, none⟩ = some (.int .i64 c.sm) ∧ w'.cell? ⟨bC, 10, none⟩ = some (.int .i64 c.mf) ∧ w'.cell? ⟨bC, 11, none⟩ = some (.int .i64 c.ms) ∧ w'.cell? ⟨bN, 1, none⟩ = some (S (flagName 1)))
    (first | go_keep)
    ((first
      | (refine step_of ?_ (by rfl); refine wp_appG0 _ _ 26 rfl w5.heap.size 45 (.agg #[.string ByteArray.empty, .string ByteArray.empty, .bool false]) 3 40 Tryd.underlying26 (by kernel_rfl) rfl (by decide) _ rfl (by first | exact own_lit w5.drew w5.heap.size rfl w5.heap.size (Nat.le_refl _) _ _ | exact (own_lit w5.drew w5.heap.size rfl w5.heap.size (Nat.le_refl _) _ _).alloc _ | exact own_lit (w5.drew.alloc _) (w5.heap.size + 1) (by simp) w5.heap.size (by omega) _ _) _ _ _ _ rfl (by first | exact l5.below ((Below.refl _ _).drew.alloc (Nat.le_refl _) _) | exact l5.below (((Below.refl _ _).drew.alloc (Nat.le_refl _) _).alloc (by simp) _)) (fcells_one _) (by unfold maxLen; omega) (by omega) (by first | omega | (simp; done) | (simp; omega)) ?_; intro a8 c8 w8 hown8 hb8 hg8; have hC8 : Blk w8 bC 66 (c.flag 1).cells := (by first | exact (hC.drew.alloc _).below hb8 hCl | exact ((hC.drew.alloc _).alloc _).below hb8 hCl); have hN8 : Blk w8 bN 9 (flagNames.map S).toArray := (by first | exact (hN5.drew.alloc _).below hb8 hNl | exact ((hN5.drew.alloc _).alloc _).below hb8 hNl); (have k0 : w8.cell? ⟨bC, 0, none⟩ = some (.bool c.ns) := hC8.cell 0; have k1 : w8.cell? ⟨bC, 1, none⟩ = some (.bool true) := hC8.cell 1; have k2 : w8.cell? ⟨bC, 2, none⟩ = some (.bool c.nt) := hC8.cell 2; have k3 : w8.cell? ⟨bC, 3, none⟩ = some (.bool c.pu) := hC8.cell 3; have k4 : w8.cell? ⟨bC, 4, none⟩ = some (.bool c.pr) := hC8.cell 4; have k5 : w8.cell? ⟨bC, 5, none⟩ = some (.bool c.mr) := hC8.cell 5; have k6 : w8.cell? ⟨bC, 6, none⟩ = some (.bool c.px) := hC8.cell 6; have k7 : w8.cell? ⟨bC, 7, none⟩ = some (.bool c.oi) := hC8.cell 7; have k8 : w8.cell? ⟨bC, 8, none⟩ = some (.int .i64 c.ma) := hC8.cell 8; have k9 : w8.cell? ⟨bC, 9, none⟩ = some (.int .i64 c.sm) := hC8.cell 9; have k10 : w8.cell? ⟨bC, 10, none⟩ = some (.int .i64 c.mf) := hC8.cell 10; have k11 : w8.cell? ⟨bC, 11, none⟩ = some (.int .i64 c.ms) := hC8.cell 11; have kn : w8.cell? ⟨bN, 1, none⟩ = some (S (flagName 1)) := hN8.cell 1); have hz8 : w5.heap.size < w8.heap.size := (by have := hg8.size; simp at this; omega))
      | (refine step_of ?_ (by rfl); refine wp_appG _ _ 26 rfl w5.heap.size 45 (.agg #[.string ByteArray.empty, .string ByteArray.empty, .bool false]) 3 40 Tryd.underlying26 (by kernel_rfl) rfl (by decide) _ _ _ rfl (by first | exact hown8.alloc _ | exact hown8) _ _ _ _ rfl (by first | exact (show Rd _ _ 3 _ 1 (fcells [flagF 1]) from Rd.lit w8 45 #[S CacheControl, S (flagName 1), .bool false] 3 1 rfl (by decide)) | exact (show Rd _ _ 3 _ 1 (fcells [flagF 1]) from (Rd.lit_at (w5.drew.alloc (.cells #[] 45)) (w5.heap.size + 1) (by simp) 45 #[S CacheControl, S (flagName 1), .bool false] 3 1 rfl (by decide)).block (B' := w8.heap.size) (hg8.block _ (by simp) (by show some _ ≠ some w5.heap.size; simp)) (by have q : w5.heap.size + 1 + 1 ≤ w8.heap.size := (by have := hg8.size; simpa using this); omega)) | exact (show Rd _ _ 3 _ 1 (fcells [flagF 1]) from (Rd.lit_at w5 w5.heap.size rfl 45 #[S CacheControl, S (flagName 1), .bool false] 3 1 rfl (by decide)).block (B' := w8.heap.size) ((hg8.block w5.heap.size (by simp; omega) (by show some _ ≠ some (w5.heap.size + 1); simp)).trans (Below.heap_alloc (w5.alloc (.cells #[S CacheControl, S (flagName 1), .bool false] 45)) _ w5.heap.size (by simp))) (by have q : w5.heap.size + 1 + 1 ≤ w8.heap.size := (by have := hg8.size; simpa using this); omega))) (fcells_one _) (by unfold maxLen; omega) (by omega) (by first | omega | (simp; done) | (simp; omega)) ?_; intro a9 c9 w9 hown9 hb9 hg9; have hC9 : Blk w9 bC 66 (c.flag 1).cells := (by first | exact (hC8.alloc _).below hb9 hCl | exact hC8.below hb9 hCl); have hN9 : Blk w9 bN 9 (flagNames.map S).toArray := (by first | exact (hN8.alloc _).below hb9 hNl | exact hN8.below hb9 hNl); (have k0 : w9.cell? ⟨bC, 0, none⟩ = some (.bool c.ns) := hC9.cell 0; have k1 : w9.cell? ⟨bC, 1, none⟩ = some (.bool true) := hC9.cell 1; have k2 : w9.cell? ⟨bC, 2, none⟩ = some (.bool c.nt) := hC9.cell 2; have k3 : w9.cell? ⟨bC, 3, none⟩ = some (.bool c.pu) := hC9.cell 3; have k4 : w9.cell? ⟨bC, 4, none⟩ = some (.bool c.pr) := hC9.cell 4; have k5 : w9.cell? ⟨bC, 5, none⟩ = some (.bool c.mr) := hC9.cell 5; have k6 : w9.cell? ⟨bC, 6, none⟩ = some (.bool c.px) := hC9.cell 6; have k7 : w9.cell? ⟨bC, 7, none⟩ = some (.bool c.oi) := hC9.cell 7; have k8 : w9.cell? ⟨bC, 8, none⟩ = some (.int .i64 c.ma) := hC9.cell 8; have k9 : w9.cell? ⟨bC, 9, none⟩ = some (.int .i64 c.sm) := hC9.cell 9; have k10 : w9.cell? ⟨bC, 10, none⟩ = some (.int .i64 c.mf) := hC9.cell 10; have k11 : w9.cell? ⟨bC, 11, none⟩ = some (.int .i64 c.ms) := hC9.cell 11; have kn : w9.cell? ⟨bN, 1, none⟩ = some (S (flagName 1)) := hN9.cell 1); have hw9 : Below w5.heap.size w5 w9 := (by first | exact (((((Below.refl w5.heap.size w5).drew.alloc (Nat.le_refl _) _).trans hb8).alloc (by omega) _).trans hb9) | exact ((((Below.refl w5.heap.size w5).drew.alloc (Nat.le_refl _) _).alloc (by simp) _).trans hb8).trans hb9); have hF9 : Fs w9.heap.size w9 (.slice a9 (l.length + 1) c9) (l ++ [flagF 1]) := (by have := Rd.own hown9; unfold Fs; rw [fcells_append, List.length_append]; exact this))
      | (go_at_call 35; refine (Read_at { c with nc := true } _ HA.out _ _ hF9 HS.out).mono ?_; rintro e w10 ⟨rfl, hb10⟩; have hC10 := hC9.on hb10; have hN10 := hN9.on hb10; (have m0 : w10.cell? ⟨bC, 0, none⟩ = some (.bool c.ns) := hC10.cell 0; have m1 : w10.cell? ⟨bC, 1, none⟩ = some (.bool true) := hC10.cell 1; have m2 : w10.cell? ⟨bC, 2, none⟩ = some (.bool c.nt) := hC10.cell 2; have m3 : w10.cell? ⟨bC, 3, none⟩ = some (.bool c.pu) := hC10.cell 3; have m4 : w10.cell? ⟨bC, 4, none⟩ = some (.bool c.pr) := hC10.cell 4; have m5 : w10.cell? ⟨bC, 5, none⟩ = some (.bool c.mr) := hC10.cell 5; have m6 : w10.cell? ⟨bC, 6, none⟩ = some (.bool c.px) := hC10.cell 6; have m7 : w10.cell? ⟨bC, 7, none⟩ = some (.bool c.oi) := hC10.cell 7; have m8 : w10.cell? ⟨bC, 8, none⟩ = some (.int .i64 c.ma) := hC10.cell 8; have m9 : w10.cell? ⟨bC, 9, none⟩ = some (.int .i64 c.sm) := hC10.cell 9; have m10 : w10.cell? ⟨bC, 10, none⟩ = some (.int .i64 c.mf) := hC10.cell 10; have m11 : w10.cell? ⟨bC, 11, none⟩ = some (.int .i64 c.ms) := hC10.cell 11; have mn : w10.cell? ⟨bN, 1, none⟩ = some (S (flagName 1)) := hN10.cell 1))))
  all_goals
    go_wp2
    go_ret
    exact ⟨rfl, Bl.tr hw5 (Bl.tr hw9 hb10)⟩

set_option linter.unusedSimpArgs false in
set_option maxRecDepth 100000 in
set_option maxHeartbeats 8000000 in
theorem adds2 (l : List F) (n : Int) (v : Value) (w : World) (h : Fs w.heap.size w v l) (hb : ∀ f ∈ l, f.n.length ≤ 140737488355328 ∧ f.v.length ≤ 140737488355328)
    (hn0 : 0 ≤ n) (hn1 : n ≤ 255) (hk : n % 8 = 2) (hq : decide (16384 < (fbytes l : Int)) = false) (hsum : fsum l ≤ 16384) :
    Calls Tryd.prog 10 #[v, .int .u8 n] w fun e w' => e = .returned (.bool true) ∧ Below w.heap.size w w' := by
  have HB := Lib.hid hb
  clear hb
  have hll := fsum_length l
  go_enter Tryd.func10, Tryd.ntmps10
  go_wp2_with fail
  refine (awake13_any _).mono ?_
  rintro e w1 ⟨rfl, hb1⟩
  go_wp2_with fail
  refine (FBytes_any l v _ ((h.below hb1).mono hb1.size) HB.out).mono ?_
  rintro e w2 ⟨rfl, hb2⟩
  have hw2 := Bl.tr hb1 hb2
  have l2 := (h.below hw2).mono hw2.size
  clear h HB hb1 hb2
  have HA := Lib.hid (readC_adds l 2 (by decide))
  have HS := Lib.hid (fsum_flag l 2 (by decide) hsum)
  (generalize hgenc : readC l = c at *; have Hc := Lib.hid hgenc; clear hgenc)
  have hN := Blk.new w2 9 (flagNames.map S).toArray
  have hal : Below w2.heap.size w2 (w2.alloc (.cells (flagNames.map S).toArray 9)) := (Below.refl _ _).alloc (Nat.le_refl _) _
  have l3 := (l2.below hal).mono hal.size
  have hw3 := Bl.tr hw2 hal
  clear l2 hal hw2
  go_wp2_with fail
  change Calls _ _ _ (w2.alloc (.cells (flagNames.map S).toArray 9)) _
  generalize w2.alloc (.cells (flagNames.map S).toArray 9) = w3 at *
  generalize w2.heap.size = bN at *
  refine (Read_at c l Hc.out _ _ l3 (by omega)).mono ?_
  rintro e w4 ⟨rfl, hb4⟩
  have hal : Below w4.heap.size w4 (w4.alloc (.cells (c.flag 2).cells 66)) := (Below.refl _ _).alloc (Nat.le_refl _) _
  have hC := Blk.new w4 66 (c.flag 2).cells
  have h34 := Bl.tr hb4 hal
  have hw5 := Bl.tr hw3 h34
  have l5 := (l3.below h34).mono h34.size
  have hN5 := hN.on h34
  have hNC : bN < w4.heap.size := Nat.lt_of_lt_of_le hN.lt hb4.size
  go_wp2_with fail
  change Code.wp _ _ _ _ (w4.alloc (.cells (c.flag 2).cells 66))
  have hNC' : bN ≠ w4.heap.size := by omega
  clear hNC hal hb4 l3 hw3 h34 hN
  generalize w4.alloc (.cells (c.flag 2).cells 66) = w5 at *
  generalize w4.heap.size = bC at *
  have hCl := hC.lt
  have hNl := hN5.lt
  obtain ⟨pa, ca, rfl, hm⟩ := l5.form
  (have g0 : w5.cell? ⟨bC, 0, none⟩ = some (.bool c.ns) := hC.cell 0; have g1 : w5.cell? ⟨bC, 1, none⟩ = some (.bool c.nc) := hC.cell 1; have g2 : w5.cell? ⟨bC, 2, none⟩ = some (.bool true) := hC.cell 2; have g3 : w5.cell? ⟨bC, 3, none⟩ = some (.bool c.pu) := hC.cell 3; have g4 : w5.cell? ⟨bC, 4, none⟩ = some (.bool c.pr) := hC.cell 4; have g5 : w5.cell? ⟨bC, 5, none⟩ = some (.bool c.mr) := hC.cell 5; have g6 : w5.cell? ⟨bC, 6, none⟩ = some (.bool c.px) := hC.cell 6; have g7 : w5.cell? ⟨bC, 7, none⟩ = some (.bool c.oi) := hC.cell 7; have g8 : w5.cell? ⟨bC, 8, none⟩ = some (.int .i64 c.ma) := hC.cell 8; have g9 : w5.cell? ⟨bC, 9, none⟩ = some (.int .i64 c.sm) := hC.cell 9; have g10 : w5.cell? ⟨bC, 10, none⟩ = some (.int .i64 c.mf) := hC.cell 10; have g11 : w5.cell? ⟨bC, 11, none⟩ = some (.int .i64 c.ms) := hC.cell 11; have gn : w5.cell? ⟨bN, 2, none⟩ = some (S (flagName 2)) := hN5.cell 2)
  go_wp2_with fail
  go_region_held3 (fun w' => w'.cell? ⟨bC, 0, none⟩ = some (.bool c.ns) ∧ w'.cell? ⟨bC, 1, none⟩ = some (.bool c.nc) ∧ w'.cell? ⟨bC, 2, none⟩ = some (.bool true) ∧ w'.cell? ⟨bC, 3, none⟩ = some (.bool c.pu) ∧ w'.cell? ⟨bC, 4, none⟩ = some (.bool c.pr) ∧ w'.cell? ⟨bC, 5, none⟩ = some (.bool c.mr) ∧ w'.cell? ⟨bC, 6, none⟩ = some (.bool c.px) ∧ w'.cell? ⟨bC, 7, none⟩ = some (.bool c.oi) ∧ w'.cell? ⟨bC, 8, none⟩ = some (.int .i64 c.ma) ∧ w'.cell? ⟨bC, 9, none⟩ = some (.int .i64 c.sm) ∧ w'.cell? ⟨bC, 10, none⟩ = some (.int .i64 c.mf) ∧ w'.cell? ⟨bC, 11, none⟩ = some (.int .i64 c.ms) ∧ w'.cell? ⟨bN, 2, none⟩ = some (S (flagName 2)))
    (first | go_keep)
    ((first
      | (refine step_of ?_ (by rfl); refine wp_appG0 _ _ 26 rfl w5.heap.size 45 (.agg #[.string ByteArray.empty, .string ByteArray.empty, .bool false]) 3 40 Tryd.underlying26 (by kernel_rfl) rfl (by decide) _ rfl (by first | exact own_lit w5.drew w5.heap.size rfl w5.heap.size (Nat.le_refl _) _ _ | exact (own_lit w5.drew w5.heap.size rfl w5.heap.size (Nat.le_refl _) _ _).alloc _ | exact own_lit (w5.drew.alloc _) (w5.heap.size + 1) (by simp) w5.heap.size (by omega) _ _) _ _ _ _ rfl (by first | exact l5.below ((Below.refl _ _).drew.alloc (Nat.le_refl _) _) | exact l5.below (((Below.refl _ _).drew.alloc (Nat.le_refl _) _).alloc (by simp) _)) (fcells_one _) (by unfold maxLen; omega) (by omega) (by first | omega | (simp; done) | (simp; omega)) ?_; intro a8 c8 w8 hown8 hb8 hg8; have hC8 : Blk w8 bC 66 (c.flag 2).cells := (by first | exact (hC.drew.alloc _).below hb8 hCl | exact ((hC.drew.alloc _).alloc _).below hb8 hCl); have hN8 : Blk w8 bN 9 (flagNames.map S).toArray := (by first | exact (hN5.drew.alloc _).below hb8 hNl | exact ((hN5.drew.alloc _).alloc _).below hb8 hNl); (have k0 : w8.cell? ⟨bC, 0, none⟩ = some (.bool c.ns) := hC8.cell 0; have k1 : w8.cell? ⟨bC, 1, none⟩ = some (.bool c.nc) := hC8.cell 1; have k2 : w8.cell? ⟨bC, 2, none⟩ = some (.bool true) := hC8.cell 2; have k3 : w8.cell? ⟨bC, 3, none⟩ = some (.bool c.pu) := hC8.cell 3; have k4 : w8.cell? ⟨bC, 4, none⟩ = some (.bool c.pr) := hC8.cell 4; have k5 : w8.cell? ⟨bC, 5, none⟩ = some (.bool c.mr) := hC8.cell 5; have k6 : w8.cell? ⟨bC, 6, none⟩ = some (.bool c.px) := hC8.cell 6; have k7 : w8.cell? ⟨bC, 7, none⟩ = some (.bool c.oi) := hC8.cell 7; have k8 : w8.cell? ⟨bC, 8, none⟩ = some (.int .i64 c.ma) := hC8.cell 8; have k9 : w8.cell? ⟨bC, 9, none⟩ = some (.int .i64 c.sm) := hC8.cell 9; have k10 : w8.cell? ⟨bC, 10, none⟩ = some (.int .i64 c.mf) := hC8.cell 10; have k11 : w8.cell? ⟨bC, 11, none⟩ = some (.int .i64 c.ms) := hC8.cell 11; have kn : w8.cell? ⟨bN, 2, none⟩ = some (S (flagName 2)) := hN8.cell 2); have hz8 : w5.heap.size < w8.heap.size := (by have := hg8.size; simp at this; omega))
      | (refine step_of ?_ (by rfl); refine wp_appG _ _ 26 rfl w5.heap.size 45 (.agg #[.string ByteArray.empty, .string ByteArray.empty, .bool false]) 3 40 Tryd.underlying26 (by kernel_rfl) rfl (by decide) _ _ _ rfl (by first | exact hown8.alloc _ | exact hown8) _ _ _ _ rfl (by first | exact (show Rd _ _ 3 _ 1 (fcells [flagF 2]) from Rd.lit w8 45 #[S CacheControl, S (flagName 2), .bool false] 3 1 rfl (by decide)) | exact (show Rd _ _ 3 _ 1 (fcells [flagF 2]) from (Rd.lit_at (w5.drew.alloc (.cells #[] 45)) (w5.heap.size + 1) (by simp) 45 #[S CacheControl, S (flagName 2), .bool false] 3 1 rfl (by decide)).block (B' := w8.heap.size) (hg8.block _ (by simp) (by show some _ ≠ some w5.heap.size; simp)) (by have q : w5.heap.size + 1 + 1 ≤ w8.heap.size := (by have := hg8.size; simpa using this); omega)) | exact (show Rd _ _ 3 _ 1 (fcells [flagF 2]) from (Rd.lit_at w5 w5.heap.size rfl 45 #[S CacheControl, S (flagName 2), .bool false] 3 1 rfl (by decide)).block (B' := w8.heap.size) ((hg8.block w5.heap.size (by simp; omega) (by show some _ ≠ some (w5.heap.size + 1); simp)).trans (Below.heap_alloc (w5.alloc (.cells #[S CacheControl, S (flagName 2), .bool false] 45)) _ w5.heap.size (by simp))) (by have q : w5.heap.size + 1 + 1 ≤ w8.heap.size := (by have := hg8.size; simpa using this); omega))) (fcells_one _) (by unfold maxLen; omega) (by omega) (by first | omega | (simp; done) | (simp; omega)) ?_; intro a9 c9 w9 hown9 hb9 hg9; have hC9 : Blk w9 bC 66 (c.flag 2).cells := (by first | exact (hC8.alloc _).below hb9 hCl | exact hC8.below hb9 hCl); have hN9 : Blk w9 bN 9 (flagNames.map S).toArray := (by first | exact (hN8.alloc _).below hb9 hNl | exact hN8.below hb9 hNl); (have k0 : w9.cell? ⟨bC, 0, none⟩ = some (.bool c.ns) := hC9.cell 0; have k1 : w9.cell? ⟨bC, 1, none⟩ = some (.bool c.nc) := hC9.cell 1; have k2 : w9.cell? ⟨bC, 2, none⟩ = some (.bool true) := hC9.cell 2; have k3 : w9.cell? ⟨bC, 3, none⟩ = some (.bool c.pu) := hC9.cell 3; have k4 : w9.cell? ⟨bC, 4, none⟩ = some (.bool c.pr) := hC9.cell 4; have k5 : w9.cell? ⟨bC, 5, none⟩ = some (.bool c.mr) := hC9.cell 5; have k6 : w9.cell? ⟨bC, 6, none⟩ = some (.bool c.px) := hC9.cell 6; have k7 : w9.cell? ⟨bC, 7, none⟩ = some (.bool c.oi) := hC9.cell 7; have k8 : w9.cell? ⟨bC, 8, none⟩ = some (.int .i64 c.ma) := hC9.cell 8; have k9 : w9.cell? ⟨bC, 9, none⟩ = some (.int .i64 c.sm) := hC9.cell 9; have k10 : w9.cell? ⟨bC, 10, none⟩ = some (.int .i64 c.mf) := hC9.cell 10; have k11 : w9.cell? ⟨bC, 11, none⟩ = some (.int .i64 c.ms) := hC9.cell 11; have kn : w9.cell? ⟨bN, 2, none⟩ = some (S (flagName 2)) := hN9.cell 2); have hw9 : Below w5.heap.size w5 w9 := (by first | exact (((((Below.refl w5.heap.size w5).drew.alloc (Nat.le_refl _) _).trans hb8).alloc (by omega) _).trans hb9) | exact ((((Below.refl w5.heap.size w5).drew.alloc (Nat.le_refl _) _).alloc (by simp) _).trans hb8).trans hb9); have hF9 : Fs w9.heap.size w9 (.slice a9 (l.length + 1) c9) (l ++ [flagF 2]) := (by have := Rd.own hown9; unfold Fs; rw [fcells_append, List.length_append]; exact this))
      | (go_at_call 35; refine (Read_at { c with nt := true } _ HA.out _ _ hF9 HS.out).mono ?_; rintro e w10 ⟨rfl, hb10⟩; have hC10 := hC9.on hb10; have hN10 := hN9.on hb10; (have m0 : w10.cell? ⟨bC, 0, none⟩ = some (.bool c.ns) := hC10.cell 0; have m1 : w10.cell? ⟨bC, 1, none⟩ = some (.bool c.nc) := hC10.cell 1; have m2 : w10.cell? ⟨bC, 2, none⟩ = some (.bool true) := hC10.cell 2; have m3 : w10.cell? ⟨bC, 3, none⟩ = some (.bool c.pu) := hC10.cell 3; have m4 : w10.cell? ⟨bC, 4, none⟩ = some (.bool c.pr) := hC10.cell 4; have m5 : w10.cell? ⟨bC, 5, none⟩ = some (.bool c.mr) := hC10.cell 5; have m6 : w10.cell? ⟨bC, 6, none⟩ = some (.bool c.px) := hC10.cell 6; have m7 : w10.cell? ⟨bC, 7, none⟩ = some (.bool c.oi) := hC10.cell 7; have m8 : w10.cell? ⟨bC, 8, none⟩ = some (.int .i64 c.ma) := hC10.cell 8; have m9 : w10.cell? ⟨bC, 9, none⟩ = some (.int .i64 c.sm) := hC10.cell 9; have m10 : w10.cell? ⟨bC, 10, none⟩ = some (.int .i64 c.mf) := hC10.cell 10; have m11 : w10.cell? ⟨bC, 11, none⟩ = some (.int .i64 c.ms) := hC10.cell 11; have mn : w10.cell? ⟨bN, 2, none⟩ = some (S (flagName 2)) := hN10.cell 2))))
  all_goals
    go_wp2
    go_ret
    exact ⟨rfl, Bl.tr hw5 (Bl.tr hw9 hb10)⟩

set_option linter.unusedSimpArgs false in
set_option maxRecDepth 100000 in
set_option maxHeartbeats 8000000 in
theorem adds3 (l : List F) (n : Int) (v : Value) (w : World) (h : Fs w.heap.size w v l) (hb : ∀ f ∈ l, f.n.length ≤ 140737488355328 ∧ f.v.length ≤ 140737488355328)
    (hn0 : 0 ≤ n) (hn1 : n ≤ 255) (hk : n % 8 = 3) (hq : decide (16384 < (fbytes l : Int)) = false) (hsum : fsum l ≤ 16384) :
    Calls Tryd.prog 10 #[v, .int .u8 n] w fun e w' => e = .returned (.bool true) ∧ Below w.heap.size w w' := by
  have HB := Lib.hid hb
  clear hb
  have hll := fsum_length l
  go_enter Tryd.func10, Tryd.ntmps10
  go_wp2_with fail
  refine (awake13_any _).mono ?_
  rintro e w1 ⟨rfl, hb1⟩
  go_wp2_with fail
  refine (FBytes_any l v _ ((h.below hb1).mono hb1.size) HB.out).mono ?_
  rintro e w2 ⟨rfl, hb2⟩
  have hw2 := Bl.tr hb1 hb2
  have l2 := (h.below hw2).mono hw2.size
  clear h HB hb1 hb2
  have HA := Lib.hid (readC_adds l 3 (by decide))
  have HS := Lib.hid (fsum_flag l 3 (by decide) hsum)
  (generalize hgenc : readC l = c at *; have Hc := Lib.hid hgenc; clear hgenc)
  have hN := Blk.new w2 9 (flagNames.map S).toArray
  have hal : Below w2.heap.size w2 (w2.alloc (.cells (flagNames.map S).toArray 9)) := (Below.refl _ _).alloc (Nat.le_refl _) _
  have l3 := (l2.below hal).mono hal.size
  have hw3 := Bl.tr hw2 hal
  clear l2 hal hw2
  go_wp2_with fail
  change Calls _ _ _ (w2.alloc (.cells (flagNames.map S).toArray 9)) _
  generalize w2.alloc (.cells (flagNames.map S).toArray 9) = w3 at *
  generalize w2.heap.size = bN at *
  refine (Read_at c l Hc.out _ _ l3 (by omega)).mono ?_
  rintro e w4 ⟨rfl, hb4⟩
  have hal : Below w4.heap.size w4 (w4.alloc (.cells (c.flag 3).cells 66)) := (Below.refl _ _).alloc (Nat.le_refl _) _
  have hC := Blk.new w4 66 (c.flag 3).cells
  have h34 := Bl.tr hb4 hal
  have hw5 := Bl.tr hw3 h34
  have l5 := (l3.below h34).mono h34.size
  have hN5 := hN.on h34
  have hNC : bN < w4.heap.size := Nat.lt_of_lt_of_le hN.lt hb4.size
  go_wp2_with fail
  change Code.wp _ _ _ _ (w4.alloc (.cells (c.flag 3).cells 66))
  have hNC' : bN ≠ w4.heap.size := by omega
  clear hNC hal hb4 l3 hw3 h34 hN
  generalize w4.alloc (.cells (c.flag 3).cells 66) = w5 at *
  generalize w4.heap.size = bC at *
  have hCl := hC.lt
  have hNl := hN5.lt
  obtain ⟨pa, ca, rfl, hm⟩ := l5.form
  (have g0 : w5.cell? ⟨bC, 0, none⟩ = some (.bool c.ns) := hC.cell 0; have g1 : w5.cell? ⟨bC, 1, none⟩ = some (.bool c.nc) := hC.cell 1; have g2 : w5.cell? ⟨bC, 2, none⟩ = some (.bool c.nt) := hC.cell 2; have g3 : w5.cell? ⟨bC, 3, none⟩ = some (.bool true) := hC.cell 3; have g4 : w5.cell? ⟨bC, 4, none⟩ = some (.bool c.pr) := hC.cell 4; have g5 : w5.cell? ⟨bC, 5, none⟩ = some (.bool c.mr) := hC.cell 5; have g6 : w5.cell? ⟨bC, 6, none⟩ = some (.bool c.px) := hC.cell 6; have g7 : w5.cell? ⟨bC, 7, none⟩ = some (.bool c.oi) := hC.cell 7; have g8 : w5.cell? ⟨bC, 8, none⟩ = some (.int .i64 c.ma) := hC.cell 8; have g9 : w5.cell? ⟨bC, 9, none⟩ = some (.int .i64 c.sm) := hC.cell 9; have g10 : w5.cell? ⟨bC, 10, none⟩ = some (.int .i64 c.mf) := hC.cell 10; have g11 : w5.cell? ⟨bC, 11, none⟩ = some (.int .i64 c.ms) := hC.cell 11; have gn : w5.cell? ⟨bN, 3, none⟩ = some (S (flagName 3)) := hN5.cell 3)
  go_wp2_with fail
  go_region_held3 (fun w' => w'.cell? ⟨bC, 0, none⟩ = some (.bool c.ns) ∧ w'.cell? ⟨bC, 1, none⟩ = some (.bool c.nc) ∧ w'.cell? ⟨bC, 2, none⟩ = some (.bool c.nt) ∧ w'.cell? ⟨bC, 3, none⟩ = some (.bool true) ∧ w'.cell? ⟨bC, 4, none⟩ = some (.bool c.pr) ∧ w'.cell? ⟨bC, 5, none⟩ = some (.bool c.mr) ∧ w'.cell? ⟨bC, 6, none⟩ = some (.bool c.px) ∧ w'.cell? ⟨bC, 7, none⟩ = some (.bool c.oi) ∧ w'.cell? ⟨bC, 8, none⟩ = some (.int .i64 c.ma) ∧ w'.cell? ⟨bC, 9, none⟩ = some (.int .i64 c.sm) ∧ w'.cell? ⟨bC, 10, none⟩ = some (.int .i64 c.mf) ∧ w'.cell? ⟨bC, 11, none⟩ = some (.int .i64 c.ms) ∧ w'.cell? ⟨bN, 3, none⟩ = some (S (flagName 3)))
    (first | go_keep)
    ((first
      | (refine step_of ?_ (by rfl); refine wp_appG0 _ _ 26 rfl w5.heap.size 45 (.agg #[.string ByteArray.empty, .string ByteArray.empty, .bool false]) 3 40 Tryd.underlying26 (by kernel_rfl) rfl (by decide) _ rfl (by first | exact own_lit w5.drew w5.heap.size rfl w5.heap.size (Nat.le_refl _) _ _ | exact (own_lit w5.drew w5.heap.size rfl w5.heap.size (Nat.le_refl _) _ _).alloc _ | exact own_lit (w5.drew.alloc _) (w5.heap.size + 1) (by simp) w5.heap.size (by omega) _ _) _ _ _ _ rfl (by first | exact l5.below ((Below.refl _ _).drew.alloc (Nat.le_refl _) _) | exact l5.below (((Below.refl _ _).drew.alloc (Nat.le_refl _) _).alloc (by simp) _)) (fcells_one _) (by unfold maxLen; omega) (by omega) (by first | omega | (simp; done) | (simp; omega)) ?_; intro a8 c8 w8 hown8 hb8 hg8; have hC8 : Blk w8 bC 66 (c.flag 3).cells := (by first | exact (hC.drew.alloc _).below hb8 hCl | exact ((hC.drew.alloc _).alloc _).below hb8 hCl); have hN8 : Blk w8 bN 9 (flagNames.map S).toArray := (by first | exact (hN5.drew.alloc _).below hb8 hNl | exact ((hN5.drew.alloc _).alloc _).below hb8 hNl); (have k0 : w8.cell? ⟨bC, 0, none⟩ = some (.bool c.ns) := hC8.cell 0; have k1 : w8.cell? ⟨bC, 1, none⟩ = some (.bool c.nc) := hC8.cell 1; have k2 : w8.cell? ⟨bC, 2, none⟩ = some (.bool c.nt) := hC8.cell 2; have k3 : w8.cell? ⟨bC, 3, none⟩ = some (.bool true) := hC8.cell 3; have k4 : w8.cell? ⟨bC, 4, none⟩ = some (.bool c.pr) := hC8.cell 4; have k5 : w8.cell? ⟨bC, 5, none⟩ = some (.bool c.mr) := hC8.cell 5; have k6 : w8.cell? ⟨bC, 6, none⟩ = some (.bool c.px) := hC8.cell 6; have k7 : w8.cell? ⟨bC, 7, none⟩ = some (.bool c.oi) := hC8.cell 7; have k8 : w8.cell? ⟨bC, 8, none⟩ = some (.int .i64 c.ma) := hC8.cell 8; have k9 : w8.cell? ⟨bC, 9, none⟩ = some (.int .i64 c.sm) := hC8.cell 9; have k10 : w8.cell? ⟨bC, 10, none⟩ = some (.int .i64 c.mf) := hC8.cell 10; have k11 : w8.cell? ⟨bC, 11, none⟩ = some (.int .i64 c.ms) := hC8.cell 11; have kn : w8.cell? ⟨bN, 3, none⟩ = some (S (flagName 3)) := hN8.cell 3); have hz8 : w5.heap.size < w8.heap.size := (by have := hg8.size; simp at this; omega))
      | (refine step_of ?_ (by rfl); refine wp_appG _ _ 26 rfl w5.heap.size 45 (.agg #[.string ByteArray.empty, .string ByteArray.empty, .bool false]) 3 40 Tryd.underlying26 (by kernel_rfl) rfl (by decide) _ _ _ rfl (by first | exact hown8.alloc _ | exact hown8) _ _ _ _ rfl (by first | exact (show Rd _ _ 3 _ 1 (fcells [flagF 3]) from Rd.lit w8 45 #[S CacheControl, S (flagName 3), .bool false] 3 1 rfl (by decide)) | exact (show Rd _ _ 3 _ 1 (fcells [flagF 3]) from (Rd.lit_at (w5.drew.alloc (.cells #[] 45)) (w5.heap.size + 1) (by simp) 45 #[S CacheControl, S (flagName 3), .bool false] 3 1 rfl (by decide)).block (B' := w8.heap.size) (hg8.block _ (by simp) (by show some _ ≠ some w5.heap.size; simp)) (by have q : w5.heap.size + 1 + 1 ≤ w8.heap.size := (by have := hg8.size; simpa using this); omega)) | exact (show Rd _ _ 3 _ 1 (fcells [flagF 3]) from (Rd.lit_at w5 w5.heap.size rfl 45 #[S CacheControl, S (flagName 3), .bool false] 3 1 rfl (by decide)).block (B' := w8.heap.size) ((hg8.block w5.heap.size (by simp; omega) (by show some _ ≠ some (w5.heap.size + 1); simp)).trans (Below.heap_alloc (w5.alloc (.cells #[S CacheControl, S (flagName 3), .bool false] 45)) _ w5.heap.size (by simp))) (by have q : w5.heap.size + 1 + 1 ≤ w8.heap.size := (by have := hg8.size; simpa using this); omega))) (fcells_one _) (by unfold maxLen; omega) (by omega) (by first | omega | (simp; done) | (simp; omega)) ?_; intro a9 c9 w9 hown9 hb9 hg9; have hC9 : Blk w9 bC 66 (c.flag 3).cells := (by first | exact (hC8.alloc _).below hb9 hCl | exact hC8.below hb9 hCl); have hN9 : Blk w9 bN 9 (flagNames.map S).toArray := (by first | exact (hN8.alloc _).below hb9 hNl | exact hN8.below hb9 hNl); (have k0 : w9.cell? ⟨bC, 0, none⟩ = some (.bool c.ns) := hC9.cell 0; have k1 : w9.cell? ⟨bC, 1, none⟩ = some (.bool c.nc) := hC9.cell 1; have k2 : w9.cell? ⟨bC, 2, none⟩ = some (.bool c.nt) := hC9.cell 2; have k3 : w9.cell? ⟨bC, 3, none⟩ = some (.bool true) := hC9.cell 3; have k4 : w9.cell? ⟨bC, 4, none⟩ = some (.bool c.pr) := hC9.cell 4; have k5 : w9.cell? ⟨bC, 5, none⟩ = some (.bool c.mr) := hC9.cell 5; have k6 : w9.cell? ⟨bC, 6, none⟩ = some (.bool c.px) := hC9.cell 6; have k7 : w9.cell? ⟨bC, 7, none⟩ = some (.bool c.oi) := hC9.cell 7; have k8 : w9.cell? ⟨bC, 8, none⟩ = some (.int .i64 c.ma) := hC9.cell 8; have k9 : w9.cell? ⟨bC, 9, none⟩ = some (.int .i64 c.sm) := hC9.cell 9; have k10 : w9.cell? ⟨bC, 10, none⟩ = some (.int .i64 c.mf) := hC9.cell 10; have k11 : w9.cell? ⟨bC, 11, none⟩ = some (.int .i64 c.ms) := hC9.cell 11; have kn : w9.cell? ⟨bN, 3, none⟩ = some (S (flagName 3)) := hN9.cell 3); have hw9 : Below w5.heap.size w5 w9 := (by first | exact (((((Below.refl w5.heap.size w5).drew.alloc (Nat.le_refl _) _).trans hb8).alloc (by omega) _).trans hb9) | exact ((((Below.refl w5.heap.size w5).drew.alloc (Nat.le_refl _) _).alloc (by simp) _).trans hb8).trans hb9); have hF9 : Fs w9.heap.size w9 (.slice a9 (l.length + 1) c9) (l ++ [flagF 3]) := (by have := Rd.own hown9; unfold Fs; rw [fcells_append, List.length_append]; exact this))
      | (go_at_call 35; refine (Read_at { c with pu := true } _ HA.out _ _ hF9 HS.out).mono ?_; rintro e w10 ⟨rfl, hb10⟩; have hC10 := hC9.on hb10; have hN10 := hN9.on hb10; (have m0 : w10.cell? ⟨bC, 0, none⟩ = some (.bool c.ns) := hC10.cell 0; have m1 : w10.cell? ⟨bC, 1, none⟩ = some (.bool c.nc) := hC10.cell 1; have m2 : w10.cell? ⟨bC, 2, none⟩ = some (.bool c.nt) := hC10.cell 2; have m3 : w10.cell? ⟨bC, 3, none⟩ = some (.bool true) := hC10.cell 3; have m4 : w10.cell? ⟨bC, 4, none⟩ = some (.bool c.pr) := hC10.cell 4; have m5 : w10.cell? ⟨bC, 5, none⟩ = some (.bool c.mr) := hC10.cell 5; have m6 : w10.cell? ⟨bC, 6, none⟩ = some (.bool c.px) := hC10.cell 6; have m7 : w10.cell? ⟨bC, 7, none⟩ = some (.bool c.oi) := hC10.cell 7; have m8 : w10.cell? ⟨bC, 8, none⟩ = some (.int .i64 c.ma) := hC10.cell 8; have m9 : w10.cell? ⟨bC, 9, none⟩ = some (.int .i64 c.sm) := hC10.cell 9; have m10 : w10.cell? ⟨bC, 10, none⟩ = some (.int .i64 c.mf) := hC10.cell 10; have m11 : w10.cell? ⟨bC, 11, none⟩ = some (.int .i64 c.ms) := hC10.cell 11; have mn : w10.cell? ⟨bN, 3, none⟩ = some (S (flagName 3)) := hN10.cell 3))))
  all_goals
    go_wp2
    go_ret
    exact ⟨rfl, Bl.tr hw5 (Bl.tr hw9 hb10)⟩
end Go.Proofs.YtcicpboblppfiaaDoor
