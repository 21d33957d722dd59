
/- ControlAdds: a directive more sets just what it says, and nothing else. -/
import Derived.Test.YtcicpboblppfiaaDoorLaw13d
import Derived.Deep.RegionHeld3
import Derived.Test.YtcicpboblppfiaaDoorBase3
namespace Go.Proofs.YtcicpboblppfiaaDoor
open Go.RowKit Go.Dr


set_option linter.unusedSimpArgs false in
set_option maxRecDepth 100000 in
set_option maxHeartbeats 8000000 in
theorem adds4 (l : List F) (n : Int) (v : Value) (w : World) (h : Fs w.heap.size w v l) (hb : ∀ f ∈ l, f.n.length ≤ 140737488355328 ∧ f.v.length ≤ 140737488355328)
    (hn0 : 0 ≤ n) (hn1 : n ≤ 255) (hk : n % 8 = 4) (hq : decide (16384 < (fbytes l : Int)) = false) (hsum : fsum l ≤ 16384) :
    Calls Tryd.prog 10 #[v, .int .u8 n] w fun e w' => e = .returned (.bool true) ∧ Below w.heap.size w w' := by
  have HB := Lib.hid hb
  clear hb
  have hll := fsum_length l
  go_enter Tryd.func10, Tryd.ntmps10
  go_wp2_with fail
  refine (awake13_any _).mono ?_
  rintro e w1 ⟨rfl, hb1⟩
  go_wp2_with fail
  refine (FBytes_any l v _ ((h.below hb1).mono hb1.size) HB.out).mono ?_
  rintro e w2 ⟨rfl, hb2⟩
  have hw2 := Bl.tr hb1 hb2
  have l2 := (h.below hw2).mono hw2.size
  clear h HB hb1 hb2
  have HA := Lib.hid (readC_adds l 4 (by decide))
  have HS := Lib.hid (fsum_flag l 4 (by decide) hsum)
  (generalize hgenc : readC l = c at *; have Hc := Lib.hid hgenc; clear hgenc)
  have hN := Blk.new w2 9 (flagNames.map S).toArray
  have hal : Below w2.heap.size w2 (w2.alloc (.cells (flagNames.map S).toArray 9)) := (Below.refl _ _).alloc (Nat.le_refl _) _
  have l3 := (l2.below hal).mono hal.size
  have hw3 := Bl.tr hw2 hal
  clear l2 hal hw2
  go_wp2_with fail
  change Calls _ _ _ (w2.alloc (.cells (flagNames.map S).toArray 9)) _
  generalize w2.alloc (.cells (flagNames.map S).toArray 9) = w3 at *
  generalize w2.heap.size = bN at *
  refine (Read_at c l Hc.out _ _ l3 (by omega)).mono ?_
  rintro e w4 ⟨rfl, hb4⟩
  have hal : Below w4.heap.size w4 (w4.alloc (.cells (c.flag 4).cells 66)) := (Below.refl _ _).alloc (Nat.le_refl _) _
  have hC := Blk.new w4 66 (c.flag 4).cells
  have h34 := Bl.tr hb4 hal
  have hw5 := Bl.tr hw3 h34
  have l5 := (l3.below h34).mono h34.size
  have hN5 := hN.on h34
  have hNC : bN < w4.heap.size := Nat.lt_of_lt_of_le hN.lt hb4.size
  go_wp2_with fail
  change Code.wp _ _ _ _ (w4.alloc (.cells (c.flag 4).cells 66))
  have hNC' : bN ≠ w4.heap.size := by omega
  clear hNC hal hb4 l3 hw3 h34 hN
  generalize w4.alloc (.cells (c.flag 4).cells 66) = w5 at *
  generalize w4.heap.size = bC at *
  have hCl := hC.lt
  have hNl := hN5.lt
  obtain ⟨pa, ca, rfl, hm⟩ := l5.form
  (have g0 : w5.cell? ⟨bC, 0, none⟩ = some (.bool c.ns) := hC.cell 0; have g1 : w5.cell? ⟨bC, 1, none⟩ = some (.bool c.nc) := hC.cell 1; have g2 : w5.cell? ⟨bC, 2, none⟩ = some (.bool c.nt) := hC.cell 2; have g3 : w5.cell? ⟨bC, 3, none⟩ = some (.bool c.pu) := hC.cell 3; have g4 : w5.cell? ⟨bC, 4, none⟩ = some (.bool true) := hC.cell 4; have g5 : w5.cell? ⟨bC, 5, none⟩ = some (.bool c.mr) := hC.cell 5; have g6 : w5.cell? ⟨bC, 6, none⟩ = some (.bool c.px) := hC.cell 6; have g7 : w5.cell? ⟨bC, 7, none⟩ = some (.bool c.oi) := hC.cell 7; have g8 : w5.cell? ⟨bC, 8, none⟩ = some (.int .i64 c.ma) := hC.cell 8; have g9 : w5.cell? ⟨bC, 9, none⟩ = some (.int .i64 c.sm) := hC.cell 9; have g10 : w5.cell? ⟨bC, 10, none⟩ = some (.int .i64 c.mf) := hC.cell 10; have g11 : w5.cell? ⟨bC, 11, none⟩ = some (.int .i64 c.ms) := hC.cell 11; have gn : w5.cell? ⟨bN, 4, none⟩ = some (S (flagName 4)) := hN5.cell 4)
  go_wp2_with fail
  go_region_held3 (fun w' => w'.cell? ⟨bC, 0, none⟩ = some (.bool c.ns) ∧ w'.cell? ⟨bC, 1, none⟩ = some (.bool c.nc) ∧ w'.cell? ⟨bC, 2, none⟩ = some (.bool c.nt) ∧ w'.cell? ⟨bC, 3, none⟩ = some (.bool c.pu) ∧ w'.cell? ⟨bC, 4, none⟩ = some (.bool true) ∧ w'.cell? ⟨bC, 5, none⟩ = some (.bool c.mr) ∧ w'.cell? ⟨bC, 6, none⟩ = some (.bool c.px) ∧ w'.cell? ⟨bC, 7, none⟩ = some (.bool c.oi) ∧ w'.cell? ⟨bC, 8, none⟩ = some (.int .i64 c.ma) ∧ w'.cell? ⟨bC, 9, none⟩ = some (.int .i64 c.sm) ∧ w'.cell? ⟨bC, 10, none⟩ = some (.int .i64 c.mf) ∧ w'.cell? ⟨bC, 11, none⟩ = some (.int .i64 c.ms) ∧ w'.cell? ⟨bN, 4, none⟩ = some (S (flagName 4)))
    (first | go_keep)
    ((first
      | (refine step_of ?_ (by rfl); refine wp_appG0 _ _ 26 rfl w5.heap.size 45 (.agg #[.string ByteArray.empty, .string ByteArray.empty, .bool false]) 3 40 Tryd.underlying26 (by kernel_rfl) rfl (by decide) _ rfl (by first | exact own_lit w5.drew w5.heap.size rfl w5.heap.size (Nat.le_refl _) _ _ | exact (own_lit w5.drew w5.heap.size rfl w5.heap.size (Nat.le_refl _) _ _).alloc _ | exact own_lit (w5.drew.alloc _) (w5.heap.size + 1) (by simp) w5.heap.size (by omega) _ _) _ _ _ _ rfl (by first | exact l5.below ((Below.refl _ _).drew.alloc (Nat.le_refl _) _) | exact l5.below (((Below.refl _ _).drew.alloc (Nat.le_refl _) _).alloc (by simp) _)) (fcells_one _) (by unfold maxLen; omega) (by omega) (by first | omega | (simp; done) | (simp; omega)) ?_; intro a8 c8 w8 hown8 hb8 hg8; have hC8 : Blk w8 bC 66 (c.flag 4).cells := (by first | exact (hC.drew.alloc _).below hb8 hCl | exact ((hC.drew.alloc _).alloc _).below hb8 hCl); have hN8 : Blk w8 bN 9 (flagNames.map S).toArray := (by first | exact (hN5.drew.alloc _).below hb8 hNl | exact ((hN5.drew.alloc _).alloc _).below hb8 hNl); (have k0 : w8.cell? ⟨bC, 0, none⟩ = some (.bool c.ns) := hC8.cell 0; have k1 : w8.cell? ⟨bC, 1, none⟩ = some (.bool c.nc) := hC8.cell 1; have k2 : w8.cell? ⟨bC, 2, none⟩ = some (.bool c.nt) := hC8.cell 2; have k3 : w8.cell? ⟨bC, 3, none⟩ = some (.bool c.pu) := hC8.cell 3; have k4 : w8.cell? ⟨bC, 4, none⟩ = some (.bool true) := hC8.cell 4; have k5 : w8.cell? ⟨bC, 5, none⟩ = some (.bool c.mr) := hC8.cell 5; have k6 : w8.cell? ⟨bC, 6, none⟩ = some (.bool c.px) := hC8.cell 6; have k7 : w8.cell? ⟨bC, 7, none⟩ = some (.bool c.oi) := hC8.cell 7; have k8 : w8.cell? ⟨bC, 8, none⟩ = some (.int .i64 c.ma) := hC8.cell 8; have k9 : w8.cell? ⟨bC, 9, none⟩ = some (.int .i64 c.sm) := hC8.cell 9; have k10 : w8.cell? ⟨bC, 10, none⟩ = some (.int .i64 c.mf) := hC8.cell 10; have k11 : w8.cell? ⟨bC, 11, none⟩ = some (.int .i64 c.ms) := hC8.cell 11; have kn : w8.cell? ⟨bN, 4, none⟩ = some (S (flagName 4)) := hN8.cell 4); have hz8 : w5.heap.size < w8.heap.size := (by have := hg8.size; simp at this; omega))
      | (refine step_of ?_ (by rfl); refine wp_appG _ _ 26 rfl w5.heap.size 45 (.agg #[.string ByteArray.empty, .string ByteArray.empty, .bool false]) 3 40 Tryd.underlying26 (by kernel_rfl) rfl (by decide) _ _ _ rfl (by first | exact hown8.alloc _ | exact hown8) _ _ _ _ rfl (by first | exact (show Rd _ _ 3 _ 1 (fcells [flagF 4]) from Rd.lit w8 45 #[S CacheControl, S (flagName 4), .bool false] 3 1 rfl (by decide)) | exact (show Rd _ _ 3 _ 1 (fcells [flagF 4]) from (Rd.lit_at (w5.drew.alloc (.cells #[] 45)) (w5.heap.size + 1) (by simp) 45 #[S CacheControl, S (flagName 4), .bool false] 3 1 rfl (by decide)).block (B' := w8.heap.size) (hg8.block _ (by simp) (by show some _ ≠ some w5.heap.size; simp)) (by have q : w5.heap.size + 1 + 1 ≤ w8.heap.size := (by have := hg8.size; simpa using this); omega)) | exact (show Rd _ _ 3 _ 1 (fcells [flagF 4]) from (Rd.lit_at w5 w5.heap.size rfl 45 #[S CacheControl, S (flagName 4), .bool false] 3 1 rfl (by decide)).block (B' := w8.heap.size) ((hg8.block w5.heap.size (by simp; omega) (by show some _ ≠ some (w5.heap.size + 1); simp)).trans (Below.heap_alloc (w5.alloc (.cells #[S CacheControl, S (flagName 4), .bool false] 45)) _ w5.heap.size (by simp))) (by have q : w5.heap.size + 1 + 1 ≤ w8.heap.size := (by have := hg8.size; simpa using this); omega))) (fcells_one _) (by unfold maxLen; omega) (by omega) (by first | omega | (simp; done) | (simp; omega)) ?_; intro a9 c9 w9 hown9 hb9 hg9; have hC9 : Blk w9 bC 66 (c.flag 4).cells := (by first | exact (hC8.alloc _).below hb9 hCl | exact hC8.below hb9 hCl); have hN9 : Blk w9 bN 9 (flagNames.map S).toArray := (by first | exact (hN8.alloc _).below hb9 hNl | exact hN8.below hb9 hNl); (have k0 : w9.cell? ⟨bC, 0, none⟩ = some (.bool c.ns) := hC9.cell 0; have k1 : w9.cell? ⟨bC, 1, none⟩ = some (.bool c.nc) := hC9.cell 1; have k2 : w9.cell? ⟨bC, 2, none⟩ = some (.bool c.nt) := hC9.cell 2; have k3 : w9.cell? ⟨bC, 3, none⟩ = some (.bool c.pu) := hC9.cell 3; have k4 : w9.cell? ⟨bC, 4, none⟩ = some (.bool true) := hC9.cell 4; have k5 : w9.cell? ⟨bC, 5, none⟩ = some (.bool c.mr) := hC9.cell 5; have k6 : w9.cell? ⟨bC, 6, none⟩ = some (.bool c.px) := hC9.cell 6; have k7 : w9.cell? ⟨bC, 7, none⟩ = some (.bool c.oi) := hC9.cell 7; have k8 : w9.cell? ⟨bC, 8, none⟩ = some (.int .i64 c.ma) := hC9.cell 8; have k9 : w9.cell? ⟨bC, 9, none⟩ = some (.int .i64 c.sm) := hC9.cell 9; have k10 : w9.cell? ⟨bC, 10, none⟩ = some (.int .i64 c.mf) := hC9.cell 10; have k11 : w9.cell? ⟨bC, 11, none⟩ = some (.int .i64 c.ms) := hC9.cell 11; have kn : w9.cell? ⟨bN, 4, none⟩ = some (S (flagName 4)) := hN9.cell 4); have hw9 : Below w5.heap.size w5 w9 := (by first | exact (((((Below.refl w5.heap.size w5).drew.alloc (Nat.le_refl _) _).trans hb8).alloc (by omega) _).trans hb9) | exact ((((Below.refl w5.heap.size w5).drew.alloc (Nat.le_refl _) _).alloc (by simp) _).trans hb8).trans hb9); have hF9 : Fs w9.heap.size w9 (.slice a9 (l.length + 1) c9) (l ++ [flagF 4]) := (by have := Rd.own hown9; unfold Fs; rw [fcells_append, List.length_append]; exact this))
      | (go_at_call 35; refine (Read_at { c with pr := true } _ HA.out _ _ hF9 HS.out).mono ?_; rintro e w10 ⟨rfl, hb10⟩; have hC10 := hC9.on hb10; have hN10 := hN9.on hb10; (have m0 : w10.cell? ⟨bC, 0, none⟩ = some (.bool c.ns) := hC10.cell 0; have m1 : w10.cell? ⟨bC, 1, none⟩ = some (.bool c.nc) := hC10.cell 1; have m2 : w10.cell? ⟨bC, 2, none⟩ = some (.bool c.nt) := hC10.cell 2; have m3 : w10.cell? ⟨bC, 3, none⟩ = some (.bool c.pu) := hC10.cell 3; have m4 : w10.cell? ⟨bC, 4, none⟩ = some (.bool true) := hC10.cell 4; have m5 : w10.cell? ⟨bC, 5, none⟩ = some (.bool c.mr) := hC10.cell 5; have m6 : w10.cell? ⟨bC, 6, none⟩ = some (.bool c.px) := hC10.cell 6; have m7 : w10.cell? ⟨bC, 7, none⟩ = some (.bool c.oi) := hC10.cell 7; have m8 : w10.cell? ⟨bC, 8, none⟩ = some (.int .i64 c.ma) := hC10.cell 8; have m9 : w10.cell? ⟨bC, 9, none⟩ = some (.int .i64 c.sm) := hC10.cell 9; have m10 : w10.cell? ⟨bC, 10, none⟩ = some (.int .i64 c.mf) := hC10.cell 10; have m11 : w10.cell? ⟨bC, 11, none⟩ = some (.int .i64 c.ms) := hC10.cell 11; have mn : w10.cell? ⟨bN, 4, none⟩ = some (S (flagName 4)) := hN10.cell 4))))
  all_goals
    go_wp2
    go_ret
    exact ⟨rfl, Bl.tr hw5 (Bl.tr hw9 hb10)⟩

set_option linter.unusedSimpArgs false in
set_option maxRecDepth 100000 in
set_option maxHeartbeats 8000000 in
theorem adds5 (l : List F) (n : Int) (v : Value) (w : World) (h : Fs w.heap.size w v l) (hb : ∀ f ∈ l, f.n.length ≤ 140737488355328 ∧ f.v.length ≤ 140737488355328)
    (hn0 : 0 ≤ n) (hn1 : n ≤ 255) (hk : n % 8 = 5) (hq : decide (16384 < (fbytes l : Int)) = false) (hsum : fsum l ≤ 16384) :
    Calls Tryd.prog 10 #[v, .int .u8 n] w fun e w' => e = .returned (.bool true) ∧ Below w.heap.size w w' := by
  have HB := Lib.hid hb
  clear hb
  have hll := fsum_length l
  go_enter Tryd.func10, Tryd.ntmps10
  go_wp2_with fail
  refine (awake13_any _).mono ?_
  rintro e w1 ⟨rfl, hb1⟩
  go_wp2_with fail
  refine (FBytes_any l v _ ((h.below hb1).mono hb1.size) HB.out).mono ?_
  rintro e w2 ⟨rfl, hb2⟩
  have hw2 := Bl.tr hb1 hb2
  have l2 := (h.below hw2).mono hw2.size
  clear h HB hb1 hb2
  have HA := Lib.hid (readC_adds l 5 (by decide))
  have HS := Lib.hid (fsum_flag l 5 (by decide) hsum)
  (generalize hgenc : readC l = c at *; have Hc := Lib.hid hgenc; clear hgenc)
  have hN := Blk.new w2 9 (flagNames.map S).toArray
  have hal : Below w2.heap.size w2 (w2.alloc (.cells (flagNames.map S).toArray 9)) := (Below.refl _ _).alloc (Nat.le_refl _) _
  have l3 := (l2.below hal).mono hal.size
  have hw3 := Bl.tr hw2 hal
  clear l2 hal hw2
  go_wp2_with fail
  change Calls _ _ _ (w2.alloc (.cells (flagNames.map S).toArray 9)) _
  generalize w2.alloc (.cells (flagNames.map S).toArray 9) = w3 at *
  generalize w2.heap.size = bN at *
  refine (Read_at c l Hc.out _ _ l3 (by omega)).mono ?_
  rintro e w4 ⟨rfl, hb4⟩
  have hal : Below w4.heap.size w4 (w4.alloc (.cells (c.flag 5).cells 66)) := (Below.refl _ _).alloc (Nat.le_refl _) _
  have hC := Blk.new w4 66 (c.flag 5).cells
  have h34 := Bl.tr hb4 hal
  have hw5 := Bl.tr hw3 h34
  have l5 := (l3.below h34).mono h34.size
  have hN5 := hN.on h34
  have hNC : bN < w4.heap.size := Nat.lt_of_lt_of_le hN.lt hb4.size
  go_wp2_with fail
  change Code.wp _ _ _ _ (w4.alloc (.cells (c.flag 5).cells 66))
  have hNC' : bN ≠ w4.heap.size := by omega
  clear hNC hal hb4 l3 hw3 h34 hN
  generalize w4.alloc (.cells (c.flag 5).cells 66) = w5 at *
  generalize w4.heap.size = bC at *
  have hCl := hC.lt
  have hNl := hN5.lt
  obtain ⟨pa, ca, rfl, hm⟩ := l5.form
  (have g0 : w5.cell? ⟨bC, 0, none⟩ = some (.bool c.ns) := hC.cell 0; have g1 : w5.cell? ⟨bC, 1, none⟩ = some (.bool c.nc) := hC.cell 1; have g2 : w5.cell? ⟨bC, 2, none⟩ = some (.bool c.nt) := hC.cell 2; have g3 : w5.cell? ⟨bC, 3, none⟩ = some (.bool c.pu) := hC.cell 3; have g4 : w5.cell? ⟨bC, 4, none⟩ = some (.bool c.pr) := hC.cell 4; have g5 : w5.cell? ⟨bC, 5, none⟩ = some (.bool true) := hC.cell 5; have g6 : w5.cell? ⟨bC, 6, none⟩ = some (.bool c.px) := hC.cell 6; have g7 : w5.cell? ⟨bC, 7, none⟩ = some (.bool c.oi) := hC.cell 7; have g8 : w5.cell? ⟨bC, 8, none⟩ = some (.int .i64 c.ma) := hC.cell 8; have g9 : w5.cell? ⟨bC, 9, none⟩ = some (.int .i64 c.sm) := hC.cell 9; have g10 : w5.cell? ⟨bC, 10, none⟩ = some (.int .i64 c.mf) := hC.cell 10; have g11 : w5.cell? ⟨bC, 11, none⟩ = some (.int .i64 c.ms) := hC.cell 11; have gn : w5.cell? ⟨bN, 5, none⟩ = some (S (flagName 5)) := hN5.cell 5)
  go_wp2_with fail
  go_region_held3 (fun w' => w'.cell? ⟨bC, 0, none⟩ = some (.bool c.ns) ∧ w'.cell? ⟨bC, 1, none⟩ = some (.bool c.nc) ∧ w'.cell? ⟨bC, 2, none⟩ = some (.bool c.nt) ∧ w'.cell? ⟨bC, 3, none⟩ = some (.bool c.pu) ∧ w'.cell? ⟨bC, 4, none⟩ = some (.bool c.pr) ∧ w'.cell? ⟨bC, 5, none⟩ = some (.bool true) ∧ w'.cell? ⟨bC, 6, none⟩ = some (.bool c.px) ∧ w'.cell? ⟨bC, 7, none⟩ = some (.bool c.oi) ∧ w'.cell? ⟨bC, 8, none⟩ = some (.int .i64 c.ma) ∧ w'.cell? ⟨bC, 9, none⟩ = some (.int .i64 c.sm) ∧ w'.cell? ⟨bC, 10, none⟩ = some (.int .i64 c.mf) ∧ w'.cell? ⟨bC, 11, none⟩ = some (.int .i64 c.ms) ∧ w'.cell? ⟨bN, 5, none⟩ = some (S (flagName 5)))
    (first | go_keep)
    ((first
      | (refine step_of ?_ (by rfl); refine wp_appG0 _ _ 26 rfl w5.heap.size 45 (.agg #[.string ByteArray.empty, .string ByteArray.empty, .bool false]) 3 40 Tryd.underlying26 (by kernel_rfl) rfl (by decide) _ rfl (by first | exact own_lit w5.drew w5.heap.size rfl w5.heap.size (Nat.le_refl _) _ _ | exact (own_lit w5.drew w5.heap.size rfl w5.heap.size (Nat.le_refl _) _ _).alloc _ | exact own_lit (w5.drew.alloc _) (w5.heap.size + 1) (by simp) w5.heap.size (by omega) _ _) _ _ _ _ rfl (by first | exact l5.below ((Below.refl _ _).drew.alloc (Nat.le_refl _) _) | exact l5.below (((Below.refl _ _).drew.alloc (Nat.le_refl _) _).alloc (by simp) _)) (fcells_one _) (by unfold maxLen; omega) (by omega) (by first | omega | (simp; done) | (simp; omega)) ?_; intro a8 c8 w8 hown8 hb8 hg8; have hC8 : Blk w8 bC 66 (c.flag 5).cells := (by first | exact (hC.drew.alloc _).below hb8 hCl | exact ((hC.drew.alloc _).alloc _).below hb8 hCl); have hN8 : Blk w8 bN 9 (flagNames.map S).toArray := (by first | exact (hN5.drew.alloc _).below hb8 hNl | exact ((hN5.drew.alloc _).alloc _).below hb8 hNl); (have k0 : w8.cell? ⟨bC, 0, none⟩ = some (.bool c.ns) := hC8.cell 0; have k1 : w8.cell? ⟨bC, 1, none⟩ = some (.bool c.nc) := hC8.cell 1; have k2 : w8.cell? ⟨bC, 2, none⟩ = some (.bool c.nt) := hC8.cell 2; have k3 : w8.cell? ⟨bC, 3, none⟩ = some (.bool c.pu) := hC8.cell 3; have k4 : w8.cell? ⟨bC, 4, none⟩ = some (.bool c.pr) := hC8.cell 4; have k5 : w8.cell? ⟨bC, 5, none⟩ = some (.bool true) := hC8.cell 5; have k6 : w8.cell? ⟨bC, 6, none⟩ = some (.bool c.px) := hC8.cell 6; have k7 : w8.cell? ⟨bC, 7, none⟩ = some (.bool c.oi) := hC8.cell 7; have k8 : w8.cell? ⟨bC, 8, none⟩ = some (.int .i64 c.ma) := hC8.cell 8; have k9 : w8.cell? ⟨bC, 9, none⟩ = some (.int .i64 c.sm) := hC8.cell 9; have k10 : w8.cell? ⟨bC, 10, none⟩ = some (.int .i64 c.mf) := hC8.cell 10; have k11 : w8.cell? ⟨bC, 11, none⟩ = some (.int .i64 c.ms) := hC8.cell 11; have kn : w8.cell? ⟨bN, 5, none⟩ = some (S (flagName 5)) := hN8.cell 5); have hz8 : w5.heap.size < w8.heap.size := (by have := hg8.size; simp at this; omega))
      | (refine step_of ?_ (by rfl); refine wp_appG _ _ 26 rfl w5.heap.size 45 (.agg #[.string ByteArray.empty, .string ByteArray.empty, .bool false]) 3 40 Tryd.underlying26 (by kernel_rfl) rfl (by decide) _ _ _ rfl (by first | exact hown8.alloc _ | exact hown8) _ _ _ _ rfl (by first | exact (show Rd _ _ 3 _ 1 (fcells [flagF 5]) from Rd.lit w8 45 #[S CacheControl, S (flagName 5), .bool false] 3 1 rfl (by decide)) | exact (show Rd _ _ 3 _ 1 (fcells [flagF 5]) from (Rd.lit_at (w5.drew.alloc (.cells #[] 45)) (w5.heap.size + 1) (by simp) 45 #[S CacheControl, S (flagName 5), .bool false] 3 1 rfl (by decide)).block (B' := w8.heap.size) (hg8.block _ (by simp) (by show some _ ≠ some w5.heap.size; simp)) (by have q : w5.heap.size + 1 + 1 ≤ w8.heap.size := (by have := hg8.size; simpa using this); omega)) | exact (show Rd _ _ 3 _ 1 (fcells [flagF 5]) from (Rd.lit_at w5 w5.heap.size rfl 45 #[S CacheControl, S (flagName 5), .bool false] 3 1 rfl (by decide)).block (B' := w8.heap.size) ((hg8.block w5.heap.size (by simp; omega) (by show some _ ≠ some (w5.heap.size + 1); simp)).trans (Below.heap_alloc (w5.alloc (.cells #[S CacheControl, S (flagName 5), .bool false] 45)) _ w5.heap.size (by simp))) (by have q : w5.heap.size + 1 + 1 ≤ w8.heap.size := (by have := hg8.size; simpa using this); omega))) (fcells_one _) (by unfold maxLen; omega) (by omega) (by first | omega | (simp; done) | (simp; omega)) ?_; intro a9 c9 w9 hown9 hb9 hg9; have hC9 : Blk w9 bC 66 (c.flag 5).cells := (by first | exact (hC8.alloc _).below hb9 hCl | exact hC8.below hb9 hCl); have hN9 : Blk w9 bN 9 (flagNames.map S).toArray := (by first | exact (hN8.alloc _).below hb9 hNl | exact hN8.below hb9 hNl); (have k0 : w9.cell? ⟨bC, 0, none⟩ = some (.bool c.ns) := hC9.cell 0; have k1 : w9.cell? ⟨bC, 1, none⟩ = some (.bool c.nc) := hC9.cell 1; have k2 : w9.cell? ⟨bC, 2, none⟩ = some (.bool c.nt) := hC9.cell 2; have k3 : w9.cell? ⟨bC, 3, none⟩ = some (.bool c.pu) := hC9.cell 3; have k4 : w9.cell? ⟨bC, 4, none⟩ = some (.bool c.pr) := hC9.cell 4; have k5 : w9.cell? ⟨bC, 5, none⟩ = some (.bool true) := hC9.cell 5; have k6 : w9.cell? ⟨bC, 6, none⟩ = some (.bool c.px) := hC9.cell 6; have k7 : w9.cell? ⟨bC, 7, none⟩ = some (.bool c.oi) := hC9.cell 7; have k8 : w9.cell? ⟨bC, 8, none⟩ = some (.int .i64 c.ma) := hC9.cell 8; have k9 : w9.cell? ⟨bC, 9, none⟩ = some (.int .i64 c.sm) := hC9.cell 9; have k10 : w9.cell? ⟨bC, 10, none⟩ = some (.int .i64 c.mf) := hC9.cell 10; have k11 : w9.cell? ⟨bC, 11, none⟩ = some (.int .i64 c.ms) := hC9.cell 11; have kn : w9.cell? ⟨bN, 5, none⟩ = some (S (flagName 5)) := hN9.cell 5); have hw9 : Below w5.heap.size w5 w9 := (by first | exact (((((Below.refl w5.heap.size w5).drew.alloc (Nat.le_refl _) _).trans hb8).alloc (by omega) _).trans hb9) | exact ((((Below.refl w5.heap.size w5).drew.alloc (Nat.le_refl _) _).alloc (by simp) _).trans hb8).trans hb9); have hF9 : Fs w9.heap.size w9 (.slice a9 (l.length + 1) c9) (l ++ [flagF 5]) := (by have := Rd.own hown9; unfold Fs; rw [fcells_append, List.length_append]; exact this))
      | (go_at_call 35; refine (Read_at { c with mr := true } _ HA.out _ _ hF9 HS.out).mono ?_; rintro e w10 ⟨rfl, hb10⟩; have hC10 := hC9.on hb10; have hN10 := hN9.on hb10; (have m0 : w10.cell? ⟨bC, 0, none⟩ = some (.bool c.ns) := hC10.cell 0; have m1 : w10.cell? ⟨bC, 1, none⟩ = some (.bool c.nc) := hC10.cell 1; have m2 : w10.cell? ⟨bC, 2, none⟩ = some (.bool c.nt) := hC10.cell 2; have m3 : w10.cell? ⟨bC, 3, none⟩ = some (.bool c.pu) := hC10.cell 3; have m4 : w10.cell? ⟨bC, 4, none⟩ = some (.bool c.pr) := hC10.cell 4; have m5 : w10.cell? ⟨bC, 5, none⟩ = some (.bool true) := hC10.cell 5; have m6 : w10.cell? ⟨bC, 6, none⟩ = some (.bool c.px) := hC10.cell 6; have m7 : w10.cell? ⟨bC, 7, none⟩ = some (.bool c.oi) := hC10.cell 7; have m8 : w10.cell? ⟨bC, 8, none⟩ = some (.int .i64 c.ma) := hC10.cell 8; have m9 : w10.cell? ⟨bC, 9, none⟩ = some (.int .i64 c.sm) := hC10.cell 9; have m10 : w10.cell? ⟨bC, 10, none⟩ = some (.int .i64 c.mf) := hC10.cell 10; have m11 : w10.cell? ⟨bC, 11, none⟩ = some (.int .i64 c.ms) := hC10.cell 11; have mn : w10.cell? ⟨bN, 5, none⟩ = some (S (flagName 5)) := hN10.cell 5))))
  all_goals
    go_wp2
    go_ret
    exact ⟨rfl, Bl.tr hw5 (Bl.tr hw9 hb10)⟩

set_option linter.unusedSimpArgs false in
set_option maxRecDepth 100000 in
set_option maxHeartbeats 8000000 in
theorem adds6 (l : List F) (n : Int) (v : Value) (w : World) (h : Fs w.heap.size w v l) (hb : ∀ f ∈ l, f.n.length ≤ 140737488355328 ∧ f.v.length ≤ 140737488355328)
    (hn0 : 0 ≤ n) (hn1 : n ≤ 255) (hk : n % 8 = 6) (hq : decide (16384 < (fbytes l : Int)) = false) (hsum : fsum l ≤ 16384) :
    Calls Tryd.prog 10 #[v, .int .u8 n] w fun e w' => e = .returned (.bool true) ∧ Below w.heap.size w w' := by
  have HB := Lib.hid hb
  clear hb
  have hll := fsum_length l
  go_enter Tryd.func10, Tryd.ntmps10
  go_wp2_with fail
  refine (awake13_any _).mono ?_
  rintro e w1 ⟨rfl, hb1⟩
  go_wp2_with fail
  refine (FBytes_any l v _ ((h.below hb1).mono hb1.size) HB.out).mono ?_
  rintro e w2 ⟨rfl, hb2⟩
  have hw2 := Bl.tr hb1 hb2
  have l2 := (h.below hw2).mono hw2.size
  clear h HB hb1 hb2
  have HA := Lib.hid (readC_adds l 6 (by decide))
  have HS := Lib.hid (fsum_flag l 6 (by decide) hsum)
  (generalize hgenc : readC l = c at *; have Hc := Lib.hid hgenc; clear hgenc)
  have hN := Blk.new w2 9 (flagNames.map S).toArray
  have hal : Below w2.heap.size w2 (w2.alloc (.cells (flagNames.map S).toArray 9)) := (Below.refl _ _).alloc (Nat.le_refl _) _
  have l3 := (l2.below hal).mono hal.size
  have hw3 := Bl.tr hw2 hal
  clear l2 hal hw2
  go_wp2_with fail
  change Calls _ _ _ (w2.alloc (.cells (flagNames.map S).toArray 9)) _
  generalize w2.alloc (.cells (flagNames.map S).toArray 9) = w3 at *
  generalize w2.heap.size = bN at *
  refine (Read_at c l Hc.out _ _ l3 (by omega)).mono ?_
  rintro e w4 ⟨rfl, hb4⟩
  have hal : Below w4.heap.size w4 (w4.alloc (.cells (c.flag 6).cells 66)) := (Below.refl _ _).alloc (Nat.le_refl _) _
  have hC := Blk.new w4 66 (c.flag 6).cells
  have h34 := Bl.tr hb4 hal
  have hw5 := Bl.tr hw3 h34
  have l5 := (l3.below h34).mono h34.size
  have hN5 := hN.on h34
  have hNC : bN < w4.heap.size := Nat.lt_of_lt_of_le hN.lt hb4.size
  go_wp2_with fail
  change Code.wp _ _ _ _ (w4.alloc (.cells (c.flag 6).cells 66))
  have hNC' : bN ≠ w4.heap.size := by omega
  clear hNC hal hb4 l3 hw3 h34 hN
  generalize w4.alloc (.cells (c.flag 6).cells 66) = w5 at *
  generalize w4.heap.size = bC at *
  have hCl := hC.lt
  have hNl := hN5.lt
  obtain ⟨pa, ca, rfl, hm⟩ := l5.form
  (have g0 : w5.cell? ⟨bC, 0, none⟩ = some (.bool c.ns) := hC.cell 0; have g1 : w5.cell? ⟨bC, 1, none⟩ = some (.bool c.nc) := hC.cell 1; have g2 : w5.cell? ⟨bC, 2, none⟩ = some (.bool c.nt) := hC.cell 2; have g3 : w5.cell? ⟨bC, 3, none⟩ = some (.bool c.pu) := hC.cell 3; have g4 : w5.cell? ⟨bC, 4, none⟩ = some (.bool c.pr) := hC.cell 4; have g5 : w5.cell? ⟨bC, 5, none⟩ = some (.bool c.mr) := hC.cell 5; have g6 : w5.cell? ⟨bC, 6, none⟩ = some (.bool true) := hC.cell 6; have g7 : w5.cell? ⟨bC, 7, none⟩ = some (.bool c.oi) := hC.cell 7; have g8 : w5.cell? ⟨bC, 8, none⟩ = some (.int .i64 c.ma) := hC.cell 8; have g9 : w5.cell? ⟨bC, 9, none⟩ = some (.int .i64 c.sm) := hC.cell 9; have g10 : w5.cell? ⟨bC, 10, none⟩ = some (.int .i64 c.mf) := hC.cell 10; have g11 : w5.cell? ⟨bC, 11, none⟩ = some (.int .i64 c.ms) := hC.cell 11; have gn : w5.cell? ⟨bN, 6, none⟩ = some (S (flagName 6)) := hN5.cell 6)
  go_wp2_with fail
  go_region_held3 (fun w' => w'.cell? ⟨bC, 0, none⟩ = some (.bool c.ns) ∧ w'.cell? ⟨bC, 1, none⟩ = some (.bool c.nc) ∧ w'.cell? ⟨bC, 2, none⟩ = some (.bool c.nt) ∧ w'.cell? ⟨bC, 3, none⟩ = some (.bool c.pu) ∧ w'.cell? ⟨bC, 4, none⟩ = some (.bool c.pr) ∧ w'.cell? ⟨bC, 5, none⟩ = some (.bool c.mr) ∧ w'.cell? ⟨bC, 6, none⟩ = some (.bool true) ∧ w'.cell? ⟨bC, 7, none⟩ = some (.bool c.oi) ∧ w'.cell? ⟨bC, 8, none⟩ = some (.int .i64 c.ma) ∧ w'.cell? ⟨bC, 9, none⟩ = some (.int .i64 c.sm) ∧ w'.cell? ⟨bC, 10, none⟩ = some (.int .i64 c.mf) ∧ w'.cell? ⟨bC, 11, none⟩ = some (.int .i64 c.ms) ∧ w'.cell? ⟨bN, 6, none⟩ = some (S (flagName 6)))
    (first | go_keep)
    ((first
      | (refine step_of ?_ (by rfl); refine wp_appG0 _ _ 26 rfl w5.heap.size 45 (.agg #[.string ByteArray.empty, .string ByteArray.empty, .bool false]) 3 40 Tryd.underlying26 (by kernel_rfl) rfl (by decide) _ rfl (by first | exact own_lit w5.drew w5.heap.size rfl w5.heap.size (Nat.le_refl _) _ _ | exact (own_lit w5.drew w5.heap.size rfl w5.heap.size (Nat.le_refl _) _ _).alloc _ | exact own_lit (w5.drew.alloc _) (w5.heap.size + 1) (by simp) w5.heap.size (by omega) _ _) _ _ _ _ rfl (by first | exact l5.below ((Below.refl _ _).drew.alloc (Nat.le_refl _) _) | exact l5.below (((Below.refl _ _).drew.alloc (Nat.le_refl _) _).alloc (by simp) _)) (fcells_one _) (by unfold maxLen; omega) (by omega) (by first | omega | (simp; done) | (simp; omega)) ?_; intro a8 c8 w8 hown8 hb8 hg8; have hC8 : Blk w8 bC 66 (c.flag 6).cells := (by first | exact (hC.drew.alloc _).below hb8 hCl | exact ((hC.drew.alloc _).alloc _).below hb8 hCl); have hN8 : Blk w8 bN 9 (flagNames.map S).toArray := (by first | exact (hN5.drew.alloc _).below hb8 hNl | exact ((hN5.drew.alloc _).alloc _).below hb8 hNl); (have k0 : w8.cell? ⟨bC, 0, none⟩ = some (.bool c.ns) := hC8.cell 0; have k1 : w8.cell? ⟨bC, 1, none⟩ = some (.bool c.nc) := hC8.cell 1; have k2 : w8.cell? ⟨bC, 2, none⟩ = some (.bool c.nt) := hC8.cell 2; have k3 : w8.cell? ⟨bC, 3, none⟩ = some (.bool c.pu) := hC8.cell 3; have k4 : w8.cell? ⟨bC, 4, none⟩ = some (.bool c.pr) := hC8.cell 4; have k5 : w8.cell? ⟨bC, 5, none⟩ = some (.bool c.mr) := hC8.cell 5; have k6 : w8.cell? ⟨bC, 6, none⟩ = some (.bool true) := hC8.cell 6; have k7 : w8.cell? ⟨bC, 7, none⟩ = some (.bool c.oi) := hC8.cell 7; have k8 : w8.cell? ⟨bC, 8, none⟩ = some (.int .i64 c.ma) := hC8.cell 8; have k9 : w8.cell? ⟨bC, 9, none⟩ = some (.int .i64 c.sm) := hC8.cell 9; have k10 : w8.cell? ⟨bC, 10, none⟩ = some (.int .i64 c.mf) := hC8.cell 10; have k11 : w8.cell? ⟨bC, 11, none⟩ = some (.int .i64 c.ms) := hC8.cell 11; have kn : w8.cell? ⟨bN, 6, none⟩ = some (S (flagName 6)) := hN8.cell 6); have hz8 : w5.heap.size < w8.heap.size := (by have := hg8.size; simp at this; omega))
      | (refine step_of ?_ (by rfl); refine wp_appG _ _ 26 rfl w5.heap.size 45 (.agg #[.string ByteArray.empty, .string ByteArray.empty, .bool false]) 3 40 Tryd.underlying26 (by kernel_rfl) rfl (by decide) _ _ _ rfl (by first | exact hown8.alloc _ | exact hown8) _ _ _ _ rfl (by first | exact (show Rd _ _ 3 _ 1 (fcells [flagF 6]) from Rd.lit w8 45 #[S CacheControl, S (flagName 6), .bool false] 3 1 rfl (by decide)) | exact (show Rd _ _ 3 _ 1 (fcells [flagF 6]) from (Rd.lit_at (w5.drew.alloc (.cells #[] 45)) (w5.heap.size + 1) (by simp) 45 #[S CacheControl, S (flagName 6), .bool false] 3 1 rfl (by decide)).block (B' := w8.heap.size) (hg8.block _ (by simp) (by show some _ ≠ some w5.heap.size; simp)) (by have q : w5.heap.size + 1 + 1 ≤ w8.heap.size := (by have := hg8.size; simpa using this); omega)) | exact (show Rd _ _ 3 _ 1 (fcells [flagF 6]) from (Rd.lit_at w5 w5.heap.size rfl 45 #[S CacheControl, S (flagName 6), .bool false] 3 1 rfl (by decide)).block (B' := w8.heap.size) ((hg8.block w5.heap.size (by simp; omega) (by show some _ ≠ some (w5.heap.size + 1); simp)).trans (Below.heap_alloc (w5.alloc (.cells #[S CacheControl, S (flagName 6), .bool false] 45)) _ w5.heap.size (by simp))) (by have q : w5.heap.size + 1 + 1 ≤ w8.heap.size := (by have := hg8.size; simpa using this); omega))) (fcells_one _) (by unfold maxLen; omega) (by omega) (by first | omega | (simp; done) | (simp; omega)) ?_; intro a9 c9 w9 hown9 hb9 hg9; have hC9 : Blk w9 bC 66 (c.flag 6).cells := (by first | exact (hC8.alloc _).below hb9 hCl | exact hC8.below hb9 hCl); have hN9 : Blk w9 bN 9 (flagNames.map S).toArray := (by first | exact (hN8.alloc _).below hb9 hNl | exact hN8.below hb9 hNl); (have k0 : w9.cell? ⟨bC, 0, none⟩ = some (.bool c.ns) := hC9.cell 0; have k1 : w9.cell? ⟨bC, 1, none⟩ = some (.bool c.nc) := hC9.cell 1; have k2 : w9.cell? ⟨bC, 2, none⟩ = some (.bool c.nt) := hC9.cell 2; have k3 : w9.cell? ⟨bC, 3, none⟩ = some (.bool c.pu) := hC9.cell 3; have k4 : w9.cell? ⟨bC, 4, none⟩ = some (.bool c.pr) := hC9.cell 4; have k5 : w9.cell? ⟨bC, 5, none⟩ = some (.bool c.mr) := hC9.cell 5; have k6 : w9.cell? ⟨bC, 6, none⟩ = some (.bool true) := hC9.cell 6; have k7 : w9.cell? ⟨bC, 7, none⟩ = some (.bool c.oi) := hC9.cell 7; have k8 : w9.cell? ⟨bC, 8, none⟩ = some (.int .i64 c.ma) := hC9.cell 8; have k9 : w9.cell? ⟨bC, 9, none⟩ = some (.int .i64 c.sm) := hC9.cell 9; have k10 : w9.cell? ⟨bC, 10, none⟩ = some (.int .i64 c.mf) := hC9.cell 10; have k11 : w9.cell? ⟨bC, 11, none⟩ = some (.int .i64 c.ms) := hC9.cell 11; have kn : w9.cell? ⟨bN, 6, none⟩ = some (S (flagName 6)) := hN9.cell 6); have hw9 : Below w5.heap.size w5 w9 := (by first | exact (((((Below.refl w5.heap.size w5).drew.alloc (Nat.le_refl _) _).trans hb8).alloc (by omega) _).trans hb9) | exact ((((Below.refl w5.heap.size w5).drew.alloc (Nat.le_refl _) _).alloc (by simp) _).trans hb8).trans hb9); have hF9 : Fs w9.heap.size w9 (.slice a9 (l.length + 1) c9) (l ++ [flagF 6]) := (by have := Rd.own hown9; unfold Fs; rw [fcells_append, List.length_append]; exact this))
      | (go_at_call 35; refine (Read_at { c with px := true } _ HA.out _ _ hF9 HS.out).mono ?_; rintro e w10 ⟨rfl, hb10⟩; have hC10 := hC9.on hb10; have hN10 := hN9.on hb10; (have m0 : w10.cell? ⟨bC, 0, none⟩ = some (.bool c.ns) := hC10.cell 0; have m1 : w10.cell? ⟨bC, 1, none⟩ = some (.bool c.nc) := hC10.cell 1; have m2 : w10.cell? ⟨bC, 2, none⟩ = some (.bool c.nt) := hC10.cell 2; have m3 : w10.cell? ⟨bC, 3, none⟩ = some (.bool c.pu) := hC10.cell 3; have m4 : w10.cell? ⟨bC, 4, none⟩ = some (.bool c.pr) := hC10.cell 4; have m5 : w10.cell? ⟨bC, 5, none⟩ = some (.bool c.mr) := hC10.cell 5; have m6 : w10.cell? ⟨bC, 6, none⟩ = some (.bool true) := hC10.cell 6; have m7 : w10.cell? ⟨bC, 7, none⟩ = some (.bool c.oi) := hC10.cell 7; have m8 : w10.cell? ⟨bC, 8, none⟩ = some (.int .i64 c.ma) := hC10.cell 8; have m9 : w10.cell? ⟨bC, 9, none⟩ = some (.int .i64 c.sm) := hC10.cell 9; have m10 : w10.cell? ⟨bC, 10, none⟩ = some (.int .i64 c.mf) := hC10.cell 10; have m11 : w10.cell? ⟨bC, 11, none⟩ = some (.int .i64 c.ms) := hC10.cell 11; have mn : w10.cell? ⟨bN, 6, none⟩ = some (S (flagName 6)) := hN10.cell 6))))
  all_goals
    go_wp2
    go_ret
    exact ⟨rfl, Bl.tr hw5 (Bl.tr hw9 hb10)⟩

set_option linter.unusedSimpArgs false in
set_option maxRecDepth 100000 in
set_option maxHeartbeats 8000000 in
theorem adds7 (l : List F) (n : Int) (v : Value) (w : World) (h : Fs w.heap.size w v l) (hb : ∀ f ∈ l, f.n.length ≤ 140737488355328 ∧ f.v.length ≤ 140737488355328)
    (hn0 : 0 ≤ n) (hn1 : n ≤ 255) (hk : n % 8 = 7) (hq : decide (16384 < (fbytes l : Int)) = false) (hsum : fsum l ≤ 16384) :
    Calls Tryd.prog 10 #[v, .int .u8 n] w fun e w' => e = .returned (.bool true) ∧ Below w.heap.size w w' := by
  have HB := Lib.hid hb
  clear hb
  have hll := fsum_length l
  go_enter Tryd.func10, Tryd.ntmps10
  go_wp2_with fail
  refine (awake13_any _).mono ?_
  rintro e w1 ⟨rfl, hb1⟩
  go_wp2_with fail
  refine (FBytes_any l v _ ((h.below hb1).mono hb1.size) HB.out).mono ?_
  rintro e w2 ⟨rfl, hb2⟩
  have hw2 := Bl.tr hb1 hb2
  have l2 := (h.below hw2).mono hw2.size
  clear h HB hb1 hb2
  have HA := Lib.hid (readC_adds l 7 (by decide))
  have HS := Lib.hid (fsum_flag l 7 (by decide) hsum)
  (generalize hgenc : readC l = c at *; have Hc := Lib.hid hgenc; clear hgenc)
  have hN := Blk.new w2 9 (flagNames.map S).toArray
  have hal : Below w2.heap.size w2 (w2.alloc (.cells (flagNames.map S).toArray 9)) := (Below.refl _ _).alloc (Nat.le_refl _) _
  have l3 := (l2.below hal).mono hal.size
  have hw3 := Bl.tr hw2 hal
  clear l2 hal hw2
  go_wp2_with fail
  change Calls _ _ _ (w2.alloc (.cells (flagNames.map S).toArray 9)) _
  generalize w2.alloc (.cells (flagNames.map S).toArray 9) = w3 at *
  generalize w2.heap.size = bN at *
  refine (Read_at c l Hc.out _ _ l3 (by omega)).mono ?_
  rintro e w4 ⟨rfl, hb4⟩
  have hal : Below w4.heap.size w4 (w4.alloc (.cells (c.flag 7).cells 66)) := (Below.refl _ _).alloc (Nat.le_refl _) _
  have hC := Blk.new w4 66 (c.flag 7).cells
  have h34 := Bl.tr hb4 hal
  have hw5 := Bl.tr hw3 h34
  have l5 := (l3.below h34).mono h34.size
  have hN5 := hN.on h34
  have hNC : bN < w4.heap.size := Nat.lt_of_lt_of_le hN.lt hb4.size
  go_wp2_with fail
  change Code.wp _ _ _ _ (w4.alloc (.cells (c.flag 7).cells 66))
  have hNC' : bN ≠ w4.heap.size := by omega
  clear hNC hal hb4 l3 hw3 h34 hN
  generalize w4.alloc (.cells (c.flag 7).cells 66) = w5 at *
  generalize w4.heap.size = bC at *
  have hCl := hC.lt
  have hNl := hN5.lt
  obtain ⟨pa, ca, rfl, hm⟩ := l5.form
  (have g0 : w5.cell? ⟨bC, 0, none⟩ = some (.bool c.ns) := hC.cell 0; have g1 : w5.cell? ⟨bC, 1, none⟩ = some (.bool c.nc) := hC.cell 1; have g2 : w5.cell? ⟨bC, 2, none⟩ = some (.bool c.nt) := hC.cell 2; have g3 : w5.cell? ⟨bC, 3, none⟩ = some (.bool c.pu) := hC.cell 3; have g4 : w5.cell? ⟨bC, 4, none⟩ = some (.bool c.pr) := hC.cell 4; have g5 : w5.cell? ⟨bC, 5, none⟩ = some (.bool c.mr) := hC.cell 5; have g6 : w5.cell? ⟨bC, 6, none⟩ = some (.bool c.px) := hC.cell 6; have g7 : w5.cell? ⟨bC, 7, none⟩ = some (.bool true) := hC.cell 7; have g8 : w5.cell? ⟨bC, 8, none⟩ = some (.int .i64 c.ma) := hC.cell 8; have g9 : w5.cell? ⟨bC, 9, none⟩ = some (.int .i64 c.sm) := hC.cell 9; have g10 : w5.cell? ⟨bC, 10, none⟩ = some (.int .i64 c.mf) := hC.cell 10; have g11 : w5.cell? ⟨bC, 11, none⟩ = some (.int .i64 c.ms) := hC.cell 11; have gn : w5.cell? ⟨bN, 7, none⟩ = some (S (flagName 7)) := hN5.cell 7)
  go_wp2_with fail
  go_region_held3 (fun w' => w'.cell? ⟨bC, 0, none⟩ = some (.bool c.ns) ∧ w'.cell? ⟨bC, 1, none⟩ = some (.bool c.nc) ∧ w'.cell? ⟨bC, 2, none⟩ = some (.bool c.nt) ∧ w'.cell? ⟨bC, 3, none⟩ = some (.bool c.pu) ∧ w'.cell? ⟨bC, 4, none⟩ = some (.bool c.pr) ∧ w'.cell? ⟨bC, 5, none⟩ = some (.bool c.mr) ∧ w'.cell? ⟨bC, 6, none⟩ = some (.bool c.px) ∧ w'.cell? ⟨bC, 7, none⟩ = some (.bool true) ∧ w'.cell? ⟨bC, 8, none⟩ = some (.int .i64 c.ma) ∧ w'.cell? ⟨bC, 9, none⟩ = some (.int .i64 c.sm) ∧ w'.cell? ⟨bC, 10, none⟩ = some (.int .i64 c.mf) ∧ w'.cell? ⟨bC, 11, none⟩ = some (.int .i64 c.ms) ∧ w'.cell? ⟨bN, 7, none⟩ = some (S (flagName 7)))
    (first | go_keep)
    ((first
      | (refine step_of ?_ (by rfl); refine wp_appG0 _ _ 26 rfl w5.heap.size 45 (.agg #[.string ByteArray.empty, .string ByteArray.empty, .bool false]) 3 40 Tryd.underlying26 (by kernel_rfl) rfl (by decide) _ rfl (by first | exact own_lit w5.drew w5.heap.size rfl w5.heap.size (Nat.le_refl _) _ _ | exact (own_lit w5.drew w5.heap.size rfl w5.heap.size (Nat.le_refl _) _ _).alloc _ | exact own_lit (w5.drew.alloc _) (w5.heap.size + 1) (by simp) w5.heap.size (by omega) _ _) _ _ _ _ rfl (by first | exact l5.below ((Below.refl _ _).drew.alloc (Nat.le_refl _) _) | exact l5.below (((Below.refl _ _).drew.alloc (Nat.le_refl _) _).alloc (by simp) _)) (fcells_one _) (by unfold maxLen; omega) (by omega) (by first | omega | (simp; done) | (simp; omega)) ?_; intro a8 c8 w8 hown8 hb8 hg8; have hC8 : Blk w8 bC 66 (c.flag 7).cells := (by first | exact (hC.drew.alloc _).below hb8 hCl | exact ((hC.drew.alloc _).alloc _).below hb8 hCl); have hN8 : Blk w8 bN 9 (flagNames.map S).toArray := (by first | exact (hN5.drew.alloc _).below hb8 hNl | exact ((hN5.drew.alloc _).alloc _).below hb8 hNl); (have k0 : w8.cell? ⟨bC, 0, none⟩ = some (.bool c.ns) := hC8.cell 0; have k1 : w8.cell? ⟨bC, 1, none⟩ = some (.bool c.nc) := hC8.cell 1; have k2 : w8.cell? ⟨bC, 2, none⟩ = some (.bool c.nt) := hC8.cell 2; have k3 : w8.cell? ⟨bC, 3, none⟩ = some (.bool c.pu) := hC8.cell 3; have k4 : w8.cell? ⟨bC, 4, none⟩ = some (.bool c.pr) := hC8.cell 4; have k5 : w8.cell? ⟨bC, 5, none⟩ = some (.bool c.mr) := hC8.cell 5; have k6 : w8.cell? ⟨bC, 6, none⟩ = some (.bool c.px) := hC8.cell 6; have k7 : w8.cell? ⟨bC, 7, none⟩ = some (.bool true) := hC8.cell 7; have k8 : w8.cell? ⟨bC, 8, none⟩ = some (.int .i64 c.ma) := hC8.cell 8; have k9 : w8.cell? ⟨bC, 9, none⟩ = some (.int .i64 c.sm) := hC8.cell 9; have k10 : w8.cell? ⟨bC, 10, none⟩ = some (.int .i64 c.mf) := hC8.cell 10; have k11 : w8.cell? ⟨bC, 11, none⟩ = some (.int .i64 c.ms) := hC8.cell 11; have kn : w8.cell? ⟨bN, 7, none⟩ = some (S (flagName 7)) := hN8.cell 7); have hz8 : w5.heap.size < w8.heap.size := (by have := hg8.size; simp at this; omega))
      | (refine step_of ?_ (by rfl); refine wp_appG _ _ 26 rfl w5.heap.size 45 (.agg #[.string ByteArray.empty, .string ByteArray.empty, .bool false]) 3 40 Tryd.underlying26 (by kernel_rfl) rfl (by decide) _ _ _ rfl (by first | exact hown8.alloc _ | exact hown8) _ _ _ _ rfl (by first | exact (show Rd _ _ 3 _ 1 (fcells [flagF 7]) from Rd.lit w8 45 #[S CacheControl, S (flagName 7), .bool false] 3 1 rfl (by decide)) | exact (show Rd _ _ 3 _ 1 (fcells [flagF 7]) from (Rd.lit_at (w5.drew.alloc (.cells #[] 45)) (w5.heap.size + 1) (by simp) 45 #[S CacheControl, S (flagName 7), .bool false] 3 1 rfl (by decide)).block (B' := w8.heap.size) (hg8.block _ (by simp) (by show some _ ≠ some w5.heap.size; simp)) (by have q : w5.heap.size + 1 + 1 ≤ w8.heap.size := (by have := hg8.size; simpa using this); omega)) | exact (show Rd _ _ 3 _ 1 (fcells [flagF 7]) from (Rd.lit_at w5 w5.heap.size rfl 45 #[S CacheControl, S (flagName 7), .bool false] 3 1 rfl (by decide)).block (B' := w8.heap.size) ((hg8.block w5.heap.size (by simp; omega) (by show some _ ≠ some (w5.heap.size + 1); simp)).trans (Below.heap_alloc (w5.alloc (.cells #[S CacheControl, S (flagName 7), .bool false] 45)) _ w5.heap.size (by simp))) (by have q : w5.heap.size + 1 + 1 ≤ w8.heap.size := (by have := hg8.size; simpa using this); omega))) (fcells_one _) (by unfold maxLen; omega) (by omega) (by first | omega | (simp; done) | (simp; omega)) ?_; intro a9 c9 w9 hown9 hb9 hg9; have hC9 : Blk w9 bC 66 (c.flag 7).cells := (by first | exact (hC8.alloc _).below hb9 hCl | exact hC8.below hb9 hCl); have hN9 : Blk w9 bN 9 (flagNames.map S).toArray := (by first | exact (hN8.alloc _).below hb9 hNl | exact hN8.below hb9 hNl); (have k0 : w9.cell? ⟨bC, 0, none⟩ = some (.bool c.ns) := hC9.cell 0; have k1 : w9.cell? ⟨bC, 1, none⟩ = some (.bool c.nc) := hC9.cell 1; have k2 : w9.cell? ⟨bC, 2, none⟩ = some (.bool c.nt) := hC9.cell 2; have k3 : w9.cell? ⟨bC, 3, none⟩ = some (.bool c.pu) := hC9.cell 3; have k4 : w9.cell? ⟨bC, 4, none⟩ = some (.bool c.pr) := hC9.cell 4; have k5 : w9.cell? ⟨bC, 5, none⟩ = some (.bool c.mr) := hC9.cell 5; have k6 : w9.cell? ⟨bC, 6, none⟩ = some (.bool c.px) := hC9.cell 6; have k7 : w9.cell? ⟨bC, 7, none⟩ = some (.bool true) := hC9.cell 7; have k8 : w9.cell? ⟨bC, 8, none⟩ = some (.int .i64 c.ma) := hC9.cell 8; have k9 : w9.cell? ⟨bC, 9, none⟩ = some (.int .i64 c.sm) := hC9.cell 9; have k10 : w9.cell? ⟨bC, 10, none⟩ = some (.int .i64 c.mf) := hC9.cell 10; have k11 : w9.cell? ⟨bC, 11, none⟩ = some (.int .i64 c.ms) := hC9.cell 11; have kn : w9.cell? ⟨bN, 7, none⟩ = some (S (flagName 7)) := hN9.cell 7); have hw9 : Below w5.heap.size w5 w9 := (by first | exact (((((Below.refl w5.heap.size w5).drew.alloc (Nat.le_refl _) _).trans hb8).alloc (by omega) _).trans hb9) | exact ((((Below.refl w5.heap.size w5).drew.alloc (Nat.le_refl _) _).alloc (by simp) _).trans hb8).trans hb9); have hF9 : Fs w9.heap.size w9 (.slice a9 (l.length + 1) c9) (l ++ [flagF 7]) := (by have := Rd.own hown9; unfold Fs; rw [fcells_append, List.length_append]; exact this))
      | (go_at_call 35; refine (Read_at { c with oi := true } _ HA.out _ _ hF9 HS.out).mono ?_; rintro e w10 ⟨rfl, hb10⟩; have hC10 := hC9.on hb10; have hN10 := hN9.on hb10; (have m0 : w10.cell? ⟨bC, 0, none⟩ = some (.bool c.ns) := hC10.cell 0; have m1 : w10.cell? ⟨bC, 1, none⟩ = some (.bool c.nc) := hC10.cell 1; have m2 : w10.cell? ⟨bC, 2, none⟩ = some (.bool c.nt) := hC10.cell 2; have m3 : w10.cell? ⟨bC, 3, none⟩ = some (.bool c.pu) := hC10.cell 3; have m4 : w10.cell? ⟨bC, 4, none⟩ = some (.bool c.pr) := hC10.cell 4; have m5 : w10.cell? ⟨bC, 5, none⟩ = some (.bool c.mr) := hC10.cell 5; have m6 : w10.cell? ⟨bC, 6, none⟩ = some (.bool c.px) := hC10.cell 6; have m7 : w10.cell? ⟨bC, 7, none⟩ = some (.bool true) := hC10.cell 7; have m8 : w10.cell? ⟨bC, 8, none⟩ = some (.int .i64 c.ma) := hC10.cell 8; have m9 : w10.cell? ⟨bC, 9, none⟩ = some (.int .i64 c.sm) := hC10.cell 9; have m10 : w10.cell? ⟨bC, 10, none⟩ = some (.int .i64 c.mf) := hC10.cell 10; have m11 : w10.cell? ⟨bC, 11, none⟩ = some (.int .i64 c.ms) := hC10.cell 11; have mn : w10.cell? ⟨bN, 7, none⟩ = some (S (flagName 7)) := hN10.cell 7))))
  all_goals
    go_wp2
    go_ret
    exact ⟨rfl, Bl.tr hw5 (Bl.tr hw9 hb10)⟩
end Go.Proofs.YtcicpboblppfiaaDoor
