/- Parts of the proof of gr_root: the texts Cnw8. -/
import Derived.Test.YtlkfmhbmcicmfaaGreatDoorG19
set_option linter.unusedSimpArgs false
set_option linter.unusedVariables false
set_option linter.unnecessarySimpa false
namespace Go.Proofs.YtlkfmhbmcicmfaaGreatDoor
open Go Go.RowKit Go.Dr
variable {w w' : World} {n : Nm} {m m' : Mm} {q q' : Cq}

abbrev newC (fb lm hm : Nat) (str win lst : Int) : Array Value := #[.int .i64 str, .int .i64 win, .int .i64 4096, .int .i64 lst, Ptr fb, .pointer none, .pointer none, .pointer none, .int .i64 16384, .map (some lm), .slice none 0 0, .map (some hm), .int .i64 0, .slice none 0 0, .int .i64 0, .bool false, .bool false, .bool false, .int .i64 0, .bool false, .slice none 0 0, .slice none 0 0]

theorem Blk_to {w : World} {b b' : Nat} {t : TypeId} {xs : Array Value} (h : Blk w b t xs) (e : b = b') : Blk w b' t xs := e ▸ h
/-- a connection that is made, without its parts -/
structure Mk (w W : World) (str win lst : Int) (fb lm hm c : Nat) : Prop where
  feed : Blk W fb 164 (feedC 16384 0 (.slice none 0 0) false)
  lmE : W.heap[lm]? = some (.map #[] 0)
  hmE : W.heap[hm]? = some (.map #[] 0)
  conn : Blk W c 131 (newC fb lm hm str win lst)
  lim : Blk W w.heap.size 54 #[.int .i64 str, .int .i64 win, .int .i64 4096, .int .i64 lst]
  ne : lm ≠ hm
  lo : w.heap.size ≤ fb ∧ w.heap.size ≤ lm ∧ w.heap.size ≤ hm ∧ w.heap.size < c
  bel : Below w.heap.size w W

set_option maxRecDepth 100000 in
set_option maxHeartbeats 8000000 in
theorem ConnNew_any (str win lst : Nat) (hs1 : 1 ≤ str) (hs2 : str ≤ 8) (hw : win ≤ 2147483647) (hl : lst ≤ 65536) (w : World) :
    Calls Tryz.prog 21 #[.agg #[.int .i64 (str : Int), .int .i64 (win : Int), .int .i64 4096, .int .i64 (lst : Int)]] w fun e w' => ∃ n F, e = .returned (.tuple #[Ptr n.c, .int .i64 0]) ∧ n.B = w.heap.size ∧ Cw w' n { str := str, win := win, tab := 4096, lst := lst, bytes := frB 4 0 0 (setsB [(1, 4096), (3, str), (4, win), (6, lst)]) } F ∧ Below w.heap.size w w' := by
  have hmm := @run_makeMap Tryz.prog
  have hI := fun w => (show Calls Tryz.prog 43 #[.int .i64 16384, .bool true] w (fun e w' => e = .returned (Ptr w.heap.size) ∧ Blk w' w.heap.size 164 (feedC 16384 0 (.slice none 0 0) false) ∧ Below w.heap.size w w') from ChNew_any 16384 true w (by decide))
  obtain ⟨W, eW⟩ : ∃ W, W = w.alloc (.cells #[.int .i64 (str : Int), .int .i64 (win : Int), .int .i64 4096, .int .i64 (lst : Int)] 54) := ⟨_, rfl⟩
  have hA : Blk W w.heap.size 54 #[.int .i64 (str : Int), .int .i64 (win : Int), .int .i64 4096, .int .i64 (lst : Int)] := by rw [eW]; exact Blk.new _ _ _
  have hb : Below w.heap.size w W := by rw [eW]; exact (Below.refl _ _).alloc (Nat.le_refl _) _
  have hz : w.heap.size + 1 ≤ W.heap.size := hA.lt
  (have g0 : W.cell? ⟨w.heap.size, 0, none⟩ = some (.int .i64 (str : Int)) := hA.cell 0; have g1 : W.cell? ⟨w.heap.size, 1, none⟩ = some (.int .i64 (win : Int)) := hA.cell 1; have g2 : W.cell? ⟨w.heap.size, 2, none⟩ = some (.int .i64 4096) := hA.cell 2; have g3 : W.cell? ⟨w.heap.size, 3, none⟩ = some (.int .i64 (lst : Int)) := hA.cell 3)
  have k1 : ¬ (str : Int) < 1 := by omega
  have k2 : ¬ (8 : Int) < (str : Int) := by omega
  have k3 : ¬ (win : Int) < 0 := by omega
  have k4 : ¬ (2147483647 : Int) < (win : Int) := by omega
  have k5 : ¬ (lst : Int) < 0 := by omega
  have k6 : ¬ (65536 : Int) < (lst : Int) := by omega
  go_enter Tryz.func21, Tryz.ntmps21
  go_upto_region 1 with fail
  rw [← eW]
  clear eW
  go_upto_region 3 with fail
  have sz1 : (W.alloc (.map #[] 0)).drew.heap.size = W.heap.size + 1 := World.size_alloc W _
  have sz2 : ((W.alloc (.map #[] 0)).alloc (.map #[] 0)).drew.heap.size = W.heap.size + 1 + 1 := by rw [show ((W.alloc (.map #[] 0)).alloc (.map #[] 0)).drew.heap.size = ((W.alloc (.map #[] 0)).alloc (.map #[] 0)).heap.size from rfl, World.size_alloc, World.size_alloc]
  have hS : ∀ W', Below (w.heap.size + 1) W W' → (W'.cell? ⟨w.heap.size, 0, none⟩ = some (.int .i64 (str : Int)) ∧ W'.cell? ⟨w.heap.size, 1, none⟩ = some (.int .i64 (win : Int)) ∧ W'.cell? ⟨w.heap.size, 2, none⟩ = some (.int .i64 4096) ∧ W'.cell? ⟨w.heap.size, 3, none⟩ = some (.int .i64 (lst : Int))) := fun W' h =>
    have hA' := hA.below h (Nat.lt_succ_self _)
    ⟨hA'.cell 0, hA'.cell 1, hA'.cell 2, hA'.cell 3⟩
  go_region_held3 (fun W' => W'.cell? ⟨w.heap.size, 0, none⟩ = some (.int .i64 (str : Int)) ∧ W'.cell? ⟨w.heap.size, 1, none⟩ = some (.int .i64 (win : Int)) ∧ W'.cell? ⟨w.heap.size, 2, none⟩ = some (.int .i64 4096) ∧ W'.cell? ⟨w.heap.size, 3, none⟩ = some (.int .i64 (lst : Int)))
    (exact hS _ (by (repeat (first | (with_reducible exact hc3) | (with_reducible exact Below.refl _ _) | (with_reducible refine Below.drew ?_) | ((with_reducible refine Below.alloc ?_ ?_ _); rotate_left; (first | omega | exact (by simp <;> omega)))))))
    ((go_at_call 43; (with_reducible refine (hI _).mono ?_); rintro e w3 ⟨rfl, hF3, hb3⟩; have hc3 : Below (w.heap.size + 1) W w3 := (by refine Below.trans ?_ (hb3.mono ?_); rotate_left; (first | omega | exact (by simp <;> omega)); (repeat (first | (with_reducible exact hc3) | (with_reducible exact Below.refl _ _) | (with_reducible refine Below.drew ?_) | ((with_reducible refine Below.alloc ?_ ?_ _); rotate_left; (first | omega | exact (by simp <;> omega)))))); have hz3 : W.heap.size ≤ w3.heap.size := hc3.size))
  all_goals (go_upto_region 4 with fail)
  have hq3 : W.heap.size + 1 ≤ w3.heap.size := by have h : W.heap.size < w3.heap.size := hF3.lt; omega
  refine wp_cut (R := fun W5 => Mk w W5 str win lst (W.heap.size) (w3.heap.size) (w3.heap.size + 1) (w3.heap.size + 1 + 1)) ⟨Blk.alloc (Blk.alloc (Blk.alloc (Blk_to hF3 ((rfl : W.drew.heap.size = W.heap.size))) _) _) _, obj_alloc (obj_alloc (obj_new _ _ _ (by simp)) _) _, obj_alloc (obj_new _ _ _ (by simp)) _, bnew_at _ _ _ _ (by simp), Blk.alloc (Blk.alloc (Blk.alloc (hA.below hc3 (Nat.lt_succ_self _)) _) _) _, by omega, ⟨by omega, by omega, by omega, by omega⟩, Below.alloc (Below.alloc (Below.alloc (hb.trans (hc3.mono (Nat.le_succ _))) (by omega) _) (by simp; omega) _) (by simp; omega) _⟩ ?_
  rintro W5 hM5
  clear hq3 hF3 hb3 hc3
  generalize w3.heap.size + 1 + 1 = c at *
  generalize w3.heap.size + 1 = hm at *
  generalize w3.heap.size = lm at *
  generalize W.heap.size = fb at *
  rotate_left
  have hq3 : W.heap.size + 1 ≤ w3.heap.size := by have h : W.heap.size < w3.heap.size := hF3.lt; omega
  refine wp_cut (R := fun W5 => Mk w W5 str win lst (W.heap.size) (w3.heap.size + 1) (w3.heap.size) (w3.heap.size + 1 + 1)) ⟨Blk.alloc (Blk.alloc (Blk.alloc (Blk_to hF3 ((rfl : W.drew.heap.size = W.heap.size))) _) _) _, obj_alloc (obj_new _ _ _ (by simp)) _, obj_alloc (obj_alloc (obj_new _ _ _ (by simp)) _) _, bnew_at _ _ _ _ (by simp), Blk.alloc (Blk.alloc (Blk.alloc (hA.below hc3 (Nat.lt_succ_self _)) _) _) _, by omega, ⟨by omega, by omega, by omega, by omega⟩, Below.alloc (Below.alloc (Below.alloc (hb.trans (hc3.mono (Nat.le_succ _))) (by omega) _) (by simp; omega) _) (by simp; omega) _⟩ ?_
  rintro W5 hM5
  clear hq3 hF3 hb3 hc3
  generalize w3.heap.size + 1 + 1 = c at *
  generalize w3.heap.size + 1 = lm at *
  generalize w3.heap.size = hm at *
  generalize W.heap.size = fb at *
  rotate_left
  have hq3 : W.heap.size + 1 + 1 ≤ w3.heap.size := by have h := hF3.lt; rw [sz1] at h; omega
  refine wp_cut (R := fun W5 => Mk w W5 str win lst (W.heap.size + 1) (W.heap.size) (w3.heap.size) (w3.heap.size + 1)) ⟨Blk.alloc (Blk.alloc (Blk_to hF3 (sz1)) _) _, obj_alloc (obj_alloc (obj_below (show (W.alloc (.map #[] 0)).drew.heap[W.heap.size]? = some (.map #[] 0) from obj_new W (.map #[] 0) (W.heap.size) (rfl)) hb3 (by rw [sz1]; omega)) _) _, obj_alloc (obj_new _ _ _ (by simp)) _, bnew_at _ _ _ _ (by simp), Blk.alloc (Blk.alloc (hA.below hc3 (Nat.lt_succ_self _)) _) _, by omega, ⟨by omega, by omega, by omega, by omega⟩, Below.alloc (Below.alloc (hb.trans (hc3.mono (Nat.le_succ _))) (by omega) _) (by simp; omega) _⟩ ?_
  rintro W5 hM5
  clear hq3 hF3 hb3 hc3
  generalize w3.heap.size + 1 = c at *
  generalize W.heap.size + 1 = fb at *
  generalize w3.heap.size = hm at *
  generalize W.heap.size = lm at *
  rotate_left
  have hq3 : W.heap.size + 1 + 1 + 1 ≤ w3.heap.size := by have h := hF3.lt; rw [sz2] at h; omega
  refine wp_cut (R := fun W5 => Mk w W5 str win lst (W.heap.size + 1 + 1) (W.heap.size) (W.heap.size + 1) (w3.heap.size)) ⟨Blk.alloc (Blk_to hF3 (sz2)) _, obj_alloc (obj_below (show ((W.alloc (.map #[] 0)).alloc (.map #[] 0)).drew.heap[W.heap.size]? = some (.map #[] 0) from obj_alloc (obj_new W (.map #[] 0) (W.heap.size) (rfl)) (.map #[] 0)) hb3 (by rw [sz2]; omega)) _, obj_alloc (obj_below (show ((W.alloc (.map #[] 0)).alloc (.map #[] 0)).drew.heap[W.heap.size + 1]? = some (.map #[] 0) from obj_new (W.alloc (.map #[] 0)) (.map #[] 0) (W.heap.size + 1) (World.size_alloc W _)) hb3 (by rw [sz2]; omega)) _, bnew_at _ _ _ _ (by simp), Blk.alloc (hA.below hc3 (Nat.lt_succ_self _)) _, by omega, ⟨by omega, by omega, by omega, by omega⟩, Below.alloc (hb.trans (hc3.mono (Nat.le_succ _))) (by omega) _⟩ ?_
  rintro W5 hM5
  clear hq3 hF3 hb3 hc3
  generalize W.heap.size + 1 + 1 = fb at *
  generalize W.heap.size + 1 = hm at *
  generalize w3.heap.size = c at *
  generalize W.heap.size = lm at *
  rotate_left
  have hq3 : W.heap.size + 1 + 1 ≤ w3.heap.size := by have h := hF3.lt; rw [sz1] at h; omega
  refine wp_cut (R := fun W5 => Mk w W5 str win lst (W.heap.size + 1) (w3.heap.size) (W.heap.size) (w3.heap.size + 1)) ⟨Blk.alloc (Blk.alloc (Blk_to hF3 (sz1)) _) _, obj_alloc (obj_new _ _ _ (by simp)) _, obj_alloc (obj_alloc (obj_below (show (W.alloc (.map #[] 0)).drew.heap[W.heap.size]? = some (.map #[] 0) from obj_new W (.map #[] 0) (W.heap.size) (rfl)) hb3 (by rw [sz1]; omega)) _) _, bnew_at _ _ _ _ (by simp), Blk.alloc (Blk.alloc (hA.below hc3 (Nat.lt_succ_self _)) _) _, by omega, ⟨by omega, by omega, by omega, by omega⟩, Below.alloc (Below.alloc (hb.trans (hc3.mono (Nat.le_succ _))) (by omega) _) (by simp; omega) _⟩ ?_
  rintro W5 hM5
  clear hq3 hF3 hb3 hc3
  generalize w3.heap.size + 1 = c at *
  generalize W.heap.size + 1 = fb at *
  generalize w3.heap.size = lm at *
  generalize W.heap.size = hm at *
  rotate_left
  have hq3 : W.heap.size + 1 + 1 + 1 ≤ w3.heap.size := by have h := hF3.lt; rw [sz2] at h; omega
  refine wp_cut (R := fun W5 => Mk w W5 str win lst (W.heap.size + 1 + 1) (W.heap.size + 1) (W.heap.size) (w3.heap.size)) ⟨Blk.alloc (Blk_to hF3 (sz2)) _, obj_alloc (obj_below (show ((W.alloc (.map #[] 0)).alloc (.map #[] 0)).drew.heap[W.heap.size + 1]? = some (.map #[] 0) from obj_new (W.alloc (.map #[] 0)) (.map #[] 0) (W.heap.size + 1) (World.size_alloc W _)) hb3 (by rw [sz2]; omega)) _, obj_alloc (obj_below (show ((W.alloc (.map #[] 0)).alloc (.map #[] 0)).drew.heap[W.heap.size]? = some (.map #[] 0) from obj_alloc (obj_new W (.map #[] 0) (W.heap.size) (rfl)) (.map #[] 0)) hb3 (by rw [sz2]; omega)) _, bnew_at _ _ _ _ (by simp), Blk.alloc (hA.below hc3 (Nat.lt_succ_self _)) _, by omega, ⟨by omega, by omega, by omega, by omega⟩, Below.alloc (hb.trans (hc3.mono (Nat.le_succ _))) (by omega) _⟩ ?_
  rintro W5 hM5
  clear hq3 hF3 hb3 hc3
  generalize W.heap.size + 1 + 1 = fb at *
  generalize W.heap.size + 1 = lm at *
  generalize w3.heap.size = c at *
  generalize W.heap.size = hm at *
  rotate_left
  all_goals (
    have l2 : W5.cell? ⟨w.heap.size, 2, none⟩ = some (.int .i64 4096) := hM5.lim.cell 2
    have l3 : W5.cell? ⟨w.heap.size, 3, none⟩ = some (.int .i64 (lst : Int)) := hM5.lim.cell 3
    have hD := DecNew_lst lst (by omega) W5
    obtain ⟨o1, o2, o3, o4⟩ := hM5.lo
    have z5 := hM5.bel.size
    have cl := hM5.conn.lt
    clear hA hb hz g0 g1 g2 g3 hI hS sz1 sz2 k1 k2 k3 k4 k5 k6
    go_upto_region 5 with (go_at_call 44; (with_reducible refine hD.mono ?_); rintro e w6 ⟨rfl, hb6, hT6, hD6⟩; have hC6 := hM5.conn.on hb6; have y5 : w6.cell? ⟨c, 5, none⟩ = some (.pointer none) := hC6.cell 5; have f5 := hC6.free 5)
    refine wp_cut (R := fun W7 => Blk W7 c 131 #[.int .i64 (str : Int), .int .i64 (win : Int), .int .i64 4096, .int .i64 (lst : Int), Ptr fb, Ptr (W5.heap.size + 3), .pointer none, .pointer none, .int .i64 16384, .map (some lm), .slice none 0 0, .map (some hm), .int .i64 0, .slice none 0 0, .int .i64 0, .bool false, .bool false, .bool false, .int .i64 0, .bool false, .slice none 0 0, .slice none 0 0] ∧ But (fun g => g = c) W5 W7 ∧ Tbl0 W7 (W5.heap.size + 2) ∧ Blk W7 (W5.heap.size + 3) 169 #[.int .i64 4096, .int .i64 (lst : Int), Ptr (W5.heap.size + 2), .bool false]) ⟨hC6.set 5 _, (But.of_below (S := fun g => g = c) hb6).setCell (p := ⟨c, 5, none⟩) (.inl rfl) _, ⟨(Below.heap_setCell _ _ _ _ (by show _ ≠ c; omega)).trans hT6.m1, (Below.heap_setCell _ _ _ _ (by show _ ≠ c; omega)).trans hT6.m2, hT6.blk.other (by show _ ≠ c; omega) _⟩, hD6.other (by show _ ≠ c; omega) _⟩ ?_
    clear l2 l3 hD hb6 hT6 hD6 hC6 y5 f5 w6
    rintro W7 ⟨hC7, hu7, hT7, hD7⟩
    have z7 := hu7.size
    have hE := EncNew_any W7
    go_upto_region 6 with (go_at_call 63; (with_reducible refine hE.mono ?_); rintro e w8 ⟨rfl, hb8, hT8, hE8⟩; have hC8 := hC7.on hb8; have y6 : w8.cell? ⟨c, 6, none⟩ = some (.pointer none) := hC8.cell 6; have f6 := hC8.free 6)
    have lm5 := lt_of_block hM5.lmE
    have hm5 := lt_of_block hM5.hmE
    have fb5 := hM5.feed.lt
    have d7 : W5.heap.size + 3 < W7.heap.size := hD7.lt
    refine wp_cut (R := fun W9 => Blk W9 c 131 #[.int .i64 (str : Int), .int .i64 (win : Int), .int .i64 4096, .int .i64 (lst : Int), Ptr fb, Ptr (W5.heap.size + 3), Ptr (W7.heap.size + 3), .pointer none, .int .i64 16384, .map (some lm), .slice none 0 0, .map (some hm), .int .i64 0, .slice none 0 0, .int .i64 0, .bool false, .bool false, .bool false, .int .i64 0, .bool false, .slice none 0 0, .slice none 0 0] ∧ But (fun g => g = c) W7 W9 ∧ Tbl0 W9 (W7.heap.size + 2) ∧ Blk W9 (W7.heap.size + 3) 186 #[.int .i64 4096, .int .i64 4096, .int .i64 4096, Ptr (W7.heap.size + 2)]) ⟨hC8.set 6 _, (But.of_below (S := fun g => g = c) hb8).setCell (p := ⟨c, 6, none⟩) (.inl rfl) _, ⟨(Below.heap_setCell _ _ _ _ (by show _ ≠ c; omega)).trans hT8.m1, (Below.heap_setCell _ _ _ _ (by show _ ≠ c; omega)).trans hT8.m2, hT8.blk.other (by show _ ≠ c; omega) _⟩, hE8.other (by show _ ≠ c; omega) _⟩ ?_
    clear hE hb8 hT8 hE8 hC8 y6 f6 w8
    rintro W9 ⟨hC9, hu9, hT9, hE9⟩
    have z9 := hu9.size
    have e9 : W7.heap.size + 3 < W9.heap.size := hE9.lt
    have hW := WinNew_any W9
    go_upto_region 7 with (go_at_call 64; (with_reducible refine hW.mono ?_); rintro e w10 ⟨rfl, hb10, hO10, hB10⟩; have hC10 := hC9.on hb10; have y7 : w10.cell? ⟨c, 7, none⟩ = some (.pointer none) := hC10.cell 7; have f7 := hC10.free 7)
    refine wp_cut (R := fun W11 => Blk W11 c 131 #[.int .i64 (str : Int), .int .i64 (win : Int), .int .i64 4096, .int .i64 (lst : Int), Ptr fb, Ptr (W5.heap.size + 3), Ptr (W7.heap.size + 3), Ptr (W9.heap.size + 1), .int .i64 16384, .map (some lm), .slice none 0 0, .map (some hm), .int .i64 0, .slice none 0 0, .int .i64 0, .bool false, .bool false, .bool false, .int .i64 0, .bool false, .slice none 0 0, .slice none 0 0] ∧ But (fun g => g = c) W9 W11 ∧ W11.heap[W9.heap.size]? = some (.map #[] 0) ∧ Blk W11 (W9.heap.size + 1) 188 #[.int .i64 65535, .int .i64 65535, .map (some W9.heap.size)]) ⟨hC10.set 7 _, (But.of_below (S := fun g => g = c) hb10).setCell (p := ⟨c, 7, none⟩) (.inl rfl) _, (Below.heap_setCell _ _ _ _ (by show _ ≠ c; omega)).trans hO10, hB10.other (by show _ ≠ c; omega) _⟩ ?_
    clear hW hb10 hO10 hB10 hC10 y7 f7 w10
    rintro W11 ⟨hC11, hu11, hO11, hB11⟩
    have z11 : W9.heap.size + 1 < W11.heap.size := hB11.lt
    have hall : But (fun g => g = c) W5 W11 := (hu7.trans hu9).trans hu11
    have hu9' := hu9.trans hu11
    obtain ⟨n, en⟩ : ∃ n : Nm, n = ⟨w.heap.size, c, fb, W5.heap.size + 3, W5.heap.size + 2, W7.heap.size + 3, W7.heap.size + 2, W9.heap.size + 1, lm, hm, W9.heap.size, W5.heap.size + 2 - 2, W5.heap.size + 2 - 1, W7.heap.size + 2 - 2, W7.heap.size + 2 - 1⟩ := ⟨_, rfl⟩
    have kp : ∀ {g : Nat} {o : Obj}, W5.heap[g]? = some o → g ≠ c → W11.heap[g]? = some o := fun {g o} h hn => (hall.block g (lt_of_block h) hn).trans h
    have kp7 : ∀ {g : Nat} {o : Obj}, W7.heap[g]? = some o → g ≠ c → W11.heap[g]? = some o := fun {g o} h hn => (hu9'.block g (lt_of_block h) hn).trans h
    have kp9 : ∀ {g : Nat} {o : Obj}, W9.heap[g]? = some o → g ≠ c → W11.heap[g]? = some o := fun {g o} h hn => (hu11.block g (lt_of_block h) hn).trans h
    have nlm : lm ≠ c := fun e => by have h1 := hM5.lmE; rw [e] at h1; have h2 : W5.heap[c]? = _ := hM5.conn; rw [h2] at h1; cases h1
    have nhm : hm ≠ c := fun e => by have h1 := hM5.hmE; rw [e] at h1; have h2 : W5.heap[c]? = _ := hM5.conn; rw [h2] at h1; cases h1
    have nfb : fb ≠ c := fun e => by have h1 := kd_blk hM5.feed; have h2 := kd_blk hM5.conn; rw [e] at h1; omega
    have k_dec := kp7 hD7 (by omega)
    have k_t1 := kp7 hT7.blk (by omega)
    have k_b1 := kp7 hT7.m1 (by omega)
    have k_n1 := kp7 hT7.m2 (by omega)
    have k_enc := kp9 hE9 (by omega)
    have k_t2 := kp9 hT9.blk (by omega)
    have k_b2 := kp9 hT9.m1 (by omega)
    have k_n2 := kp9 hT9.m2 (by omega)
    have hX : Cx W11 n { sb := fun _ => 0, sv := fun _ => .slice none 0 0 } { str := str, win := win, tab := 4096, lst := lst } := by
      rw [en]
      exact {
        blk := hC11
        feed := kp hM5.feed nfb
        dec := k_dec
        t1 := k_t1
        b1 := k_b1
        n1 := k_n1
        enc := k_enc
        t2 := k_t2
        b2 := k_b2
        n2 := k_n2
        book := hB11
        off := GMap.made hO11
        how := GMap.made (kp hM5.hmE nhm)
        live := GMap.made (kp hM5.lmE nlm)
        side := by intro p hp; cases hp
        pend := by intro p hp; cases hp
        bytes := World.ownsRow_nil _ _ _ _
        news := ⟨0, World.ownsRow_nil _ _ _ _⟩
        closed := World.ownsRow_nil _ _ _ _
        tt := by show _ ≠ _; simp only []; omega
        maps := by have := hM5.ne; refine ⟨this, ?_, ?_, ⟨?_, ?_, ?_⟩, ⟨?_, ?_, ?_⟩, ⟨?_, ?_, ?_⟩, ?_, ?_, ?_⟩ <;> (simp only []; omega)
        bp := by intro p hp; cases hp
        ss := by intro p hp; cases hp
        lo := by
          rintro g (hg | hg | hg | ⟨p, hp, _⟩)
          · simp only [] at hg ⊢; omega
          · simp only [] at hg ⊢; omega
          · rcases hg with hg | hg | hg <;> cases hg
          · cases hp }
    have hw11 : Below w.heap.size w W11 := hM5.bel.trans (hall.below (fun k hk => by omega) z5)
    have hlim : Blk W11 w.heap.size 54 _ := kp hM5.lim (by omega)
    have l0 : W11.cell? ⟨w.heap.size, 0, none⟩ = some (.int .i64 (str : Int)) := hlim.cell 0
    have l1 : W11.cell? ⟨w.heap.size, 1, none⟩ = some (.int .i64 (win : Int)) := hlim.cell 1
    have l2 : W11.cell? ⟨w.heap.size, 2, none⟩ = some (.int .i64 4096) := hlim.cell 2
    have l3 : W11.cell? ⟨w.heap.size, 3, none⟩ = some (.int .i64 (lst : Int)) := hlim.cell 3
    have hnB : n.B = w.heap.size := by rw [en]
    have hnc : c = n.c := by rw [en]
    obtain ⟨W12, eW12⟩ : ∃ W12, W12 = W11.alloc (.cells #[.int .i64 1, .int .i64 4096, .int .i64 3, .int .i64 (str : Int), .int .i64 4, .int .i64 (win : Int), .int .i64 6, .int .i64 (lst : Int)] 31) := ⟨_, rfl⟩
    have hb12 : Below W11.heap.size W11 W12 := by rw [eW12]; exact (Below.refl _ _).alloc (Nat.le_refl _) _
    have hst : Sts W12.heap.size W12 (.slice (some ⟨W11.heap.size, 0, none⟩) 4 4) [(1, 4096), (3, str), (4, win), (6, lst)] := by
      have h := Rd.lit W11 31 #[.int .i64 1, .int .i64 4096, .int .i64 3, .int .i64 (str : Int), .int .i64 4, .int .i64 (win : Int), .int .i64 6, .int .i64 (lst : Int)] 2 4 rfl (by decide)
      rw [← eW12] at h
      exact h.mono (by rw [eW12]; simp)
    have hWr := Write_any (c0 := .int .i64 4) (c1 := .int .i64 0) (c2 := .int .i64 0) (c3 := .string ⟨#[]⟩) (c4 := .int .i64 0) (c5 := .slice (some ⟨W11.heap.size, 0, none⟩) 4 4) (c6 := .int .i64 0) (c7 := .int .i64 0) (c8 := .int .i64 0) (c9 := .int .i64 0) (c10 := .int .i64 0) (c11 := .bool false) W12 ⟨_, hX.on hb12, rfl⟩ (frB 4 0 0 (setsB [(1, 4096), (3, str), (4, win), (6, lst)])) (fun w1 hb1 => pPut_SetV 0 0 (by decide) (by decide) [(1, 4096), (3, str), (4, win), (6, lst)] _ 4 (by intro s hs; simp at hs; rcases hs with rfl | rfl | rfl | rfl <;> (constructor <;> simp only [] <;> omega)) (show (4 : Nat) ≤ 1000000 by decide) w1 ((Rd.below hst hb1).mono hb1.size)) (by rw [frB_length, setsB_len]; simp)
    rw [← hnc] at hWr
    have H1 := Lib.hid hnB
    have H2 := Lib.hid hnc
    clear hnB hnc en
    go_wp2_with (go_at_call 65; rw [← eW12]; (with_reducible refine hWr.mono ?_); rintro e w13 ⟨rfl, hg13⟩)
    go_ret2
    obtain ⟨F, h13, b13, s13⟩ := hg13
    refine ⟨n, F, by rw [← H2.out]; rfl, H1.out, h13, ?_⟩
    have hz11 := hw11.size
    have hz12 := hb12.size
    exact (hw11.trans (hb12.mono hz11)).trans (b13.below (fun k hk => by have := hX.lo k hk; rw [H1.out] at this; exact this) (Nat.le_trans hz11 hz12)))
end Go.Proofs.YtlkfmhbmcicmfaaGreatDoor

