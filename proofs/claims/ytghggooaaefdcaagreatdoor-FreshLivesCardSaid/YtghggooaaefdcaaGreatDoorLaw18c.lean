
/- FreshLives. -/
import Derived.Test.YtghggooaaefdcaaGreatDoorLaw18a
import Derived.Test.YtghggooaaefdcaaGreatDoorRf18c
import Derived.Test.YtghggooaaefdcaaGreatDoorRf18b
namespace Go.Proofs.YtghggooaaefdcaaGreatDoor
open Go.RowKit Go.Dr

theorem refLifetime_at (n : Nat) (q : En) (l : List F) (hn : lifeF l q.st q.came = n) (w : World) (h : Fs w.heap.size w q.vf l) (hl : fsum l ≤ 1099511627776) :
    Calls Tryz.prog 22 #[q.val] w fun e w' => e = .returned (.int .i64 (n : Nat)) ∧ Below w.heap.size w w' := by
  subst hn; exact refLifetime_any q l w h hl
theorem refAge_at (n : Nat) (q : En) (l : List F) (now : Int) (hn : ageF l q.asked q.came now = n) (w : World) (h : Fs w.heap.size w q.vf l) (hl : fsum l ≤ 1099511627776) :
    Calls Tryz.prog 17 #[q.val, .int .i64 now] w fun e w' => e = .returned (.int .i64 (n : Nat)) ∧ Below w.heap.size w w' := by
  subst hn; exact refAge_any q l now w h hl

set_option linter.unusedSimpArgs false in
set_option maxRecDepth 100000 in
set_option maxHeartbeats 8000000 in
theorem FreshLives_any (q : En) (now : Int) (le : List F) (w : World) (hf : Fs w.heap.size w q.vf le) (hfb : FOk le) :
    Calls Tryz.prog 6 #[q.val, .int .i64 now] w fun e w' => e = .returned (.bool true) ∧ Below w.heap.size w w' := by
  obtain ⟨n, hn⟩ : ∃ n, lifeF le q.st q.came = n := ⟨_, rfl⟩
  obtain ⟨a, ha⟩ : ∃ a, ageF le q.asked q.came now = a := ⟨_, rfl⟩
  obtain ⟨pf, cf, hfv, -⟩ := hf.form
  obtain ⟨key, vp, st, vf, body, asked, came⟩ := q
  simp only at hfv hf hn ha
  subst hfv
  have HN := Lib.hid hn
  have HA := Lib.hid ha
  have HFB := Lib.hid hfb
  clear hfb hn ha
  obtain ⟨w0, ew⟩ : ∃ w0 : World, w0 = w.alloc (.cells #[S key, vp, .int .i64 st, .slice pf le.length cf, S body, .int .i64 asked, .int .i64 came] 27) := ⟨_, rfl⟩
  have hQ : Blk w0 w.heap.size 27 #[S key, vp, .int .i64 st, .slice pf le.length cf, S body, .int .i64 asked, .int .i64 came] := by rw [ew]; exact Blk.new _ _ _
  have hb0 : Below w.heap.size w w0 := by rw [ew]; exact (Below.refl _ _).alloc (Nat.le_refl _) _
  have hf0 := (hf.below hb0).mono hb0.size
  have hs1 := @smallB_sum le
  clear hf
  simp only [En.val]
  generalize hsa : smallB le = sa at *
  have HSA := Lib.hid hsa
  have HS1 := Lib.hid hs1
  have HNok : Hid (FOk []) := Lib.hid ⟨by simp, by simp⟩
  have HSN : Hid (smallB [] = true) := by show _ = _; decide
  clear hsa hs1
  go_enter Tryz.func6, Tryz.ntmps6
  go_wp2_with fail
  rw [← ew]
  clear ew
  refine (awake18_any w0).mono ?_
  rintro e w1 ⟨rfl, hb1⟩
  have hw1 := Bl.tr hb0 hb1
  have hQ1 := hQ.on hb1
  have hf1 := (hf0.below hb1).mono hb1.size
  clear hb0 hQ hf0 hb1
  have g3 : w1.cell? ⟨w.heap.size, 3, none⟩ = some (.slice pf le.length cf) := hQ1.cell 3
  go_wp2_with fail
  refine (small18_any le [] _ _ w1 hf1 (Rd.nil _ _ _) HFB.out HNok.out).mono ?_
  rintro e w2 ⟨rfl, hb2⟩
  rw [HSA.out, HSN.out]
  have hw2 := Bl.tr hw1 hb2
  have hQ2 := hQ1.on hb2
  have hf2 := (hf1.below hb2).mono hb2.size
  clear hw1 hQ1 hf1 hb2 g3
  cases sa with
  | false =>
    go_wp2
    go_ret
    exact ⟨rfl, hw2⟩
  | true =>
  have hsum := HS1.out rfl
  (have y0 : w2.cell? ⟨w.heap.size, 0, none⟩ = some (S key) := hQ2.cell 0; have y1 : w2.cell? ⟨w.heap.size, 1, none⟩ = some (vp) := hQ2.cell 1; have y2 : w2.cell? ⟨w.heap.size, 2, none⟩ = some (.int .i64 st) := hQ2.cell 2; have y3 : w2.cell? ⟨w.heap.size, 3, none⟩ = some (.slice pf le.length cf) := hQ2.cell 3; have y4 : w2.cell? ⟨w.heap.size, 4, none⟩ = some (S body) := hQ2.cell 4; have y5 : w2.cell? ⟨w.heap.size, 5, none⟩ = some (.int .i64 asked) := hQ2.cell 5; have y6 : w2.cell? ⟨w.heap.size, 6, none⟩ = some (.int .i64 came) := hQ2.cell 6)
  go_wp2_with fail
  go_region_held3 (fun w' => w'.cell? ⟨w.heap.size, 0, none⟩ = some (S key) ∧ w'.cell? ⟨w.heap.size, 1, none⟩ = some (vp) ∧ w'.cell? ⟨w.heap.size, 2, none⟩ = some (.int .i64 st) ∧ w'.cell? ⟨w.heap.size, 3, none⟩ = some (.slice pf le.length cf) ∧ w'.cell? ⟨w.heap.size, 4, none⟩ = some (S body) ∧ w'.cell? ⟨w.heap.size, 5, none⟩ = some (.int .i64 asked) ∧ w'.cell? ⟨w.heap.size, 6, none⟩ = some (.int .i64 came))
    (first | go_keep)
    (first
      | (go_at_call 21; refine (Lifetime_at n ⟨key, vp, st, .slice pf le.length cf, body, asked, came⟩ le HN.out _ (by exact hf2.drew) (by omega)).mono ?_; rintro e w3 ⟨rfl, hb3⟩; replace hb3 := Bl.undrew hb3; have hw3 := Bl.tr hw2 hb3; have hQ3 := hQ2.on hb3; have hf3 := (hf2.below hb3).mono hb3.size; (have y0 : w3.cell? ⟨w.heap.size, 0, none⟩ = some (S key) := hQ3.cell 0; have y1 : w3.cell? ⟨w.heap.size, 1, none⟩ = some (vp) := hQ3.cell 1; have y2 : w3.cell? ⟨w.heap.size, 2, none⟩ = some (.int .i64 st) := hQ3.cell 2; have y3 : w3.cell? ⟨w.heap.size, 3, none⟩ = some (.slice pf le.length cf) := hQ3.cell 3; have y4 : w3.cell? ⟨w.heap.size, 4, none⟩ = some (S body) := hQ3.cell 4; have y5 : w3.cell? ⟨w.heap.size, 5, none⟩ = some (.int .i64 asked) := hQ3.cell 5; have y6 : w3.cell? ⟨w.heap.size, 6, none⟩ = some (.int .i64 came) := hQ3.cell 6))
      | (go_at_call 22; refine (refLifetime_at n ⟨key, vp, st, .slice pf le.length cf, body, asked, came⟩ le HN.out _ hf3 (by omega)).mono ?_; rintro e w4 ⟨rfl, hb4⟩; have hw4 := Bl.tr hw3 hb4; have hQ4 := hQ3.on hb4; have hf4 := (hf3.below hb4).mono hb4.size; (have y0 : w4.cell? ⟨w.heap.size, 0, none⟩ = some (S key) := hQ4.cell 0; have y1 : w4.cell? ⟨w.heap.size, 1, none⟩ = some (vp) := hQ4.cell 1; have y2 : w4.cell? ⟨w.heap.size, 2, none⟩ = some (.int .i64 st) := hQ4.cell 2; have y3 : w4.cell? ⟨w.heap.size, 3, none⟩ = some (.slice pf le.length cf) := hQ4.cell 3; have y4 : w4.cell? ⟨w.heap.size, 4, none⟩ = some (S body) := hQ4.cell 4; have y5 : w4.cell? ⟨w.heap.size, 5, none⟩ = some (.int .i64 asked) := hQ4.cell 5; have y6 : w4.cell? ⟨w.heap.size, 6, none⟩ = some (.int .i64 came) := hQ4.cell 6))
      | (go_at_call 23; refine (Age_at a ⟨key, vp, st, .slice pf le.length cf, body, asked, came⟩ le now HA.out _ hf4 (by omega)).mono ?_; rintro e w5 ⟨rfl, hb5⟩; have hw5 := Bl.tr hw4 hb5; have hQ5 := hQ4.on hb5; have hf5 := (hf4.below hb5).mono hb5.size; (have y0 : w5.cell? ⟨w.heap.size, 0, none⟩ = some (S key) := hQ5.cell 0; have y1 : w5.cell? ⟨w.heap.size, 1, none⟩ = some (vp) := hQ5.cell 1; have y2 : w5.cell? ⟨w.heap.size, 2, none⟩ = some (.int .i64 st) := hQ5.cell 2; have y3 : w5.cell? ⟨w.heap.size, 3, none⟩ = some (.slice pf le.length cf) := hQ5.cell 3; have y4 : w5.cell? ⟨w.heap.size, 4, none⟩ = some (S body) := hQ5.cell 4; have y5 : w5.cell? ⟨w.heap.size, 5, none⟩ = some (.int .i64 asked) := hQ5.cell 5; have y6 : w5.cell? ⟨w.heap.size, 6, none⟩ = some (.int .i64 came) := hQ5.cell 6))
      | (go_at_call 17; refine (refAge_at a ⟨key, vp, st, .slice pf le.length cf, body, asked, came⟩ le now HA.out _ hf5 (by omega)).mono ?_; rintro e w6 ⟨rfl, hb6⟩; have hw6 := Bl.tr hw5 hb6; have hQ6 := hQ5.on hb6; have hf6 := (hf5.below hb6).mono hb6.size; (have y0 : w6.cell? ⟨w.heap.size, 0, none⟩ = some (S key) := hQ6.cell 0; have y1 : w6.cell? ⟨w.heap.size, 1, none⟩ = some (vp) := hQ6.cell 1; have y2 : w6.cell? ⟨w.heap.size, 2, none⟩ = some (.int .i64 st) := hQ6.cell 2; have y3 : w6.cell? ⟨w.heap.size, 3, none⟩ = some (.slice pf le.length cf) := hQ6.cell 3; have y4 : w6.cell? ⟨w.heap.size, 4, none⟩ = some (S body) := hQ6.cell 4; have y5 : w6.cell? ⟨w.heap.size, 5, none⟩ = some (.int .i64 asked) := hQ6.cell 5; have y6 : w6.cell? ⟨w.heap.size, 6, none⟩ = some (.int .i64 came) := hQ6.cell 6)))
  go_wp2
  go_ret
  exact ⟨rfl, hw6⟩
end Go.Proofs.YtghggooaaefdcaaGreatDoor
