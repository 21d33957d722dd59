
/- FreshGood. -/
import Derived.Test.YtghggooaaefdcaaGreatDoorLaw18a
import Derived.Test.YtghggooaaefdcaaGreatDoorRf18d
namespace Go.Proofs.YtghggooaaefdcaaGreatDoor
open Go.RowKit Go.Dr

theorem refGood_at (b : Bool) (r : Rq) (q : En) (lr lf : List F) (now : Int) (hb : goodF lr lf q.st q.asked q.came now = b) (w : World) (hr : Fs w.heap.size w r.v lr) (hf : Fs w.heap.size w q.vf lf) (hl : fsum lr ≤ 1099511627776) (hl2 : fsum lf ≤ 1099511627776) :
    Calls Tryz.prog 25 #[r.val, q.val, .int .i64 now] w fun e w' => e = .returned (.bool b) ∧ Below w.heap.size w w' := by
  subst hb; exact refGood_any r q lr lf now w hr hf hl hl2

set_option linter.unusedSimpArgs false in
set_option maxRecDepth 100000 in
set_option maxHeartbeats 8000000 in
theorem FreshGood_any (r : Rq) (q : En) (now : Int) (lr le : List F) (w : World) (hr : Fs w.heap.size w r.v lr) (hrb : FOk lr) (hf : Fs w.heap.size w q.vf le) (hfb : FOk le) :
    Calls Tryz.prog 7 #[r.val, q.val, .int .i64 now] w fun e w' => e = .returned (.bool true) ∧ Below w.heap.size w w' := by
  obtain ⟨b, hmet⟩ : ∃ b, goodF lr le q.st q.asked q.came now = b := ⟨_, rfl⟩
  obtain ⟨pr, cr, hrv, -⟩ := hr.form
  obtain ⟨pf, cf, hfv, -⟩ := hf.form
  obtain ⟨rm, rs, ra, rp, rv⟩ := r
  obtain ⟨key, vp, st, vf, body, asked, came⟩ := q
  simp only at hrv hfv hr hf hmet
  subst hrv hfv
  have HM := Lib.hid hmet
  have HFB := Lib.hid hfb
  have HRB := Lib.hid hrb
  clear hfb hrb hmet
  obtain ⟨w0, ew⟩ : ∃ w0 : World, w0 = (w.alloc (.cells #[S rm, S rs, S ra, S rp, .slice pr lr.length cr] 24)).alloc (.cells #[S key, vp, .int .i64 st, .slice pf le.length cf, S body, .int .i64 asked, .int .i64 came] 27) := ⟨_, rfl⟩
  have hR : Blk w0 w.heap.size 24 #[S rm, S rs, S ra, S rp, .slice pr lr.length cr] := by rw [ew]; exact (Blk.new _ _ _).alloc _
  have hQ : Blk w0 (w.heap.size + 1) 27 #[S key, vp, .int .i64 st, .slice pf le.length cf, S body, .int .i64 asked, .int .i64 came] := by
    rw [ew]
    have := Blk.new (w.alloc (.cells #[S rm, S rs, S ra, S rp, .slice pr lr.length cr] 24)) 27 #[S key, vp, .int .i64 st, .slice pf le.length cf, S body, .int .i64 asked, .int .i64 came]
    rwa [show (w.alloc (.cells #[S rm, S rs, S ra, S rp, .slice pr lr.length cr] 24)).heap.size = w.heap.size + 1 by simp] at this
  have hb0 : Below w.heap.size w w0 := by rw [ew]; exact ((Below.refl _ _).alloc (Nat.le_refl _) _).alloc (by simp) _
  have hr0 := (hr.below hb0).mono hb0.size
  have hf0 := (hf.below hb0).mono hb0.size
  have hs1 := @smallB_sum lr
  have hs2 := @smallB_sum le
  clear hr hf
  simp only [Rq.val, En.val]
  generalize hsa : smallB lr = sa at *
  generalize hsb : smallB le = sb at *
  have HSA := Lib.hid hsa
  have HSB := Lib.hid hsb
  have HS1 := Lib.hid hs1
  have HS2 := Lib.hid hs2
  clear hsa hsb hs1 hs2
  have hbb : (b == b) = true := by simp
  go_enter Tryz.func7, Tryz.ntmps7
  go_wp2_with fail
  rw [← ew]
  clear ew
  refine (awake18_any w0).mono ?_
  rintro e w1 ⟨rfl, hb1⟩
  have hw1 := Bl.tr hb0 hb1
  have hQ1 := hQ.on hb1
  have hR1 := hR.on hb1
  have hr1 := (hr0.below hb1).mono hb1.size
  have hf1 := (hf0.below hb1).mono hb1.size
  clear hb0 hQ hR hr0 hf0 hb1
  have g4 : w1.cell? ⟨w.heap.size, 4, none⟩ = some (.slice pr lr.length cr) := hR1.cell 4
  have g3 : w1.cell? ⟨w.heap.size + 1, 3, none⟩ = some (.slice pf le.length cf) := hQ1.cell 3
  go_wp2_with fail
  refine (small18_any lr le _ _ w1 hr1 hf1 HRB.out HFB.out).mono ?_
  rintro e w2 ⟨rfl, hb2⟩
  rw [HSA.out, HSB.out]
  have hw2 := Bl.tr hw1 hb2
  have hQ2 := hQ1.on hb2
  have hR2 := hR1.on hb2
  have hr2 := (hr1.below hb2).mono hb2.size
  have hf2 := (hf1.below hb2).mono hb2.size
  clear hw1 hQ1 hR1 hr1 hf1 hb2 g3 g4
  cases sa with
  | false =>
    go_wp2
    go_ret
    exact ⟨rfl, hw2⟩
  | true =>
  cases sb with
  | false =>
    go_wp2
    go_ret
    exact ⟨rfl, hw2⟩
  | true =>
  have hs1 := HS1.out rfl
  have hs2 := HS2.out rfl
  (have x0 : w2.cell? ⟨w.heap.size, 0, none⟩ = some (S rm) := hR2.cell 0; have x1 : w2.cell? ⟨w.heap.size, 1, none⟩ = some (S rs) := hR2.cell 1; have x2 : w2.cell? ⟨w.heap.size, 2, none⟩ = some (S ra) := hR2.cell 2; have x3 : w2.cell? ⟨w.heap.size, 3, none⟩ = some (S rp) := hR2.cell 3; have x4 : w2.cell? ⟨w.heap.size, 4, none⟩ = some (.slice pr lr.length cr) := hR2.cell 4)
  (have y0 : w2.cell? ⟨w.heap.size + 1, 0, none⟩ = some (S key) := hQ2.cell 0; have y1 : w2.cell? ⟨w.heap.size + 1, 1, none⟩ = some (vp) := hQ2.cell 1; have y2 : w2.cell? ⟨w.heap.size + 1, 2, none⟩ = some (.int .i64 st) := hQ2.cell 2; have y3 : w2.cell? ⟨w.heap.size + 1, 3, none⟩ = some (.slice pf le.length cf) := hQ2.cell 3; have y4 : w2.cell? ⟨w.heap.size + 1, 4, none⟩ = some (S body) := hQ2.cell 4; have y5 : w2.cell? ⟨w.heap.size + 1, 5, none⟩ = some (.int .i64 asked) := hQ2.cell 5; have y6 : w2.cell? ⟨w.heap.size + 1, 6, none⟩ = some (.int .i64 came) := hQ2.cell 6)
  go_wp2_with fail
  go_region_held3 (fun w' => (w'.cell? ⟨w.heap.size, 0, none⟩ = some (S rm) ∧ w'.cell? ⟨w.heap.size, 1, none⟩ = some (S rs) ∧ w'.cell? ⟨w.heap.size, 2, none⟩ = some (S ra) ∧ w'.cell? ⟨w.heap.size, 3, none⟩ = some (S rp) ∧ w'.cell? ⟨w.heap.size, 4, none⟩ = some (.slice pr lr.length cr)) ∧ w'.cell? ⟨w.heap.size + 1, 0, none⟩ = some (S key) ∧ w'.cell? ⟨w.heap.size + 1, 1, none⟩ = some (vp) ∧ w'.cell? ⟨w.heap.size + 1, 2, none⟩ = some (.int .i64 st) ∧ w'.cell? ⟨w.heap.size + 1, 3, none⟩ = some (.slice pf le.length cf) ∧ w'.cell? ⟨w.heap.size + 1, 4, none⟩ = some (S body) ∧ w'.cell? ⟨w.heap.size + 1, 5, none⟩ = some (.int .i64 asked) ∧ w'.cell? ⟨w.heap.size + 1, 6, none⟩ = some (.int .i64 came))
    (first | go_keep)
    (first
      | (go_at_call 24; refine (Good_at b ⟨rm, rs, ra, rp, .slice pr lr.length cr⟩ ⟨key, vp, st, .slice pf le.length cf, body, asked, came⟩ lr le now HM.out _ (by exact hr2.drew) (by exact hf2.drew) (by omega) (by omega)).mono ?_; rintro e w3 ⟨rfl, hb3⟩; replace hb3 := Bl.undrew hb3; have hw3 := Bl.tr hw2 hb3; have hQ3 := hQ2.on hb3; have hR3 := hR2.on hb3; have hr3 := (hr2.below hb3).mono hb3.size; have hf3 := (hf2.below hb3).mono hb3.size; (have x0 : w3.cell? ⟨w.heap.size, 0, none⟩ = some (S rm) := hR3.cell 0; have x1 : w3.cell? ⟨w.heap.size, 1, none⟩ = some (S rs) := hR3.cell 1; have x2 : w3.cell? ⟨w.heap.size, 2, none⟩ = some (S ra) := hR3.cell 2; have x3 : w3.cell? ⟨w.heap.size, 3, none⟩ = some (S rp) := hR3.cell 3; have x4 : w3.cell? ⟨w.heap.size, 4, none⟩ = some (.slice pr lr.length cr) := hR3.cell 4); (have y0 : w3.cell? ⟨w.heap.size + 1, 0, none⟩ = some (S key) := hQ3.cell 0; have y1 : w3.cell? ⟨w.heap.size + 1, 1, none⟩ = some (vp) := hQ3.cell 1; have y2 : w3.cell? ⟨w.heap.size + 1, 2, none⟩ = some (.int .i64 st) := hQ3.cell 2; have y3 : w3.cell? ⟨w.heap.size + 1, 3, none⟩ = some (.slice pf le.length cf) := hQ3.cell 3; have y4 : w3.cell? ⟨w.heap.size + 1, 4, none⟩ = some (S body) := hQ3.cell 4; have y5 : w3.cell? ⟨w.heap.size + 1, 5, none⟩ = some (.int .i64 asked) := hQ3.cell 5; have y6 : w3.cell? ⟨w.heap.size + 1, 6, none⟩ = some (.int .i64 came) := hQ3.cell 6))
      | (go_at_call 25; refine (refGood_at b ⟨rm, rs, ra, rp, .slice pr lr.length cr⟩ ⟨key, vp, st, .slice pf le.length cf, body, asked, came⟩ lr le now HM.out _ (by exact hr3) (by exact hf3) (by omega) (by omega)).mono ?_; rintro e w4 ⟨rfl, hb4⟩; have hw4 := Bl.tr hw3 hb4; have hQ4 := hQ3.on hb4; have hR4 := hR3.on hb4; (have x0 : w4.cell? ⟨w.heap.size, 0, none⟩ = some (S rm) := hR4.cell 0; have x1 : w4.cell? ⟨w.heap.size, 1, none⟩ = some (S rs) := hR4.cell 1; have x2 : w4.cell? ⟨w.heap.size, 2, none⟩ = some (S ra) := hR4.cell 2; have x3 : w4.cell? ⟨w.heap.size, 3, none⟩ = some (S rp) := hR4.cell 3; have x4 : w4.cell? ⟨w.heap.size, 4, none⟩ = some (.slice pr lr.length cr) := hR4.cell 4); (have y0 : w4.cell? ⟨w.heap.size + 1, 0, none⟩ = some (S key) := hQ4.cell 0; have y1 : w4.cell? ⟨w.heap.size + 1, 1, none⟩ = some (vp) := hQ4.cell 1; have y2 : w4.cell? ⟨w.heap.size + 1, 2, none⟩ = some (.int .i64 st) := hQ4.cell 2; have y3 : w4.cell? ⟨w.heap.size + 1, 3, none⟩ = some (.slice pf le.length cf) := hQ4.cell 3; have y4 : w4.cell? ⟨w.heap.size + 1, 4, none⟩ = some (S body) := hQ4.cell 4; have y5 : w4.cell? ⟨w.heap.size + 1, 5, none⟩ = some (.int .i64 asked) := hQ4.cell 5; have y6 : w4.cell? ⟨w.heap.size + 1, 6, none⟩ = some (.int .i64 came) := hQ4.cell 6)))
  go_wp2
  go_ret
  exact ⟨rfl, hw4⟩
end Go.Proofs.YtghggooaaefdcaaGreatDoor
