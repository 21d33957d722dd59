
/- RenewAnswers. -/
import Derived.Test.YtghggooaaefdcaaGreatDoorLaw20a
import Derived.Test.YtghggooaaefdcaaGreatDoorRf20b
import Derived.Test.YtghggooaaefdcaaGreatDoorRnP
namespace Go.Proofs.YtghggooaaefdcaaGreatDoor
open Go.RowKit Go.Dr

theorem Fields_same (a : List F) (va vb : Value) (w : World) (ha : Fs w.heap.size w va a) (hb : Fs w.heap.size w vb a) :
    Calls Tryz.prog 14 #[va, vb] w fun e w' => e = .returned (.bool true) ∧ Below w.heap.size w w' :=
  (Fields_any a a va vb w ha hb).mono fun _ _ ⟨h1, h2⟩ => ⟨by rw [h1, beq_self_eq_true], h2⟩

set_option linter.unusedSimpArgs false in
set_option maxRecDepth 100000 in
set_option maxHeartbeats 8000000 in
theorem RenewAnswers_any (r : Rq) (q : En) (now : Int) (lr le : List F) (w : World) (hr : Fs w.heap.size w r.v lr) (hrb : FOk lr) (hf : Fs w.heap.size w q.vf le) (hfb : FOk le) (hbody : q.body.length ≤ 140737488351232) :
    Calls Tryz.prog 4 #[r.val, q.val, .int .i64 now] w fun e w' => e = .returned (.bool true) ∧ Below w.heap.size w w' := by
  obtain ⟨pr, cr, hrv, -⟩ := hr.form
  obtain ⟨pf, cf, hfv, -⟩ := hf.form
  obtain ⟨rm, rs, ra, rp, rv⟩ := r
  obtain ⟨key, vp, st, vf, body, asked, came⟩ := q
  simp only at hrv hfv hr hf hbody
  subst hrv hfv
  have HFB := Lib.hid hfb
  have HRB := Lib.hid hrb
  clear hfb hrb
  obtain ⟨w0, ew⟩ : ∃ w0 : World, w0 = (w.alloc (.cells #[S rm, S rs, S ra, S rp, .slice pr lr.length cr] 24)).alloc (.cells #[S key, vp, .int .i64 st, .slice pf le.length cf, S body, .int .i64 asked, .int .i64 came] 27) := ⟨_, rfl⟩
  have hR : Blk w0 w.heap.size 24 #[S rm, S rs, S ra, S rp, .slice pr lr.length cr] := by rw [ew]; exact (Blk.new _ _ _).alloc _
  have hQ : Blk w0 (w.heap.size + 1) 27 #[S key, vp, .int .i64 st, .slice pf le.length cf, S body, .int .i64 asked, .int .i64 came] := by
    rw [ew]
    have := Blk.new (w.alloc (.cells #[S rm, S rs, S ra, S rp, .slice pr lr.length cr] 24)) 27 #[S key, vp, .int .i64 st, .slice pf le.length cf, S body, .int .i64 asked, .int .i64 came]
    rwa [show (w.alloc (.cells #[S rm, S rs, S ra, S rp, .slice pr lr.length cr] 24)).heap.size = w.heap.size + 1 by simp] at this
  have hb0 : Below w.heap.size w w0 := by rw [ew]; exact ((Below.refl _ _).alloc (Nat.le_refl _) _).alloc (by simp) _
  have hr0 := (hr.below hb0).mono hb0.size
  have hf0 := (hf.below hb0).mono hb0.size
  have hs1 := @smallB_sum lr
  have hs2 := @smallB_sum le
  clear hr hf
  simp only [Rq.val, En.val]
  generalize hsa : smallB lr = sa at *
  generalize hsb : smallB le = sb at *
  have HSA := Lib.hid hsa
  have HSB := Lib.hid hsb
  have HS1 := Lib.hid hs1
  have HS2 := Lib.hid hs2
  clear hsa hsb hs1 hs2
  go_enter Tryz.func4, Tryz.ntmps4
  go_wp2_with fail
  rw [← ew]
  clear ew
  refine (awake20_any w0).mono ?_
  rintro e w1 ⟨rfl, hb1⟩
  have hw1 := Bl.tr hb0 hb1
  have hQ1 := hQ.on hb1
  have hR1 := hR.on hb1
  have hr1 := (hr0.below hb1).mono hb1.size
  have hf1 := (hf0.below hb1).mono hb1.size
  clear hb0 hQ hR hr0 hf0 hb1
  have g4 : w1.cell? ⟨w.heap.size, 4, none⟩ = some (.slice pr lr.length cr) := hR1.cell 4
  have g3 : w1.cell? ⟨w.heap.size + 1, 3, none⟩ = some (.slice pf le.length cf) := hQ1.cell 3
  have g5 : w1.cell? ⟨w.heap.size + 1, 4, none⟩ = some (S body) := hQ1.cell 4
  go_wp2_with fail
  refine (small20_any lr le _ _ w1 hr1 hf1 HRB.out HFB.out).mono ?_
  rintro e w2 ⟨rfl, hb2⟩
  rw [HSA.out, HSB.out]
  have hw2 := Bl.tr hw1 hb2
  have hQ2 := hQ1.on hb2
  have hR2 := hR1.on hb2
  have hr2 := (hr1.below hb2).mono hb2.size
  have hf2 := (hf1.below hb2).mono hb2.size
  clear hw1 hQ1 hR1 hr1 hf1 hb2 g3 g4 g5
  have g5 : w2.cell? ⟨w.heap.size + 1, 4, none⟩ = some (S body) := hQ2.cell 4
  cases sa with
  | false =>
    go_wp2
    go_ret
    exact ⟨rfl, hw2⟩
  | true =>
  cases sb with
  | false =>
    go_wp2
    go_ret
    exact ⟨rfl, hw2⟩
  | true =>
  by_cases hbl : 1048576 < body.length
  · have g6 : decide ((1048576 : Int) < (body.length : Int)) = true := by rw [decide_eq_true_iff]; omega
    clear hbl
    go_wp2
    go_ret
    exact ⟨rfl, hw2⟩
  have g6 : decide ((1048576 : Int) < (body.length : Int)) = false := by rw [decide_eq_false_iff_not]; omega
  have hs1 := HS1.out rfl
  have hs2 := HS2.out rfl
  clear g5
  (have x0 : w2.cell? ⟨w.heap.size, 0, none⟩ = some (S rm) := hR2.cell 0; have x1 : w2.cell? ⟨w.heap.size, 1, none⟩ = some (S rs) := hR2.cell 1; have x2 : w2.cell? ⟨w.heap.size, 2, none⟩ = some (S ra) := hR2.cell 2; have x3 : w2.cell? ⟨w.heap.size, 3, none⟩ = some (S rp) := hR2.cell 3; have x4 : w2.cell? ⟨w.heap.size, 4, none⟩ = some (.slice pr lr.length cr) := hR2.cell 4)
  (have y0 : w2.cell? ⟨w.heap.size + 1, 0, none⟩ = some (S key) := hQ2.cell 0; have y1 : w2.cell? ⟨w.heap.size + 1, 1, none⟩ = some (vp) := hQ2.cell 1; have y2 : w2.cell? ⟨w.heap.size + 1, 2, none⟩ = some (.int .i64 st) := hQ2.cell 2; have y3 : w2.cell? ⟨w.heap.size + 1, 3, none⟩ = some (.slice pf le.length cf) := hQ2.cell 3; have y4 : w2.cell? ⟨w.heap.size + 1, 4, none⟩ = some (S body) := hQ2.cell 4; have y5 : w2.cell? ⟨w.heap.size + 1, 5, none⟩ = some (.int .i64 asked) := hQ2.cell 5; have y6 : w2.cell? ⟨w.heap.size + 1, 6, none⟩ = some (.int .i64 came) := hQ2.cell 6)
  go_wp2_with fail
  clear g6
  have HA1 := Lib.hid (fun w h h' => Answer_any ⟨rm, rs, ra, rp, .slice pr lr.length cr⟩ key body vp (.slice pf le.length cf) st asked came now lr le [100, 114, 97, 119, 98, 114, 105, 100, 103, 101] w h h' (by omega) (by omega) (by omega) (by decide))
  have HA2 := Lib.hid (fun w h h' => refAnswer_any ⟨rm, rs, ra, rp, .slice pr lr.length cr⟩ key body vp (.slice pf le.length cf) st asked came now lr le [100, 114, 97, 119, 98, 114, 105, 100, 103, 101] w h h' (by omega) (by omega) (by omega) (by decide))
  simp only at HA1 HA2
  generalize ansN (metF rm st lr le came) st = an at *
  generalize ansL (metF rm st lr le came) st le body.length (ageF le asked came now) [100, 114, 97, 119, 98, 114, 105, 100, 103, 101] = L at *
  generalize ansB (metF rm st lr le came) rm body = AB at *
  have hn1 : (an == an) = true := by simp
  have hn2 : (AB == AB) = true := by simp
  refine (HA1.out w2 hr2 hf2).mono ?_
  rintro e w3 ⟨v3, rfl, hF3, hb3⟩
  have hw3 := Bl.tr hw2 hb3
  have hQ3 := hQ2.on hb3
  have hR3 := hR2.on hb3
  have hr3 := (hr2.below hb3).mono hb3.size
  have hf3 := (hf2.below hb3).mono hb3.size
  clear x0 x1 x2 x3 x4 y0 y1 y2 y3 y4 y5 y6 hw2 hQ2 hR2 hr2 hf2 hb3 HA1
  (have x0 : w3.cell? ⟨w.heap.size, 0, none⟩ = some (S rm) := hR3.cell 0; have x1 : w3.cell? ⟨w.heap.size, 1, none⟩ = some (S rs) := hR3.cell 1; have x2 : w3.cell? ⟨w.heap.size, 2, none⟩ = some (S ra) := hR3.cell 2; have x3 : w3.cell? ⟨w.heap.size, 3, none⟩ = some (S rp) := hR3.cell 3; have x4 : w3.cell? ⟨w.heap.size, 4, none⟩ = some (.slice pr lr.length cr) := hR3.cell 4)
  (have y0 : w3.cell? ⟨w.heap.size + 1, 0, none⟩ = some (S key) := hQ3.cell 0; have y1 : w3.cell? ⟨w.heap.size + 1, 1, none⟩ = some (vp) := hQ3.cell 1; have y2 : w3.cell? ⟨w.heap.size + 1, 2, none⟩ = some (.int .i64 st) := hQ3.cell 2; have y3 : w3.cell? ⟨w.heap.size + 1, 3, none⟩ = some (.slice pf le.length cf) := hQ3.cell 3; have y4 : w3.cell? ⟨w.heap.size + 1, 4, none⟩ = some (S body) := hQ3.cell 4; have y5 : w3.cell? ⟨w.heap.size + 1, 5, none⟩ = some (.int .i64 asked) := hQ3.cell 5; have y6 : w3.cell? ⟨w.heap.size + 1, 6, none⟩ = some (.int .i64 came) := hQ3.cell 6)
  go_wp2_with fail
  refine (HA2.out w3 hr3 hf3).mono ?_
  rintro e w4 ⟨v4, rfl, hF4, hb4⟩
  have hw4 := Bl.tr hw3 hb4
  have hF34 := (hF3.below hb4).mono hb4.size
  clear x0 x1 x2 x3 x4 y0 y1 y2 y3 y4 y5 y6 hw3 hQ3 hR3 hr3 hf3 hb4 HA2 hF3
  go_wp2_with fail
  refine (Fields_same L _ _ w4 hF34 hF4).mono ?_
  rintro e w5 ⟨rfl, hb5⟩
  have hw5 := Bl.tr hw4 hb5
  go_wp2
  go_ret
  exact ⟨rfl, hw5⟩
end Go.Proofs.YtghggooaaefdcaaGreatDoor
