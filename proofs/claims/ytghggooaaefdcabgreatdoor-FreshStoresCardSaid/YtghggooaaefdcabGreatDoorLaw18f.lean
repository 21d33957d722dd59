
/- FreshStores. -/
import Derived.Test.YtghggooaaefdcabGreatDoorLaw18a
import Derived.Test.YtghggooaaefdcabGreatDoorStor2
import Derived.Test.YtghggooaaefdcabGreatDoorRf18e
import Derived.Test.YtghggooaaefdcabGreatDoorRf18d
namespace Go.Proofs.YtghggooaaefdcabGreatDoor
open Go.RowKit Go.Dr

set_option linter.unusedSimpArgs false in
set_option linter.unusedVariables false in
set_option maxRecDepth 100000 in
set_option maxHeartbeats 8000000 in
theorem FreshStores_any (r : Rq) (st : Int) (v : Value) (lr lf : List F) (w : World) (hr : Fs w.heap.size w r.v lr) (hrb : FOk lr) (hf : Fs w.heap.size w v lf) (hfb : FOk lf) :
    Calls Tryz.prog 3 #[r.val, .int .i64 st, v] w fun e w' => e = .returned (.bool true) ∧ Below w.heap.size w w' := by
  obtain ⟨pr, cr, hrv, -⟩ := hr.form
  obtain ⟨pf, cf, rfl, -⟩ := hf.form
  obtain ⟨rm, rs, ra, rp, rv⟩ := r
  simp only at hrv hr
  subst hrv
  have HFB := Lib.hid hfb
  have HRB := Lib.hid hrb
  clear hfb hrb
  obtain ⟨w0, ew⟩ : ∃ w0 : World, w0 = w.alloc (.cells #[S rm, S rs, S ra, S rp, .slice pr lr.length cr] 24) := ⟨_, rfl⟩
  have hR : Blk w0 w.heap.size 24 #[S rm, S rs, S ra, S rp, .slice pr lr.length cr] := by rw [ew]; exact Blk.new _ _ _
  have hb0 : Below w.heap.size w w0 := by rw [ew]; exact (Below.refl _ _).alloc (Nat.le_refl _) _
  have hr0 := (hr.below hb0).mono hb0.size
  have hf0 := (hf.below hb0).mono hb0.size
  have hs1 := @smallB_sum lr
  have hs2 := @smallB_sum lf
  clear hr hf
  simp only [Rq.val]
  generalize hsa : smallB lr = sa at *
  generalize hsb : smallB lf = sb at *
  have HSA := Lib.hid hsa
  have HSB := Lib.hid hsb
  have HS1 := Lib.hid hs1
  have HS2 := Lib.hid hs2
  clear hsa hsb hs1 hs2
  go_enter Tryz.func3, Tryz.ntmps3
  go_wp2_with fail
  rw [← ew]
  clear ew
  refine (awake18_any w0).mono ?_
  rintro e w1 ⟨rfl, hb1⟩
  have hw1 := Bl.tr hb0 hb1
  have hR1 := hR.on hb1
  have hr1 := (hr0.below hb1).mono hb1.size
  have hf1 := (hf0.below hb1).mono hb1.size
  clear hb0 hR hr0 hf0 hb1
  have g4 : w1.cell? ⟨w.heap.size, 4, none⟩ = some (.slice pr lr.length cr) := hR1.cell 4
  go_wp2_with fail
  refine (small18_any lr lf _ _ w1 hr1 hf1 HRB.out HFB.out).mono ?_
  rintro e w2 ⟨rfl, hb2⟩
  rw [HSA.out, HSB.out]
  have hw2 := Bl.tr hw1 hb2
  have hR2 := hR1.on hb2
  have hr2 := (hr1.below hb2).mono hb2.size
  have hf2 := (hf1.below hb2).mono hb2.size
  clear hw1 hR1 hr1 hf1 hb2 g4
  cases sa with
  | false =>
    go_wp2
    go_ret
    exact ⟨rfl, hw2⟩
  | true =>
  cases sb with
  | false =>
    go_wp2
    go_ret
    exact ⟨rfl, hw2⟩
  | true =>
  have hs1 := HS1.out rfl
  have hs2 := HS2.out rfl
  have C1 := Lib.hid (fun w h h' => Storable_any ⟨rm, rs, ra, rp, .slice pr lr.length cr⟩ st (.slice pf lf.length cf) lr lf w h h' (by omega) (by omega))
  have C2 := Lib.hid (fun w h h' => refStorable_any ⟨rm, rs, ra, rp, .slice pr lr.length cr⟩ st (.slice pf lf.length cf) lr lf w h h' (by omega) (by omega))
  have C3 := Lib.hid (fun w h => Says_any ⟨rm, rs, ra, rp, .slice pr lr.length cr⟩ lr w h (by omega))
  have C4 := Lib.hid (fun w h => refSays_any ⟨rm, rs, ra, rp, .slice pr lr.length cr⟩ lr w h (by omega))
  simp only [Rq.val] at C1 C2 C3 C4
  generalize storF rm st lr lf = so at *
  generalize saysC lr = c at *
  obtain ⟨ans, anc, ant, apu, apr, amr, apx, aoi, ama, asm', amf, ams⟩ := c
  (have x0 : w2.cell? ⟨w.heap.size, 0, none⟩ = some (S rm) := hR2.cell 0; have x1 : w2.cell? ⟨w.heap.size, 1, none⟩ = some (S rs) := hR2.cell 1; have x2 : w2.cell? ⟨w.heap.size, 2, none⟩ = some (S ra) := hR2.cell 2; have x3 : w2.cell? ⟨w.heap.size, 3, none⟩ = some (S rp) := hR2.cell 3; have x4 : w2.cell? ⟨w.heap.size, 4, none⟩ = some (.slice pr lr.length cr) := hR2.cell 4)
  go_wp2_with fail
  cases so
  all_goals
    go_region_held3 (fun w' => w'.cell? ⟨w.heap.size, 0, none⟩ = some (S rm) ∧ w'.cell? ⟨w.heap.size, 1, none⟩ = some (S rs) ∧ w'.cell? ⟨w.heap.size, 2, none⟩ = some (S ra) ∧ w'.cell? ⟨w.heap.size, 3, none⟩ = some (S rp) ∧ w'.cell? ⟨w.heap.size, 4, none⟩ = some (.slice pr lr.length cr))
      (first | go_keep)
      (first
        | (go_at_call 7; (with_reducible refine (C1.out w2.drew hr2.drew hf2.drew).mono ?_); rintro e w3 ⟨rfl, hb3⟩; replace hb3 := Bl.undrew hb3; have hw3 := Bl.tr hw2 hb3; have hR3 := hR2.on hb3; have hr3 := (hr2.below hb3).mono hb3.size; have hf3 := (hf2.below hb3).mono hb3.size; (have x0 : w3.cell? ⟨w.heap.size, 0, none⟩ = some (S rm) := hR3.cell 0; have x1 : w3.cell? ⟨w.heap.size, 1, none⟩ = some (S rs) := hR3.cell 1; have x2 : w3.cell? ⟨w.heap.size, 2, none⟩ = some (S ra) := hR3.cell 2; have x3 : w3.cell? ⟨w.heap.size, 3, none⟩ = some (S rp) := hR3.cell 3; have x4 : w3.cell? ⟨w.heap.size, 4, none⟩ = some (.slice pr lr.length cr) := hR3.cell 4))
        | (go_at_call 8; (with_reducible refine (C2.out w3 hr3 hf3).mono ?_); rintro e w4 ⟨rfl, hb4⟩; have hw4 := Bl.tr hw3 hb4; have hR4 := hR3.on hb4; have hr4 := (hr3.below hb4).mono hb4.size; (have x0 : w4.cell? ⟨w.heap.size, 0, none⟩ = some (S rm) := hR4.cell 0; have x1 : w4.cell? ⟨w.heap.size, 1, none⟩ = some (S rs) := hR4.cell 1; have x2 : w4.cell? ⟨w.heap.size, 2, none⟩ = some (S ra) := hR4.cell 2; have x3 : w4.cell? ⟨w.heap.size, 3, none⟩ = some (S rp) := hR4.cell 3; have x4 : w4.cell? ⟨w.heap.size, 4, none⟩ = some (.slice pr lr.length cr) := hR4.cell 4))
        | (go_at_call 9; (with_reducible refine (C3.out w4 hr4).mono ?_); rintro e w5 ⟨rfl, hb5⟩; have hw5 := Bl.tr hw4 hb5; have hR5 := hR4.on hb5; have hr5 := (hr4.below hb5).mono hb5.size; (have x0 : w5.cell? ⟨w.heap.size, 0, none⟩ = some (S rm) := hR5.cell 0; have x1 : w5.cell? ⟨w.heap.size, 1, none⟩ = some (S rs) := hR5.cell 1; have x2 : w5.cell? ⟨w.heap.size, 2, none⟩ = some (S ra) := hR5.cell 2; have x3 : w5.cell? ⟨w.heap.size, 3, none⟩ = some (S rp) := hR5.cell 3; have x4 : w5.cell? ⟨w.heap.size, 4, none⟩ = some (.slice pr lr.length cr) := hR5.cell 4))
        | (go_at_call 10; (with_reducible refine (C4.out w5 hr5).mono ?_); rintro e w6 ⟨rfl, hb6⟩; have hw6 := Bl.tr hw5 hb6; have hR6 := hR5.on hb6; (have x0 : w6.cell? ⟨w.heap.size, 0, none⟩ = some (S rm) := hR6.cell 0; have x1 : w6.cell? ⟨w.heap.size, 1, none⟩ = some (S rs) := hR6.cell 1; have x2 : w6.cell? ⟨w.heap.size, 2, none⟩ = some (S ra) := hR6.cell 2; have x3 : w6.cell? ⟨w.heap.size, 3, none⟩ = some (S rp) := hR6.cell 3; have x4 : w6.cell? ⟨w.heap.size, 4, none⟩ = some (.slice pr lr.length cr) := hR6.cell 4)))
    go_wp2
    go_ret
    exact ⟨rfl, hw6⟩
end Go.Proofs.YtghggooaaefdcabGreatDoor
