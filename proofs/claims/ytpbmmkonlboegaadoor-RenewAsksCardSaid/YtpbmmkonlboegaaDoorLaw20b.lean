
/- RenewAsks. -/
import Derived.Test.YtpbmmkonlboegaaDoorLaw20a
import Derived.Test.YtpbmmkonlboegaaDoorRen6
namespace Go.Proofs.YtpbmmkonlboegaaDoor
open Go.RowKit Go.Dr

theorem Fields_at (a : List F) (va vb : Value) (w : World) (ha : Fs w.heap.size w va a) (hb : Fs w.heap.size w vb a) :
    Calls Tryd.prog 13 #[va, vb] w fun e w' => e = .returned (.bool true) ∧ Below w.heap.size w w' :=
  (Fields_any a a va vb w ha hb).mono fun _ _ ⟨h1, h2⟩ => ⟨by rw [h1, beq_self_eq_true], h2⟩

set_option linter.unusedSimpArgs false in
set_option maxRecDepth 100000 in
set_option maxHeartbeats 8000000 in
theorem RenewAsks_any (q : En) (le l : List F) (v : Value) (w : World) (hf : Fs w.heap.size w q.vf le) (hfb : FOk le) (hl : Fs w.heap.size w v l) (hlb : FOk l) :
    Calls Tryd.prog 3 #[q.val, v] w fun e w' => e = .returned (.bool true) ∧ Below w.heap.size w w' := by
  obtain ⟨pl, cl, rfl, -⟩ := hl.form
  obtain ⟨pf, cf, hfv, -⟩ := hf.form
  obtain ⟨key, vp, st, vf, body, asked, came⟩ := q
  simp only at hfv hf
  subst hfv
  have HFB := Lib.hid hfb
  have HLB := Lib.hid hlb
  clear hfb hlb
  have hQ := Blk.new w 25 #[S key, vp, .int .i64 st, .slice pf le.length cf, S body, .int .i64 asked, .int .i64 came]
  have hbx : Below w.heap.size w (w.alloc (.cells #[S key, vp, .int .i64 st, .slice pf le.length cf, S body, .int .i64 asked, .int .i64 came] 25)) := (Below.refl _ _).alloc (Nat.le_refl _) _
  have hl0 := (hl.below hbx).mono hbx.size
  have hf0 := (hf.below hbx).mono hbx.size
  have hs1 := @smallB_sum le
  have hs2 := @smallB_sum l
  clear hl hf
  simp only [En.val]
  generalize hsa : smallB le = sa at *
  generalize hsb : smallB l = sb at *
  have HSA := Lib.hid hsa
  have HSB := Lib.hid hsb
  clear hsa hsb
  generalize hfit : fitsB l le = b
  have HB := Lib.hid hfit
  clear hfit
  have hbb : (b == b) = true := by simp
  have HS1 := Lib.hid hs1
  have HS2 := Lib.hid hs2
  clear hs1 hs2
  go_enter Tryd.func3, Tryd.ntmps3
  go_wp2_with fail
  generalize w.alloc (.cells #[S key, vp, .int .i64 st, .slice pf le.length cf, S body, .int .i64 asked, .int .i64 came] 25) = w0 at *
  refine (awake20_any w0).mono ?_
  rintro e w1 ⟨rfl, hb1⟩
  have hw1 := Bl.tr hbx hb1
  have hQ1 := hQ.on hb1
  have hl1 := (hl0.below hb1).mono hb1.size
  have hf1 := (hf0.below hb1).mono hb1.size
  clear hbx hQ hl0 hf0 hb1
  have g3 := hQ1.cell 3
  simp at g3
  go_wp2_with fail
  refine (small20_any le l _ _ w1 hf1 hl1 HFB.out HLB.out).mono ?_
  rintro e w2 ⟨rfl, hb2⟩
  rw [HSA.out, HSB.out]
  have hw2 := Bl.tr hw1 hb2
  have hQ2 := hQ1.on hb2
  have hl2 := (hl1.below hb2).mono hb2.size
  have hf2 := (hf1.below hb2).mono hb2.size
  clear hw1 hQ1 hl1 hf1 hb2 g3
  cases sa with
  | false =>
    go_wp2
    go_ret
    exact ⟨rfl, hw2⟩
  | true =>
  cases sb with
  | false =>
    go_wp2
    go_ret
    exact ⟨rfl, hw2⟩
  | true =>
  have hs1 := HS1.out rfl
  have hs2 := HS2.out rfl
  (have q0 : w2.cell? ⟨w.heap.size, 0, none⟩ = some (S key) := hQ2.cell 0; have q1 : w2.cell? ⟨w.heap.size, 1, none⟩ = some (vp) := hQ2.cell 1; have q2 : w2.cell? ⟨w.heap.size, 2, none⟩ = some (.int .i64 st) := hQ2.cell 2; have q3 : w2.cell? ⟨w.heap.size, 3, none⟩ = some (.slice pf le.length cf) := hQ2.cell 3; have q4 : w2.cell? ⟨w.heap.size, 4, none⟩ = some (S body) := hQ2.cell 4; have q5 : w2.cell? ⟨w.heap.size, 5, none⟩ = some (.int .i64 asked) := hQ2.cell 5; have q6 : w2.cell? ⟨w.heap.size, 6, none⟩ = some (.int .i64 came) := hQ2.cell 6)
  go_wp2_with fail
  go_region_held3 (fun w' => w'.cell? ⟨w.heap.size, 0, none⟩ = some (S key) ∧ w'.cell? ⟨w.heap.size, 1, none⟩ = some (vp) ∧ w'.cell? ⟨w.heap.size, 2, none⟩ = some (.int .i64 st) ∧ w'.cell? ⟨w.heap.size, 3, none⟩ = some (.slice pf le.length cf) ∧ w'.cell? ⟨w.heap.size, 4, none⟩ = some (S body) ∧ w'.cell? ⟨w.heap.size, 5, none⟩ = some (.int .i64 asked) ∧ w'.cell? ⟨w.heap.size, 6, none⟩ = some (.int .i64 came))
    (first | go_keep)
    (first
      | (go_at_call 14; refine (Asks_any ⟨key, vp, st, .slice pf le.length cf, body, asked, came⟩ le _ (by exact hf2.drew) (by omega)).mono ?_; rintro e w3 ⟨v3, rfl, ho3, hb3⟩; replace hb3 := Bl.undrew hb3; have hw3 := Bl.tr hw2 hb3; have hQ3 := hQ2.on hb3; have hl3 := (hl2.below hb3).mono hb3.size; have hf3 := (hf2.below hb3).mono hb3.size; have r3 := Fs.own ho3; (have q0 : w3.cell? ⟨w.heap.size, 0, none⟩ = some (S key) := hQ3.cell 0; have q1 : w3.cell? ⟨w.heap.size, 1, none⟩ = some (vp) := hQ3.cell 1; have q2 : w3.cell? ⟨w.heap.size, 2, none⟩ = some (.int .i64 st) := hQ3.cell 2; have q3 : w3.cell? ⟨w.heap.size, 3, none⟩ = some (.slice pf le.length cf) := hQ3.cell 3; have q4 : w3.cell? ⟨w.heap.size, 4, none⟩ = some (S body) := hQ3.cell 4; have q5 : w3.cell? ⟨w.heap.size, 5, none⟩ = some (.int .i64 asked) := hQ3.cell 5; have q6 : w3.cell? ⟨w.heap.size, 6, none⟩ = some (.int .i64 came) := hQ3.cell 6))
      | (go_at_call 15; refine (refAsks_any ⟨key, vp, st, .slice pf le.length cf, body, asked, came⟩ le _ hf3 (by omega)).mono ?_; rintro e w4 ⟨v4, rfl, ho4, hb4⟩; have hw4 := Bl.tr hw3 hb4; have hQ4 := hQ3.on hb4; have hl4 := (hl3.below hb4).mono hb4.size; have hf4 := (hf3.below hb4).mono hb4.size; have r4 := Fs.own ho4; have r34 := (r3.below hb4).mono hb4.size; (have q0 : w4.cell? ⟨w.heap.size, 0, none⟩ = some (S key) := hQ4.cell 0; have q1 : w4.cell? ⟨w.heap.size, 1, none⟩ = some (vp) := hQ4.cell 1; have q2 : w4.cell? ⟨w.heap.size, 2, none⟩ = some (.int .i64 st) := hQ4.cell 2; have q3 : w4.cell? ⟨w.heap.size, 3, none⟩ = some (.slice pf le.length cf) := hQ4.cell 3; have q4 : w4.cell? ⟨w.heap.size, 4, none⟩ = some (S body) := hQ4.cell 4; have q5 : w4.cell? ⟨w.heap.size, 5, none⟩ = some (.int .i64 asked) := hQ4.cell 5; have q6 : w4.cell? ⟨w.heap.size, 6, none⟩ = some (.int .i64 came) := hQ4.cell 6))
      | (go_at_call 13; refine (Fields_at _ _ _ _ r34 r4).mono ?_; rintro e w5 ⟨rfl, hb5⟩; have hw5 := Bl.tr hw4 hb5; have hQ5 := hQ4.on hb5; have hl5 := (hl4.below hb5).mono hb5.size; have hf5 := (hf4.below hb5).mono hb5.size; skip; (have q0 : w5.cell? ⟨w.heap.size, 0, none⟩ = some (S key) := hQ5.cell 0; have q1 : w5.cell? ⟨w.heap.size, 1, none⟩ = some (vp) := hQ5.cell 1; have q2 : w5.cell? ⟨w.heap.size, 2, none⟩ = some (.int .i64 st) := hQ5.cell 2; have q3 : w5.cell? ⟨w.heap.size, 3, none⟩ = some (.slice pf le.length cf) := hQ5.cell 3; have q4 : w5.cell? ⟨w.heap.size, 4, none⟩ = some (S body) := hQ5.cell 4; have q5 : w5.cell? ⟨w.heap.size, 5, none⟩ = some (.int .i64 asked) := hQ5.cell 5; have q6 : w5.cell? ⟨w.heap.size, 6, none⟩ = some (.int .i64 came) := hQ5.cell 6))
      | (go_at_call 16; refine (Fits_any ⟨key, vp, st, .slice pf le.length cf, body, asked, came⟩ l le _ _ HB.out _ hl5 hf5 (by omega) (by omega)).mono ?_; rintro e w6 ⟨rfl, hb6⟩; have hw6 := Bl.tr hw5 hb6; have hQ6 := hQ5.on hb6; have hl6 := (hl5.below hb6).mono hb6.size; have hf6 := (hf5.below hb6).mono hb6.size; skip; (have q0 : w6.cell? ⟨w.heap.size, 0, none⟩ = some (S key) := hQ6.cell 0; have q1 : w6.cell? ⟨w.heap.size, 1, none⟩ = some (vp) := hQ6.cell 1; have q2 : w6.cell? ⟨w.heap.size, 2, none⟩ = some (.int .i64 st) := hQ6.cell 2; have q3 : w6.cell? ⟨w.heap.size, 3, none⟩ = some (.slice pf le.length cf) := hQ6.cell 3; have q4 : w6.cell? ⟨w.heap.size, 4, none⟩ = some (S body) := hQ6.cell 4; have q5 : w6.cell? ⟨w.heap.size, 5, none⟩ = some (.int .i64 asked) := hQ6.cell 5; have q6 : w6.cell? ⟨w.heap.size, 6, none⟩ = some (.int .i64 came) := hQ6.cell 6))
      | (go_at_call 17; refine (refFits_any ⟨key, vp, st, .slice pf le.length cf, body, asked, came⟩ l le _ _ HB.out _ hl6 hf6 (by omega) (by omega)).mono ?_; rintro e w7 ⟨rfl, hb7⟩; have hw7 := Bl.tr hw6 hb7; have hQ7 := hQ6.on hb7; have hl7 := (hl6.below hb7).mono hb7.size; have hf7 := (hf6.below hb7).mono hb7.size; skip; (have q0 : w7.cell? ⟨w.heap.size, 0, none⟩ = some (S key) := hQ7.cell 0; have q1 : w7.cell? ⟨w.heap.size, 1, none⟩ = some (vp) := hQ7.cell 1; have q2 : w7.cell? ⟨w.heap.size, 2, none⟩ = some (.int .i64 st) := hQ7.cell 2; have q3 : w7.cell? ⟨w.heap.size, 3, none⟩ = some (.slice pf le.length cf) := hQ7.cell 3; have q4 : w7.cell? ⟨w.heap.size, 4, none⟩ = some (S body) := hQ7.cell 4; have q5 : w7.cell? ⟨w.heap.size, 5, none⟩ = some (.int .i64 asked) := hQ7.cell 5; have q6 : w7.cell? ⟨w.heap.size, 6, none⟩ = some (.int .i64 came) := hQ7.cell 6)))
  go_wp2
  go_ret
  exact ⟨rfl, hw7⟩
end Go.Proofs.YtpbmmkonlboegaaDoor
