
/- RenewGives. -/
import Derived.Test.YtghggooaaefdcaaGreatDoorLaw20a
import Derived.Test.YtghggooaaefdcaaGreatDoorRf18b
import Derived.Test.YtghggooaaefdcaaGreatDoorRnP
import Derived.IntWalk
namespace Go.Proofs.YtghggooaaefdcaaGreatDoor
open Go.RowKit Go.Dr

theorem ansL_sum (met : Bool) (st : Int) (lf : List F) (n A : Nat) (hA : A ≤ 1099511627776) (hn : n ≤ 1099511627776) : fsum (ansL met st lf n A [120]) ≤ fsum lf + 1000 := by
  have h1 := fsum_filter lf toldB
  have h2 := fsum_filter lf (fun f => !among f.n [ageT])
  have hd := digs_length n 12 (by omega)
  have ha := ageFld_sum A hA
  have hv : fsum [viaF (viaT [120])] ≤ 100 := by decide
  unfold ansL
  rw [fsum_append, fsum_append]
  split
  · omega
  · unfold outF
    split
    · rw [fsum_append]
      have : fsum [⟨lenT, digs n, false⟩] ≤ 100 := by simp [fsum, lenT]; omega
      unfold without
      omega
    · unfold without
      omega
theorem last_cell (L : List F) (f : F) (h : L[L.length - 1]? = some f) (hl : 2 ≤ L.length) : L[L.length - 1]'(by omega) = f := by
  rw [List.getElem?_eq_getElem (by omega)] at h
  exact Option.some.inj h

set_option linter.unusedSimpArgs false in
set_option maxRecDepth 100000 in
set_option maxHeartbeats 8000000 in
theorem RenewGives_any (r : Rq) (q : En) (now : Int) (lr le : List F) (w : World) (hr : Fs w.heap.size w r.v lr) (hrb : FOk lr) (hf : Fs w.heap.size w q.vf le) (hfb : FOk le) (hbody : q.body.length ≤ 140737488351232) :
    Calls Tryz.prog 5 #[r.val, q.val, .int .i64 now] w fun e w' => e = .returned (.bool true) ∧ Below w.heap.size w w' := by
  obtain ⟨pr, cr, hrv, -⟩ := hr.form
  obtain ⟨pf, cf, hfv, -⟩ := hf.form
  obtain ⟨rm, rs, ra, rp, rv⟩ := r
  obtain ⟨key, vp, st, vf, body, asked, came⟩ := q
  simp only at hrv hfv hr hf hbody
  subst hrv hfv
  have HFB := Lib.hid hfb
  have HRB := Lib.hid hrb
  clear hfb hrb
  obtain ⟨w0, ew⟩ : ∃ w0 : World, w0 = (w.alloc (.cells #[S rm, S rs, S ra, S rp, .slice pr lr.length cr] 24)).alloc (.cells #[S key, vp, .int .i64 st, .slice pf le.length cf, S body, .int .i64 asked, .int .i64 came] 27) := ⟨_, rfl⟩
  have hR : Blk w0 w.heap.size 24 #[S rm, S rs, S ra, S rp, .slice pr lr.length cr] := by rw [ew]; exact (Blk.new _ _ _).alloc _
  have hQ : Blk w0 (w.heap.size + 1) 27 #[S key, vp, .int .i64 st, .slice pf le.length cf, S body, .int .i64 asked, .int .i64 came] := by
    rw [ew]
    have := Blk.new (w.alloc (.cells #[S rm, S rs, S ra, S rp, .slice pr lr.length cr] 24)) 27 #[S key, vp, .int .i64 st, .slice pf le.length cf, S body, .int .i64 asked, .int .i64 came]
    rwa [show (w.alloc (.cells #[S rm, S rs, S ra, S rp, .slice pr lr.length cr] 24)).heap.size = w.heap.size + 1 by simp] at this
  have hb0 : Below w.heap.size w w0 := by rw [ew]; exact ((Below.refl _ _).alloc (Nat.le_refl _) _).alloc (by simp) _
  have hr0 := (hr.below hb0).mono hb0.size
  have hf0 := (hf.below hb0).mono hb0.size
  have hs1 := @smallB_sum lr
  have hs2 := @smallB_sum le
  clear hr hf
  simp only [Rq.val, En.val]
  generalize hsa : smallB lr = sa at *
  generalize hsb : smallB le = sb at *
  have HSA := Lib.hid hsa
  have HSB := Lib.hid hsb
  have HS1 := Lib.hid hs1
  have HS2 := Lib.hid hs2
  clear hsa hsb hs1 hs2
  go_enter Tryz.func5, Tryz.ntmps5
  go_wp2_with fail
  rw [← ew]
  clear ew
  refine (awake20_any w0).mono ?_
  rintro e w1 ⟨rfl, hb1⟩
  have hw1 := Bl.tr hb0 hb1
  have hQ1 := hQ.on hb1
  have hR1 := hR.on hb1
  have hr1 := (hr0.below hb1).mono hb1.size
  have hf1 := (hf0.below hb1).mono hb1.size
  clear hb0 hQ hR hr0 hf0 hb1
  have g4 : w1.cell? ⟨w.heap.size, 4, none⟩ = some (.slice pr lr.length cr) := hR1.cell 4
  have g3 : w1.cell? ⟨w.heap.size + 1, 3, none⟩ = some (.slice pf le.length cf) := hQ1.cell 3
  have g5 : w1.cell? ⟨w.heap.size + 1, 4, none⟩ = some (S body) := hQ1.cell 4
  go_wp2_with fail
  refine (small20_any lr le _ _ w1 hr1 hf1 HRB.out HFB.out).mono ?_
  rintro e w2 ⟨rfl, hb2⟩
  rw [HSA.out, HSB.out]
  have hw2 := Bl.tr hw1 hb2
  have hQ2 := hQ1.on hb2
  have hR2 := hR1.on hb2
  have hr2 := (hr1.below hb2).mono hb2.size
  have hf2 := (hf1.below hb2).mono hb2.size
  clear hw1 hQ1 hR1 hr1 hf1 hb2 g3 g4 g5
  have g5 : w2.cell? ⟨w.heap.size + 1, 4, none⟩ = some (S body) := hQ2.cell 4
  cases sa with
  | false =>
    go_wp2
    go_ret
    exact ⟨rfl, hw2⟩
  | true =>
  cases sb with
  | false =>
    go_wp2
    go_ret
    exact ⟨rfl, hw2⟩
  | true =>
  by_cases hbl : 1048576 < body.length
  · have g6 : decide ((1048576 : Int) < (body.length : Int)) = true := by rw [decide_eq_true_iff]; omega
    clear hbl
    go_wp2
    go_ret
    exact ⟨rfl, hw2⟩
  have g6 : decide ((1048576 : Int) < (body.length : Int)) = false := by rw [decide_eq_false_iff_not]; omega
  have hs1 := HS1.out rfl
  have hs2 := HS2.out rfl
  clear g5
  (have x0 : w2.cell? ⟨w.heap.size, 0, none⟩ = some (S rm) := hR2.cell 0; have x1 : w2.cell? ⟨w.heap.size, 1, none⟩ = some (S rs) := hR2.cell 1; have x2 : w2.cell? ⟨w.heap.size, 2, none⟩ = some (S ra) := hR2.cell 2; have x3 : w2.cell? ⟨w.heap.size, 3, none⟩ = some (S rp) := hR2.cell 3; have x4 : w2.cell? ⟨w.heap.size, 4, none⟩ = some (.slice pr lr.length cr) := hR2.cell 4)
  (have y0 : w2.cell? ⟨w.heap.size + 1, 0, none⟩ = some (S key) := hQ2.cell 0; have y1 : w2.cell? ⟨w.heap.size + 1, 1, none⟩ = some (vp) := hQ2.cell 1; have y2 : w2.cell? ⟨w.heap.size + 1, 2, none⟩ = some (.int .i64 st) := hQ2.cell 2; have y3 : w2.cell? ⟨w.heap.size + 1, 3, none⟩ = some (.slice pf le.length cf) := hQ2.cell 3; have y4 : w2.cell? ⟨w.heap.size + 1, 4, none⟩ = some (S body) := hQ2.cell 4; have y5 : w2.cell? ⟨w.heap.size + 1, 5, none⟩ = some (.int .i64 asked) := hQ2.cell 5; have y6 : w2.cell? ⟨w.heap.size + 1, 6, none⟩ = some (.int .i64 came) := hQ2.cell 6)
  go_wp2_with fail
  clear g6
  have HA1 := Lib.hid (fun w h h' => Answer_any ⟨rm, rs, ra, rp, .slice pr lr.length cr⟩ key body vp (.slice pf le.length cf) st asked came now lr le [120] w h h' (by omega) (by omega) (by omega) (by decide))
  simp only at HA1
  have hal := ageF_le le asked came now
  have HAge := Lib.hid (fun w h => refAge_any ⟨key, vp, st, .slice pf le.length cf, body, asked, came⟩ le now w h (by omega))
  simp only [En.val] at HAge
  generalize hmet : metF rm st lr le came = met at *
  have HMet := Lib.hid hmet
  clear hmet
  generalize ageF le asked came now = A at *
  have HVa := Lib.hid (ans_ages met st le body.length A [120])
  have h2L := ans_length met st le body.length A [120]
  have HLast := Lib.hid (last_cell _ _ (ans_last met st le body.length A [120]) h2L)
  have HLen : Hid (st ≠ 204 → met = false → hasB (ansL met st le body.length A [120]) lenT = true) := Lib.hid (fun h e => by rw [e]; exact ans_len st le body.length A [120] h)
  have hLs := ansL_sum met st le body.length A hal (by omega)
  generalize ansL met st le body.length A [120] = L at *
  refine (HA1.out w2 hr2 hf2).mono ?_
  rintro e w3 ⟨v3, rfl, hF3, hb3⟩
  have hw3 := Bl.tr hw2 hb3
  have hQ3 := hQ2.on hb3
  have hR3 := hR2.on hb3
  have hf3 := (hf2.below hb3).mono hb3.size
  clear x0 x1 x2 x3 x4 y0 y1 y2 y3 y4 y5 y6 hw2 hQ2 hR2 hr2 hf2 hb3 HA1
  obtain ⟨p3, c3, rfl, -⟩ := hF3.form
  go_wp2_with fail
  refine (refValues_any L ageT _ w3 hF3 (by omega) (by decide)).mono ?_
  rintro e w4 ⟨va, rfl, hva, hb4⟩
  rw [HVa.out] at hva
  have hw4 := Bl.tr hw3 hb4
  have hQ4 := hQ3.on hb4
  have hR4 := hR3.on hb4
  have hf4 := (hf3.below hb4).mono hb4.size
  have hF4 := (hF3.below hb4).mono hb4.size
  have hA4 : Ss w4.heap.size w4 va [digs A] := Ss.own hva
  obtain ⟨pa, ca, rfl, -⟩ := hA4.form
  obtain ⟨ba, oa, rfl, hla, d0⟩ := hA4.at 0 (by simp)
  simp at d0
  obtain ⟨bl, ol, rfl, hll, e0, e1, e2⟩ := hF4.at (L.length - 1) (by omega)
  rw [HLast.out] at e0 e1 e2
  clear hw3 hQ3 hR3 hf3 hb4 hva hF3
  have HDg := Lib.hid (fun w => refDigits_any A w (by omega))
  have hdd : (digs A == digs A) = true := by simp
  have e0 : w4.cell? ⟨bl, ol + (L.length - 1) * 3, none⟩ = some (S [118, 105, 97]) := e0
  have e1 : w4.cell? ⟨bl, ol + (L.length - 1) * 3 + 1, none⟩ = some (S [49, 46, 49, 32, 120]) := e1
  have e2 : w4.cell? ⟨bl, ol + (L.length - 1) * 3 + 2, none⟩ = some (.bool false) := e2
  clear HLast
  have HF : Hid (Fs w4.heap.size w4 (.slice (some ⟨bl, ol, none⟩) L.length c3) L) := hF4
  clear hF4
  generalize hdA : digs A = dA at *
  have hn9 : L.length ≤ 1000000000000 := by have := fsum_length L; omega
  generalize hLn : L.length = n at *
  have HLn := Lib.hid hLn
  clear hLn hdA hA4
  have i1 : decide ((n : Int) < 2) = false := by rw [decide_eq_false_iff_not]; omega
  have i2 : IntKind.i64.wrap ((n : Int) - 1) = (n : Int) - 1 := IntWalk.i64_in _ (by omega)
  have i3 : 0 ≤ (n : Int) - 1 := by omega
  have i3' : (1 : Int) ≤ (n : Int) := by omega
  have i4 : (n : Int) - 1 < (n : Int) := by omega
  obtain ⟨m, hm⟩ : ∃ m, m = n - 1 := ⟨_, rfl⟩
  have i5 : ((n : Int) - 1).toNat = m := by omega
  rw [← hm] at e0 e1 e2
  have Hm := Lib.hid hm
  clear hm
  (have y0 : w4.cell? ⟨w.heap.size + 1, 0, none⟩ = some (S key) := hQ4.cell 0; have y1 : w4.cell? ⟨w.heap.size + 1, 1, none⟩ = some (vp) := hQ4.cell 1; have y2 : w4.cell? ⟨w.heap.size + 1, 2, none⟩ = some (.int .i64 st) := hQ4.cell 2; have y3 : w4.cell? ⟨w.heap.size + 1, 3, none⟩ = some (.slice pf le.length cf) := hQ4.cell 3; have y4 : w4.cell? ⟨w.heap.size + 1, 4, none⟩ = some (S body) := hQ4.cell 4; have y5 : w4.cell? ⟨w.heap.size + 1, 5, none⟩ = some (.int .i64 asked) := hQ4.cell 5; have y6 : w4.cell? ⟨w.heap.size + 1, 6, none⟩ = some (.int .i64 came) := hQ4.cell 6)
  go_wp2_with fail
  go_region_held3 (fun w' => (w'.cell? ⟨w.heap.size + 1, 0, none⟩ = some (S key) ∧ w'.cell? ⟨w.heap.size + 1, 1, none⟩ = some (vp) ∧ w'.cell? ⟨w.heap.size + 1, 2, none⟩ = some (.int .i64 st) ∧ w'.cell? ⟨w.heap.size + 1, 3, none⟩ = some (.slice pf le.length cf) ∧ w'.cell? ⟨w.heap.size + 1, 4, none⟩ = some (S body) ∧ w'.cell? ⟨w.heap.size + 1, 5, none⟩ = some (.int .i64 asked) ∧ w'.cell? ⟨w.heap.size + 1, 6, none⟩ = some (.int .i64 came)) ∧ w'.cell? ⟨bl, ol + m * 3, none⟩ = some (S [118, 105, 97]) ∧ w'.cell? ⟨bl, ol + m * 3 + 1, none⟩ = some (S [49, 46, 49, 32, 120]) ∧ w'.cell? ⟨bl, ol + m * 3 + 2, none⟩ = some (.bool false) ∧ w'.cell? ⟨ba, oa, none⟩ = some (S dA))
    (first | go_keep)
    (first
      | (go_at_call 17; refine (HAge.out _ (by first | exact hf4.drew | exact hf4)).mono ?_; rintro e w5 ⟨rfl, hb5⟩; replace hb5 := (by first | exact Bl.undrew hb5 | exact hb5 : Below w4.heap.size w4 w5); have hw5 := Bl.tr hw4 hb5; have hQ5 := hQ4.on hb5; have e05 : w5.cell? ⟨bl, ol + m * 3, none⟩ = _ := (hb5.cell (p := ⟨bl, ol + m * 3, none⟩) hll).trans e0; have e15 : w5.cell? ⟨bl, ol + m * 3 + 1, none⟩ = _ := (hb5.cell (p := ⟨bl, ol + m * 3 + 1, none⟩) hll).trans e1; have e25 : w5.cell? ⟨bl, ol + m * 3 + 2, none⟩ = _ := (hb5.cell (p := ⟨bl, ol + m * 3 + 2, none⟩) hll).trans e2; have d05 : w5.cell? ⟨ba, oa, none⟩ = _ := (hb5.cell (p := ⟨ba, oa, none⟩) hla).trans d0; (have y0 : w5.cell? ⟨w.heap.size + 1, 0, none⟩ = some (S key) := hQ5.cell 0; have y1 : w5.cell? ⟨w.heap.size + 1, 1, none⟩ = some (vp) := hQ5.cell 1; have y2 : w5.cell? ⟨w.heap.size + 1, 2, none⟩ = some (.int .i64 st) := hQ5.cell 2; have y3 : w5.cell? ⟨w.heap.size + 1, 3, none⟩ = some (.slice pf le.length cf) := hQ5.cell 3; have y4 : w5.cell? ⟨w.heap.size + 1, 4, none⟩ = some (S body) := hQ5.cell 4; have y5 : w5.cell? ⟨w.heap.size + 1, 5, none⟩ = some (.int .i64 asked) := hQ5.cell 5; have y6 : w5.cell? ⟨w.heap.size + 1, 6, none⟩ = some (.int .i64 came) := hQ5.cell 6))
      | (go_at_call 16; refine (HDg.out _).mono ?_; rintro e w6 ⟨rfl, hb6⟩; have hw6 := Bl.tr hw5 hb6; have hQ6 := hQ5.on hb6; have e06 : w6.cell? ⟨bl, ol + m * 3, none⟩ = _ := (hb6.cell (p := ⟨bl, ol + m * 3, none⟩) (Nat.lt_of_lt_of_le hll hb5.size)).trans e05; have e16 : w6.cell? ⟨bl, ol + m * 3 + 1, none⟩ = _ := (hb6.cell (p := ⟨bl, ol + m * 3 + 1, none⟩) (Nat.lt_of_lt_of_le hll hb5.size)).trans e15; have e26 : w6.cell? ⟨bl, ol + m * 3 + 2, none⟩ = _ := (hb6.cell (p := ⟨bl, ol + m * 3 + 2, none⟩) (Nat.lt_of_lt_of_le hll hb5.size)).trans e25; have d06 : w6.cell? ⟨ba, oa, none⟩ = _ := (hb6.cell (p := ⟨ba, oa, none⟩) (Nat.lt_of_lt_of_le hla hb5.size)).trans d05; (have y0 : w6.cell? ⟨w.heap.size + 1, 0, none⟩ = some (S key) := hQ6.cell 0; have y1 : w6.cell? ⟨w.heap.size + 1, 1, none⟩ = some (vp) := hQ6.cell 1; have y2 : w6.cell? ⟨w.heap.size + 1, 2, none⟩ = some (.int .i64 st) := hQ6.cell 2; have y3 : w6.cell? ⟨w.heap.size + 1, 3, none⟩ = some (.slice pf le.length cf) := hQ6.cell 3; have y4 : w6.cell? ⟨w.heap.size + 1, 4, none⟩ = some (S body) := hQ6.cell 4; have y5 : w6.cell? ⟨w.heap.size + 1, 5, none⟩ = some (.int .i64 asked) := hQ6.cell 5; have y6 : w6.cell? ⟨w.heap.size + 1, 6, none⟩ = some (.int .i64 came) := hQ6.cell 6)))
  have hR6 := (hR4.on hb5).on hb6
  have HF6 : Hid (Fs w6.heap.size w6 (.slice (some ⟨bl, ol, none⟩) n c3) L) := Lib.hid (((HF.out.below hb5).mono hb5.size).below hb6 |>.mono hb6.size)
  have x0 : w6.cell? ⟨w.heap.size, 0, none⟩ = some (S rm) := hR6.cell 0
  have HN : Hid (ansN met st = if met = true then 304 else st) := rfl
  have HB : Hid (ansB met rm body = if met = true then [] else if (rm == [72, 69, 65, 68]) = true then [] else body) := rfl
  generalize ansN met st = an at *
  generalize ansB met rm body = AB at *
  clear e0 e1 e2 d0 i1 i2 i3 i3' i4 i5 HVa HDg hdd HAge hf4 e05 e15 e25 d05 e06 e16 e26 d06 hR4 hQ4 hw4 HF
  obtain ⟨bh, hbh⟩ : ∃ b : Bool, (rm == [72, 69, 65, 68]) = b := ⟨_, rfl⟩
  cases met with
  | true =>
    obtain rfl : st = 200 := metF_st HMet.out
    obtain rfl : an = 304 := by rw [HN.out]; rfl
    obtain rfl : AB = [] := by rw [HB.out]; rfl
    clear HN HB HMet HLen
    cases bh
    all_goals
      go_wp2
      go_ret
      exact ⟨rfl, hw6⟩
  | false =>
    obtain rfl : st = an := by rw [HN.out]; rfl
    have HLn2 := Lib.hid (fun h => HLen.out h rfl)
    have HC := Lib.hid (fun w h => refHas_any L lenT (.slice (some ⟨bl, ol, none⟩) n c3) w h (by omega) (by decide))
    cases bh with
    | true =>
      obtain rfl : AB = [] := by rw [HB.out, hbh]; rfl
      clear HN HB HMet HLen
      by_cases h304 : st = 304
      · have g1 : (st == 304) = true := by simp [h304]
        clear h304
        go_wp2
        go_ret
        exact ⟨rfl, hw6⟩
      by_cases h204 : st = 204
      · have g1 : (st == 304) = false := by simp [h304]
        have g2 : (st == 204) = true := by simp [h204]
        clear h304 h204
        go_wp2
        go_ret
        exact ⟨rfl, hw6⟩
      have g1 : (st == 304) = false := by simp [h304]
      have g2 : (st == 204) = false := by simp [h204]
      have HX := Lib.hid (HLn2.out h204)
      clear h304 h204 HLn2
      go_wp2_with fail
      refine (HC.out w6 HF6.out).mono ?_
      rintro e w7 ⟨rfl, hb7⟩
      rw [HX.out]
      have hR7 := hR6.on hb7
      have hQ7 := hQ6.on hb7
      have hw7 := Bl.tr hw6 hb7
      have x0 : w7.cell? ⟨w.heap.size, 0, none⟩ = some (S rm) := hR7.cell 0
      have y4 : w7.cell? ⟨w.heap.size + 1, 4, none⟩ = some (S body) := hQ7.cell 4
      by_cases hbe : ([] == body) = true
      · go_wp2
        go_ret
        exact ⟨rfl, hw7⟩
      · have hbe : ([] == body) = false := by simpa using hbe
        go_wp2
        go_ret
        exact ⟨rfl, hw7⟩
    | false =>
      obtain rfl : body = AB := by rw [HB.out, hbh]; rfl
      clear HN HB HMet HLen
      have hnn : (body != body) = false := by simp
      have hee : (body == body) = true := by simp
      have HEE := Lib.hid hee
      by_cases h304 : st = 304
      · have g1 : (st == 304) = true := by simp [h304]
        clear h304
        go_wp2
        all_goals go_ret
        all_goals exact ⟨rfl, hw6⟩
      by_cases h204 : st = 204
      · have g1 : (st == 304) = false := by simp [h304]
        have g2 : (st == 204) = true := by simp [h204]
        clear h304 h204
        go_wp2
        all_goals go_ret
        all_goals exact ⟨rfl, hw6⟩
      have g1 : (st == 304) = false := by simp [h304]
      have g2 : (st == 204) = false := by simp [h204]
      have HX := Lib.hid (HLn2.out h204)
      clear h304 h204 HLn2
      go_wp2_with fail
      all_goals
        refine (HC.out w6 HF6.out).mono ?_
        rintro e w7 ⟨rfl, hb7⟩
        rw [HX.out]
        have hQ7 := hQ6.on hb7
        have hw7 := Bl.tr hw6 hb7
        have y4 : w7.cell? ⟨w.heap.size + 1, 4, none⟩ = some (S body) := hQ7.cell 4
        go_wp2
        go_ret
        exact ⟨rfl, hw7⟩
end Go.Proofs.YtghggooaaefdcaaGreatDoor
