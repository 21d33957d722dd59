
/- FreshAges. -/
import Derived.Test.YtghggooaaefdcaaDoorLaw18a
import Derived.Test.YtghggooaaefdcaaDoorOpen4
namespace Go.Dr
theorem refTime_facts (t : Int) : (t < 0 → (0 : Int) = (clampT t : Nat)) ∧ (1099511627776 < t → (1099511627776 : Int) = (clampT t : Nat)) ∧ (0 ≤ t → t ≤ 1099511627776 → t = (clampT t : Nat)) := by unfold clampT; omega
end Go.Dr
namespace Go.Proofs.YtghggooaaefdcaaDoor
open Go.RowKit Go.Dr

theorem rTime_any (t : Int) (w : World) : Calls Tryd.prog 38 #[.int .i64 t] w fun e w' => e = .returned (.int .i64 (clampT t : Nat)) ∧ w = w' := by
  have H := refTime_facts t
  generalize clampT t = c at *
  have H := Lib.hid H
  by_cases h0 : t < 0
  · go_enter Tryd.func38, Tryd.ntmps38
    go_wp2
    go_ret
    exact ⟨ret_int (H.out.1 h0), rfl⟩
  · by_cases h1 : 1099511627776 < t
    · have g1 : decide ((1099511627776 : Int) < t) = true := by rw [decide_eq_true_iff]; exact h1
      go_enter Tryd.func38, Tryd.ntmps38
      go_wp2
      go_ret
      exact ⟨ret_int (H.out.2.1 h1), rfl⟩
    · have g1 : decide ((1099511627776 : Int) < t) = false := by rw [decide_eq_false_iff_not]; exact h1
      go_enter Tryd.func38, Tryd.ntmps38
      go_wp2
      go_ret
      exact ⟨ret_int (H.out.2.2 (by omega) (by omega)), rfl⟩

set_option linter.unusedSimpArgs false in
set_option maxRecDepth 100000 in
set_option maxHeartbeats 8000000 in
theorem FreshAges_any (r : Rq) (q : En) (steps : List Nat) (lr le : List F) (v : Value) (w : World) (hr : Fs w.heap.size w r.v lr) (hrb : FOk lr) (hf : Fs w.heap.size w q.vf le) (hfb : FOk le) (hs : Hs w.heap.size w v steps) (hsb : ∀ n ∈ steps, n ≤ 65535) :
    Calls Tryd.prog 9 #[r.val, q.val, v] w fun e w' => e = .returned (.bool true) ∧ Below w.heap.size w w' := by
  obtain ⟨pr, cr, hrv, -⟩ := hr.form
  obtain ⟨pf, cf, hfv, -⟩ := hf.form
  obtain ⟨ps, cs, rfl, hsl⟩ := hs.form
  obtain ⟨rm, rs, ra, rp, rv⟩ := r
  obtain ⟨key, vp, st, vf, body, asked, came⟩ := q
  simp only at hrv hfv hr hf
  subst hrv hfv
  have HFB := Lib.hid hfb
  have HRB := Lib.hid hrb
  have HSB := Lib.hid hsb
  clear hfb hrb hsb
  obtain ⟨w0, ew⟩ : ∃ w0 : World, w0 = (w.alloc (.cells #[S rm, S rs, S ra, S rp, .slice pr lr.length cr] 67)).alloc (.cells #[S key, vp, .int .i64 st, .slice pf le.length cf, S body, .int .i64 asked, .int .i64 came] 28) := ⟨_, rfl⟩
  have hR : Blk w0 w.heap.size 67 #[S rm, S rs, S ra, S rp, .slice pr lr.length cr] := by rw [ew]; exact (Blk.new _ _ _).alloc _
  have hQ : Blk w0 (w.heap.size + 1) 28 #[S key, vp, .int .i64 st, .slice pf le.length cf, S body, .int .i64 asked, .int .i64 came] := by
    rw [ew]
    have := Blk.new (w.alloc (.cells #[S rm, S rs, S ra, S rp, .slice pr lr.length cr] 67)) 28 #[S key, vp, .int .i64 st, .slice pf le.length cf, S body, .int .i64 asked, .int .i64 came]
    rwa [show (w.alloc (.cells #[S rm, S rs, S ra, S rp, .slice pr lr.length cr] 67)).heap.size = w.heap.size + 1 by simp] at this
  have hb0 : Below w.heap.size w w0 := by rw [ew]; exact ((Below.refl _ _).alloc (Nat.le_refl _) _).alloc (by simp) _
  have hr0 := (hr.below hb0).mono hb0.size
  have hf0 := (hf.below hb0).mono hb0.size
  have hs0 := (hs.below hb0).mono hb0.size
  have hs1 := @smallB_sum lr
  have hs2 := @smallB_sum le
  clear hr hf hs
  simp only [Rq.val, En.val]
  generalize hsa : smallB lr = sa at *
  generalize hsb : smallB le = sb at *
  have HSA := Lib.hid hsa
  have HSBq := Lib.hid hsb
  have HS1 := Lib.hid hs1
  have HS2 := Lib.hid hs2
  clear hsa hsb hs1 hs2
  go_enter Tryd.func9, Tryd.ntmps9
  go_wp2_with fail
  rw [← ew]
  clear ew
  refine (awake18_any w0).mono ?_
  rintro e w1 ⟨rfl, hb1⟩
  have hw1 := Bl.tr hb0 hb1
  have hQ1 := hQ.on hb1
  have hR1 := hR.on hb1
  have hr1 := (hr0.below hb1).mono hb1.size
  have hf1 := (hf0.below hb1).mono hb1.size
  have hs1 := (hs0.below hb1).mono hb1.size
  clear hb0 hQ hR hr0 hf0 hs0 hb1
  have g4 : w1.cell? ⟨w.heap.size, 4, none⟩ = some (.slice pr lr.length cr) := hR1.cell 4
  have g3 : w1.cell? ⟨w.heap.size + 1, 3, none⟩ = some (.slice pf le.length cf) := hQ1.cell 3
  go_wp2_with fail
  refine (small18_any lr le _ _ w1 hr1 hf1 HRB.out HFB.out).mono ?_
  rintro e w2 ⟨rfl, hb2⟩
  rw [HSA.out, HSBq.out]
  have hw2 := Bl.tr hw1 hb2
  have hQ2 := hQ1.on hb2
  have hR2 := hR1.on hb2
  have hr2 := (hr1.below hb2).mono hb2.size
  have hf2 := (hf1.below hb2).mono hb2.size
  have hs2 := (hs1.below hb2).mono hb2.size
  clear hw1 hQ1 hR1 hr1 hf1 hs1 hb2 g3 g4
  cases sa with
  | false =>
    go_wp2
    go_ret
    exact ⟨rfl, hw2⟩
  | true =>
  cases sb with
  | false =>
    go_wp2
    go_ret
    exact ⟨rfl, hw2⟩
  | true =>
  have hsum1 := HS1.out rfl
  have hsum2 := HS2.out rfl
  have HAge := Lib.hid (fun (t : Int) (A : Nat) hA w h => Age_at A ⟨key, vp, st, .slice pf le.length cf, body, asked, came⟩ le t hA w h (by omega))
  have HGood := Lib.hid (fun (t : Int) (G : Bool) hG w h h' => Good_at G ⟨rm, rs, ra, rp, .slice pr lr.length cr⟩ ⟨key, vp, st, .slice pf le.length cf, body, asked, came⟩ lr le t hG w h h' (by omega) (by omega))
  simp only [Rq.val, En.val] at HAge HGood
  have hc0 := clampT_le came
  have HOn := Lib.hid (fun now n h h2 => age_on le asked came now n h h2)
  have HGo := Lib.hid (fun (t t' : Int) (h : ageF le asked came t ≤ ageF le asked came t') (hg : goodF lr le st asked came t = false) => (good_on (a := saysC lr) (b := readC le) (life := lifeF le st came) h hg : goodF lr le st asked came t' = false))
  have hale := fun t => ageF_le le asked came t
  have Hale := Lib.hid hale
  clear hale
  have y6 : w2.cell? ⟨w.heap.size + 1, 6, none⟩ = some (.int .i64 came) := hQ2.cell 6
  go_wp2_with fail
  refine (rTime_any came w2).mono ?_
  rintro e w3 ⟨rfl, rfl⟩
  generalize clampT came = c0 at *
  clear y6
  (have y0 : w2.cell? ⟨w.heap.size + 1, 0, none⟩ = some (S key) := hQ2.cell 0; have y1 : w2.cell? ⟨w.heap.size + 1, 1, none⟩ = some (vp) := hQ2.cell 1; have y2 : w2.cell? ⟨w.heap.size + 1, 2, none⟩ = some (.int .i64 st) := hQ2.cell 2; have y3 : w2.cell? ⟨w.heap.size + 1, 3, none⟩ = some (.slice pf le.length cf) := hQ2.cell 3; have y4 : w2.cell? ⟨w.heap.size + 1, 4, none⟩ = some (S body) := hQ2.cell 4; have y5 : w2.cell? ⟨w.heap.size + 1, 5, none⟩ = some (.int .i64 asked) := hQ2.cell 5; have y6 : w2.cell? ⟨w.heap.size + 1, 6, none⟩ = some (.int .i64 came) := hQ2.cell 6)
  go_wp2_with fail
  refine (HAge.out (c0 : Nat) _ rfl w2 hf2).mono ?_
  rintro e w3 ⟨rfl, hb3⟩
  have hw3 := Bl.tr hw2 hb3
  have hQ3 := hQ2.on hb3
  have hR3 := hR2.on hb3
  have hr3 := (hr2.below hb3).mono hb3.size
  have hf3 := (hf2.below hb3).mono hb3.size
  have hs3 := (hs2.below hb3).mono hb3.size
  clear y0 y1 y2 y3 y4 y5 y6 hw2 hQ2 hR2 hr2 hf2 hs2 hb3
  (have x0 : w3.cell? ⟨w.heap.size, 0, none⟩ = some (S rm) := hR3.cell 0; have x1 : w3.cell? ⟨w.heap.size, 1, none⟩ = some (S rs) := hR3.cell 1; have x2 : w3.cell? ⟨w.heap.size, 2, none⟩ = some (S ra) := hR3.cell 2; have x3 : w3.cell? ⟨w.heap.size, 3, none⟩ = some (S rp) := hR3.cell 3; have x4 : w3.cell? ⟨w.heap.size, 4, none⟩ = some (.slice pr lr.length cr) := hR3.cell 4)
  (have y0 : w3.cell? ⟨w.heap.size + 1, 0, none⟩ = some (S key) := hQ3.cell 0; have y1 : w3.cell? ⟨w.heap.size + 1, 1, none⟩ = some (vp) := hQ3.cell 1; have y2 : w3.cell? ⟨w.heap.size + 1, 2, none⟩ = some (.int .i64 st) := hQ3.cell 2; have y3 : w3.cell? ⟨w.heap.size + 1, 3, none⟩ = some (.slice pf le.length cf) := hQ3.cell 3; have y4 : w3.cell? ⟨w.heap.size + 1, 4, none⟩ = some (S body) := hQ3.cell 4; have y5 : w3.cell? ⟨w.heap.size + 1, 5, none⟩ = some (.int .i64 asked) := hQ3.cell 5; have y6 : w3.cell? ⟨w.heap.size + 1, 6, none⟩ = some (.int .i64 came) := hQ3.cell 6)
  go_wp2_with fail
  refine (HGood.out (c0 : Nat) _ rfl w3 hr3 hf3).mono ?_
  rintro e w4 ⟨rfl, hb4⟩
  have hw4 := Bl.tr hw3 hb4
  have hQ4 := hQ3.on hb4
  have hR4 := hR3.on hb4
  have hr4 := (hr3.below hb4).mono hb4.size
  have hf4 := (hf3.below hb4).mono hb4.size
  have hs4 := (hs3.below hb4).mono hb4.size
  clear x0 x1 x2 x3 x4 y0 y1 y2 y3 y4 y5 y6 hw3 hQ3 hR3 hr3 hf3 hs3 hb4
  go_wp2
  go_loopw [7, 8, 9, 10] (fun now age good i wr => ∃ k nw A : Nat, ∃ G : Bool, i = .int .i64 k ∧ now = .int .i64 nw ∧ age = .int .i64 A ∧ good = .bool G ∧ ageF le asked came (nw : Nat) = A ∧ goodF lr le st asked came (nw : Nat) = G ∧ c0 ≤ nw ∧ nw ≤ 1099511627776 ∧ k ≤ steps.length ∧ Below w4.heap.size w4 wr) (fun _ _ _ i _ => steps.length - (intOf i).toNat)
  case atStart => exact ⟨0, c0, _, _, rfl, rfl, rfl, rfl, rfl, rfl, Nat.le_refl _, hc0, Nat.zero_le _, Below.refl _ _⟩
  case round =>
    obtain ⟨k, nw, A, G, rfl, rfl, rfl, rfl, hA, hG, hc, hnw, hk, hbel⟩ := hrel
    have hAle : A ≤ 1099511627776 := by rw [← hA]; exact Hale.out _
    have HA := Lib.hid hA
    have HG := Lib.hid hG
    clear hA hG
    obtain ⟨wo, rfl⟩ : ∃ wo : World, wo = wr := ⟨_, rfl⟩
    have hwo := Bl.on hw4 hw4.size hbel
    by_cases hlt : k < steps.length
    · by_cases h50 : k < 50
      · obtain ⟨b, off, rfl, hbb, c1⟩ := (hs4.below hbel).at k hlt
        have hn := HSB.out _ (List.getElem_mem hlt)
        generalize steps[k] = n at *
        have hn0 : (0 : Int) ≤ (n : Int) ∧ (n : Int) ≤ 65535 := by omega
        have hQo := hQ4.on hbel
        have hRo := hR4.on hbel
        have hro := (hr4.below hbel).mono hbel.size
        have hfo := (hf4.below hbel).mono hbel.size
        by_cases hg : 1099511627776 - (n : Int) < (nw : Int)
        · have g1 : decide (1099511627776 - (n : Int) < (nw : Int)) = true := by rw [decide_eq_true_iff]; exact hg
          clear hg
          go_wp2
          go_ret
          exact ⟨rfl, hwo⟩
        · have g1 : decide (1099511627776 - (n : Int) < (nw : Int)) = false := by rw [decide_eq_false_iff_not]; exact hg
          have hle : nw + n ≤ 1099511627776 := by omega
          have hcast : (nw : Int) + (n : Int) = ((nw + n : Nat) : Int) := by omega
          have HOn2 := Lib.hid (HOn.out nw n hc hle)
          obtain ⟨A', hA'⟩ : ∃ A', ageF le asked came ((nw + n : Nat) : Int) = A' := ⟨_, rfl⟩
          obtain ⟨G', hG'⟩ : ∃ G', goodF lr le st asked came ((nw + n : Nat) : Int) = G' := ⟨_, rfl⟩
          have hAA : A' = min 1099511627776 (A + n) := by rw [← hA', HOn2.out, HA.out]
          have hmin : min 1099511627776 ((A : Int) + (n : Int)) = (A' : Int) := by omega
          have HGG : Hid (G = false → G' = false) := fun e => by
            rw [← hG']
            refine HGo.out (nw : Nat) _ ?_ (by rw [HG.out]; exact e)
            rw [hA', HA.out]; omega
          have HA' := Lib.hid hA'
          have HG' := Lib.hid hG'
          have hAle' : A' ≤ 1099511627776 := by omega
          have HC := Lib.hid hcast
          clear hA' hG' hAA hg hcast HOn2
          (have x0 : wo.cell? ⟨w.heap.size, 0, none⟩ = some (S rm) := hRo.cell 0; have x1 : wo.cell? ⟨w.heap.size, 1, none⟩ = some (S rs) := hRo.cell 1; have x2 : wo.cell? ⟨w.heap.size, 2, none⟩ = some (S ra) := hRo.cell 2; have x3 : wo.cell? ⟨w.heap.size, 3, none⟩ = some (S rp) := hRo.cell 3; have x4 : wo.cell? ⟨w.heap.size, 4, none⟩ = some (.slice pr lr.length cr) := hRo.cell 4)
          (have y0 : wo.cell? ⟨w.heap.size + 1, 0, none⟩ = some (S key) := hQo.cell 0; have y1 : wo.cell? ⟨w.heap.size + 1, 1, none⟩ = some (vp) := hQo.cell 1; have y2 : wo.cell? ⟨w.heap.size + 1, 2, none⟩ = some (.int .i64 st) := hQo.cell 2; have y3 : wo.cell? ⟨w.heap.size + 1, 3, none⟩ = some (.slice pf le.length cf) := hQo.cell 3; have y4 : wo.cell? ⟨w.heap.size + 1, 4, none⟩ = some (S body) := hQo.cell 4; have y5 : wo.cell? ⟨w.heap.size + 1, 5, none⟩ = some (.int .i64 asked) := hQo.cell 5; have y6 : wo.cell? ⟨w.heap.size + 1, 6, none⟩ = some (.int .i64 came) := hQo.cell 6)
          go_wp2_with fail
          refine (HAge.out _ A' (by rw [HC.out]; exact HA'.out) wo hfo).mono ?_
          rintro e w5 ⟨rfl, hb5⟩
          have hw5 := Bl.on hbel hbel.size hb5
          have hQ5 := hQo.on hb5
          have hR5 := hRo.on hb5
          have hr5 := (hro.below hb5).mono hb5.size
          have hf5 := (hfo.below hb5).mono hb5.size
          clear x0 x1 x2 x3 x4 y0 y1 y2 y3 y4 y5 y6 c1
          (have x0 : w5.cell? ⟨w.heap.size, 0, none⟩ = some (S rm) := hR5.cell 0; have x1 : w5.cell? ⟨w.heap.size, 1, none⟩ = some (S rs) := hR5.cell 1; have x2 : w5.cell? ⟨w.heap.size, 2, none⟩ = some (S ra) := hR5.cell 2; have x3 : w5.cell? ⟨w.heap.size, 3, none⟩ = some (S rp) := hR5.cell 3; have x4 : w5.cell? ⟨w.heap.size, 4, none⟩ = some (.slice pr lr.length cr) := hR5.cell 4)
          (have y0 : w5.cell? ⟨w.heap.size + 1, 0, none⟩ = some (S key) := hQ5.cell 0; have y1 : w5.cell? ⟨w.heap.size + 1, 1, none⟩ = some (vp) := hQ5.cell 1; have y2 : w5.cell? ⟨w.heap.size + 1, 2, none⟩ = some (.int .i64 st) := hQ5.cell 2; have y3 : w5.cell? ⟨w.heap.size + 1, 3, none⟩ = some (.slice pf le.length cf) := hQ5.cell 3; have y4 : w5.cell? ⟨w.heap.size + 1, 4, none⟩ = some (S body) := hQ5.cell 4; have y5 : w5.cell? ⟨w.heap.size + 1, 5, none⟩ = some (.int .i64 asked) := hQ5.cell 5; have y6 : w5.cell? ⟨w.heap.size + 1, 6, none⟩ = some (.int .i64 came) := hQ5.cell 6)
          go_wp2_with fail
          refine (HGood.out _ G' (by rw [HC.out]; exact HG'.out) w5 hr5 hf5).mono ?_
          rintro e w6 ⟨rfl, hb6⟩
          have hw6 := Bl.on hw5 hw5.size hb6
          clear x0 x1 x2 x3 x4 y0 y1 y2 y3 y4 y5 y6
          have hnn : ((A' : Int) != (A' : Int)) = false := by simp
          cases G with
          | true =>
            cases G' with
            | true =>
              go_wp2
              go_roundw
              case rel => exact ⟨k + 1, nw + n, A', true, by go_num, by go_num, rfl, rfl, HA'.out, HG'.out, by omega, hle, by omega, hw6⟩
              case measure => simp [intOf]; omega
            | false =>
              go_wp2
              go_roundw
              case rel => exact ⟨k + 1, nw + n, A', false, by go_num, by go_num, rfl, rfl, HA'.out, HG'.out, by omega, hle, by omega, hw6⟩
              case measure => simp [intOf]; omega
          | false =>
            obtain rfl : G' = false := HGG.out rfl
            go_wp2
            go_roundw
            case rel => exact ⟨k + 1, nw + n, A', false, by go_num, by go_num, rfl, rfl, HA'.out, HG'.out, by omega, hle, by omega, hw6⟩
            case measure => simp [intOf]; omega
      · have g5 : decide ((k : Int) < 50) = false := by rw [decide_eq_false_iff_not]; omega
        go_wp2
        go_ret
        exact ⟨rfl, hwo⟩
    · go_wp2
      go_ret
      exact ⟨rfl, hwo⟩
end Go.Proofs.YtghggooaaefdcaaDoor
