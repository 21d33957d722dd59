/- Parts of the proof of DealAsks_holds: the texts Dea2. -/
import Derived.Test.YtahapblgmehngaaGreatDoorA24
set_option linter.unusedSimpArgs false
set_option linter.unusedVariables false
set_option linter.unnecessarySimpa false
namespace Go.Proofs.YtahapblgmehngaaGreatDoor
open Go.RowKit Go.Dr

set_option maxRecDepth 100000 in
set_option maxHeartbeats 4000000 in
theorem Shares_any (r : Rq) (l : List F) (w : World) (h : Fs w.heap.size w r.v l) (hl : fsum l ≤ 1099511627776) :
    Calls Tryz.prog 25 #[r.val] w fun e w' => e = .returned (.bool (sharesB r.m l)) ∧ Below w.heap.size w w' := by
  obtain ⟨pr, cr, hrv, -⟩ := h.form
  obtain ⟨rm, rs, ra, rp, rv⟩ := r
  simp only at hrv h
  subst hrv
  simp only [Rq.val]
  by_cases hg : rm = [71, 69, 84]
  · subst hg
    have HP : Hid (sharesB [71, 69, 84] l = (!aloneB [71, 69, 84] l && !hasB l authzT && !(saysC l).nc && decide ((saysC l).ma < 0) && decide ((saysC l).mf < 0) && !(saysC l).oi)) := by show _ = _; simp [sharesB]
    obtain ⟨res, eres⟩ : ∃ res, res = sharesB [71, 69, 84] l := ⟨_, rfl⟩
    rw [← eres] at HP ⊢
    clear eres
    obtain ⟨w0, ew⟩ : ∃ w0 : World, w0 = w.alloc (.cells #[S [71, 69, 84], S rs, S ra, S rp, .slice pr l.length cr] 28) := ⟨_, rfl⟩
    obtain ⟨Z, eZ⟩ : ∃ Z, Z = w.heap.size := ⟨_, rfl⟩
    have hQ0 : Blk w0 Z 28 #[S [71, 69, 84], S rs, S ra, S rp, .slice pr l.length cr] := by rw [ew, eZ]; exact Blk.new _ _ _
    have hb0 : Below w.heap.size w w0 := by rw [ew]; exact (Below.refl _ _).alloc (Nat.le_refl _) _
    have h0 := (h.below hb0).mono hb0.size
    have HZ := Lib.hid eZ
    have HW := Lib.hid ew
    clear eZ ew h
    have hSa := Says_any ⟨[71, 69, 84], rs, ra, rp, .slice pr l.length cr⟩ l w0 h0 hl
    obtain ⟨c, ec⟩ : ∃ c, c = saysC l := ⟨_, rfl⟩
    have hok := saysC_ok l
    rw [← ec] at hSa hok HP
    clear ec
    obtain ⟨ns, nc, nt, pu, pr', mr, px, oi, ma, sm, mf, ms⟩ := c
    simp only [Rq.val, Ctl.val] at hSa
    unfold Ctl.ok at hok
    simp only at hok HP
    go_enter Tryz.func25, Tryz.ntmps25
    go_upto_region 1 with fail
    rw [← HZ.out, ← HW.out]
    (have x0 : w0.cell? ⟨Z, 0, none⟩ = some (S [71, 69, 84]) := hQ0.cell 0; have x1 : w0.cell? ⟨Z, 1, none⟩ = some (S rs) := hQ0.cell 1; have x2 : w0.cell? ⟨Z, 2, none⟩ = some (S ra) := hQ0.cell 2; have x3 : w0.cell? ⟨Z, 3, none⟩ = some (S rp) := hQ0.cell 3; have x4 : w0.cell? ⟨Z, 4, none⟩ = some (.slice pr l.length cr) := hQ0.cell 4)
    go_wp2_with fail
    refine hSa.mono ?_
    rintro e w1 ⟨rfl, hb1⟩
    have hQ1 := hQ0.on hb1
    have h1 := (h0.below hb1).mono hb1.size
    have hw1 := Bl.tr hb0 hb1
    obtain ⟨wc, ewc⟩ : ∃ wc : World, wc = w1.alloc (.cells #[.bool ns, .bool nc, .bool nt, .bool pu, .bool pr', .bool mr, .bool px, .bool oi, .int .i64 ma, .int .i64 sm, .int .i64 mf, .int .i64 ms] 80) := ⟨_, rfl⟩
    obtain ⟨Cb, eCb⟩ : ∃ Cb, Cb = w1.heap.size := ⟨_, rfl⟩
    have hC : Blk wc Cb 80 #[.bool ns, .bool nc, .bool nt, .bool pu, .bool pr', .bool mr, .bool px, .bool oi, .int .i64 ma, .int .i64 sm, .int .i64 mf, .int .i64 ms] := by rw [ewc, eCb]; exact Blk.new _ _ _
    have hbc : Below w1.heap.size w1 wc := by rw [ewc]; exact (Below.refl _ _).alloc (Nat.le_refl _) _
    have HWC := Lib.hid ewc
    have HCB := Lib.hid eCb
    clear ewc eCb hSa x0 x1 x2 x3 x4
    have hQc := hQ1.on hbc
    have hc0 := (h1.below hbc).mono hbc.size
    have hwc := Bl.tr hw1 hbc
    go_upto_region 2 with fail
    rw [← HCB.out, ← HWC.out]
    clear HWC HCB hQ0 hQ1 h0 h1 hb1 hbc hw1
    (have x0 : wc.cell? ⟨Z, 0, none⟩ = some (S [71, 69, 84]) := hQc.cell 0; have x1 : wc.cell? ⟨Z, 1, none⟩ = some (S rs) := hQc.cell 1; have x2 : wc.cell? ⟨Z, 2, none⟩ = some (S ra) := hQc.cell 2; have x3 : wc.cell? ⟨Z, 3, none⟩ = some (S rp) := hQc.cell 3; have x4 : wc.cell? ⟨Z, 4, none⟩ = some (.slice pr l.length cr) := hQc.cell 4)

    have hAl := alone_any ⟨[71, 69, 84], rs, ra, rp, .slice pr l.length cr⟩ l wc hc0 hl
    obtain ⟨al, eal⟩ : ∃ al, al = aloneB [71, 69, 84] l := ⟨_, rfl⟩
    simp only [Rq.val] at hAl
    rw [← eal] at hAl HP
    clear eal
    go_wp2_with fail
    refine hAl.mono ?_
    rintro e w2 ⟨rfl, hb2⟩
    have hQ2 := hQc.on hb2
    have hC2 := hC.on hb2
    have h2 := (hc0.below hb2).mono hb2.size
    have hw2 := Bl.tr hwc hb2
    clear hAl x0 x1 x2 x3 x4 hC hQc hc0 hb2 hwc
    cases al with
    | true =>
      have HR : Hid (res = false) := by show _ = _; rw [HP.out]; rfl
      go_wp2
      go_ret
      exact ⟨ret_bool (by rw [HR.out]), hw2⟩
    | false =>
      (have x0 : w2.cell? ⟨Z, 0, none⟩ = some (S [71, 69, 84]) := hQ2.cell 0; have x1 : w2.cell? ⟨Z, 1, none⟩ = some (S rs) := hQ2.cell 1; have x2 : w2.cell? ⟨Z, 2, none⟩ = some (S ra) := hQ2.cell 2; have x3 : w2.cell? ⟨Z, 3, none⟩ = some (S rp) := hQ2.cell 3; have x4 : w2.cell? ⟨Z, 4, none⟩ = some (.slice pr l.length cr) := hQ2.cell 4)
      have hV := Values_any l authzT _ w2 h2 hl (by decide)
      have HH : Hid (hasB l authzT = decide (0 < (values l authzT).length)) := rfl
      go_wp2_with fail
      refine hV.mono ?_
      rintro e w3 ⟨vv, rfl, hvv, hb3⟩
      obtain ⟨pa, ca, rfl, hm⟩ := (Ss.own hvv).form
      obtain ⟨n, en⟩ : ∃ n, n = (values l authzT).length := ⟨_, rfl⟩
      rw [← en] at HH ⊢
      rw [HH.out] at HP
      clear hvv en HH
      have hC3 := hC2.on hb3
      have hw3 := Bl.tr hw2 hb3
      clear hV x0 x1 x2 x3 x4 hQ2 hC2 hb3 h2 hw2
      by_cases hn : 0 < n
      · have d1 : decide (0 < n) = true := by simpa using hn
        have d2 : ((n : Int) == 0) = false := by simp; omega
        have d3 : decide ((n : Int) = 0) = false := by simp; omega
        have d4 : (n == 0) = false := by simp; omega
        have d5 : decide (n = 0) = false := by simp; omega
        have HR : Hid (res = false) := by show _ = _; rw [HP.out, d1]; rfl
        clear hn
        go_wp2
        go_ret
        exact ⟨ret_bool (by rw [HR.out]), hw3⟩
      · obtain rfl : n = 0 := by omega
        have HP2 : Hid (res = (!nc && decide (ma < 0) && decide (mf < 0) && !oi)) := by show _ = _; rw [HP.out]; rfl
        have y1 : w3.cell? ⟨Cb, 1, none⟩ = some (.bool nc) := hC3.cell 1; have y8 : w3.cell? ⟨Cb, 8, none⟩ = some (.int .i64 ma) := hC3.cell 8; have y10 : w3.cell? ⟨Cb, 10, none⟩ = some (.int .i64 mf) := hC3.cell 10; have y7 : w3.cell? ⟨Cb, 7, none⟩ = some (.bool oi) := hC3.cell 7
        have e1 : decide (ma = -1) = decide (ma < 0) := by by_cases q : ma < 0 <;> simp [q] <;> omega
        have e2 : decide (mf = -1) = decide (mf < 0) := by by_cases q : mf < 0 <;> simp [q] <;> omega
        have e3 : (ma == -1) = decide (ma < 0) := by by_cases q : ma < 0 <;> simp [q] <;> omega
        have e4 : (mf == -1) = decide (mf < 0) := by by_cases q : mf < 0 <;> simp [q] <;> omega
        clear hok
        by_cases q1 : ma < 0
        · have d1 : decide (ma < 0) = true := by simpa using q1
          rw [d1] at e1 e3 HP2
          by_cases q2 : mf < 0
          · have d2 : decide (mf < 0) = true := by simpa using q2
            rw [d2] at e2 e4 HP2
            clear q1 q2
            cases nc <;> cases oi
            all_goals
              go_wp2
              go_ret
              exact ⟨ret_bool (by rw [HP2.out]; rfl), hw3⟩
          · have d2 : decide (mf < 0) = false := by simpa using q2
            rw [d2] at e2 e4 HP2
            clear q1 q2
            cases nc <;> cases oi
            all_goals
              go_wp2
              go_ret
              exact ⟨ret_bool (by rw [HP2.out]; rfl), hw3⟩
        · have d1 : decide (ma < 0) = false := by simpa using q1
          rw [d1] at e1 e3 HP2
          clear q1
          cases nc
          all_goals
            go_wp2
            go_ret
            exact ⟨ret_bool (by rw [HP2.out]; simp), hw3⟩
  · have g1 : (rm == [71, 69, 84]) = false := by simpa using hg
    have g3 : (rm != [71, 69, 84]) = true := by simpa using hg
    have HR : Hid (sharesB rm l = false) := by show _ = _; unfold sharesB; rw [g1]; rfl
    have HP : Hid (saysC l = saysC l) := rfl
    obtain ⟨res, eres⟩ : ∃ res, res = sharesB rm l := ⟨_, rfl⟩
    rw [← eres] at HR ⊢
    clear eres hg
    obtain ⟨w0, ew⟩ : ∃ w0 : World, w0 = w.alloc (.cells #[S rm, S rs, S ra, S rp, .slice pr l.length cr] 28) := ⟨_, rfl⟩
    obtain ⟨Z, eZ⟩ : ∃ Z, Z = w.heap.size := ⟨_, rfl⟩
    have hQ0 : Blk w0 Z 28 #[S rm, S rs, S ra, S rp, .slice pr l.length cr] := by rw [ew, eZ]; exact Blk.new _ _ _
    have hb0 : Below w.heap.size w w0 := by rw [ew]; exact (Below.refl _ _).alloc (Nat.le_refl _) _
    have h0 := (h.below hb0).mono hb0.size
    have HZ := Lib.hid eZ
    have HW := Lib.hid ew
    clear eZ ew h
    have hSa := Says_any ⟨rm, rs, ra, rp, .slice pr l.length cr⟩ l w0 h0 hl
    obtain ⟨c, ec⟩ : ∃ c, c = saysC l := ⟨_, rfl⟩
    have hok := saysC_ok l
    rw [← ec] at hSa hok HP
    clear ec
    obtain ⟨ns, nc, nt, pu, pr', mr, px, oi, ma, sm, mf, ms⟩ := c
    simp only [Rq.val, Ctl.val] at hSa
    unfold Ctl.ok at hok
    simp only at hok HP
    go_enter Tryz.func25, Tryz.ntmps25
    go_upto_region 1 with fail
    rw [← HZ.out, ← HW.out]
    (have x0 : w0.cell? ⟨Z, 0, none⟩ = some (S rm) := hQ0.cell 0; have x1 : w0.cell? ⟨Z, 1, none⟩ = some (S rs) := hQ0.cell 1; have x2 : w0.cell? ⟨Z, 2, none⟩ = some (S ra) := hQ0.cell 2; have x3 : w0.cell? ⟨Z, 3, none⟩ = some (S rp) := hQ0.cell 3; have x4 : w0.cell? ⟨Z, 4, none⟩ = some (.slice pr l.length cr) := hQ0.cell 4)
    go_wp2_with fail
    refine hSa.mono ?_
    rintro e w1 ⟨rfl, hb1⟩
    have hQ1 := hQ0.on hb1
    have h1 := (h0.below hb1).mono hb1.size
    have hw1 := Bl.tr hb0 hb1
    obtain ⟨wc, ewc⟩ : ∃ wc : World, wc = w1.alloc (.cells #[.bool ns, .bool nc, .bool nt, .bool pu, .bool pr', .bool mr, .bool px, .bool oi, .int .i64 ma, .int .i64 sm, .int .i64 mf, .int .i64 ms] 80) := ⟨_, rfl⟩
    obtain ⟨Cb, eCb⟩ : ∃ Cb, Cb = w1.heap.size := ⟨_, rfl⟩
    have hC : Blk wc Cb 80 #[.bool ns, .bool nc, .bool nt, .bool pu, .bool pr', .bool mr, .bool px, .bool oi, .int .i64 ma, .int .i64 sm, .int .i64 mf, .int .i64 ms] := by rw [ewc, eCb]; exact Blk.new _ _ _
    have hbc : Below w1.heap.size w1 wc := by rw [ewc]; exact (Below.refl _ _).alloc (Nat.le_refl _) _
    have HWC := Lib.hid ewc
    have HCB := Lib.hid eCb
    clear ewc eCb hSa x0 x1 x2 x3 x4
    have hQc := hQ1.on hbc
    have hc0 := (h1.below hbc).mono hbc.size
    have hwc := Bl.tr hw1 hbc
    go_upto_region 2 with fail
    rw [← HCB.out, ← HWC.out]
    clear HWC HCB hQ0 hQ1 h0 h1 hb1 hbc hw1
    (have x0 : wc.cell? ⟨Z, 0, none⟩ = some (S rm) := hQc.cell 0; have x1 : wc.cell? ⟨Z, 1, none⟩ = some (S rs) := hQc.cell 1; have x2 : wc.cell? ⟨Z, 2, none⟩ = some (S ra) := hQc.cell 2; have x3 : wc.cell? ⟨Z, 3, none⟩ = some (S rp) := hQc.cell 3; have x4 : wc.cell? ⟨Z, 4, none⟩ = some (.slice pr l.length cr) := hQc.cell 4)

    go_wp2
    go_ret
    exact ⟨ret_bool (by rw [HR.out]), hwc⟩

set_option maxRecDepth 100000 in
set_option maxHeartbeats 4000000 in
theorem refShares_any (r : Rq) (l : List F) (w : World) (h : Fs w.heap.size w r.v l) (hl : fsum l ≤ 1099511627776) :
    Calls Tryz.prog 26 #[r.val] w fun e w' => e = .returned (.bool (sharesB r.m l)) ∧ Below w.heap.size w w' := by
  obtain ⟨pr, cr, hrv, -⟩ := h.form
  obtain ⟨rm, rs, ra, rp, rv⟩ := r
  simp only at hrv h
  subst hrv
  simp only [Rq.val]
  by_cases hg : rm = [71, 69, 84]
  · subst hg
    have HP : Hid (sharesB [71, 69, 84] l = (!aloneB [71, 69, 84] l && !hasB l authzT && !(saysC l).nc && decide ((saysC l).ma < 0) && decide ((saysC l).mf < 0) && !(saysC l).oi)) := by show _ = _; simp [sharesB]
    obtain ⟨res, eres⟩ : ∃ res, res = sharesB [71, 69, 84] l := ⟨_, rfl⟩
    rw [← eres] at HP ⊢
    clear eres
    obtain ⟨w0, ew⟩ : ∃ w0 : World, w0 = w.alloc (.cells #[S [71, 69, 84], S rs, S ra, S rp, .slice pr l.length cr] 28) := ⟨_, rfl⟩
    obtain ⟨Z, eZ⟩ : ∃ Z, Z = w.heap.size := ⟨_, rfl⟩
    have hQ0 : Blk w0 Z 28 #[S [71, 69, 84], S rs, S ra, S rp, .slice pr l.length cr] := by rw [ew, eZ]; exact Blk.new _ _ _
    have hb0 : Below w.heap.size w w0 := by rw [ew]; exact (Below.refl _ _).alloc (Nat.le_refl _) _
    have h0 := (h.below hb0).mono hb0.size
    have HZ := Lib.hid eZ
    have HW := Lib.hid ew
    clear eZ ew h
    have hSa := refSays18_any ⟨[71, 69, 84], rs, ra, rp, .slice pr l.length cr⟩ l w0 h0 hl
    obtain ⟨c, ec⟩ : ∃ c, c = saysC l := ⟨_, rfl⟩
    have hok := saysC_ok l
    rw [← ec] at hSa hok HP
    clear ec
    obtain ⟨ns, nc, nt, pu, pr', mr, px, oi, ma, sm, mf, ms⟩ := c
    simp only [Rq.val, Ctl.val] at hSa
    unfold Ctl.ok at hok
    simp only at hok HP
    go_enter Tryz.func26, Tryz.ntmps26
    go_upto_region 1 with fail
    rw [← HZ.out, ← HW.out]
    (have x0 : w0.cell? ⟨Z, 0, none⟩ = some (S [71, 69, 84]) := hQ0.cell 0; have x1 : w0.cell? ⟨Z, 1, none⟩ = some (S rs) := hQ0.cell 1; have x2 : w0.cell? ⟨Z, 2, none⟩ = some (S ra) := hQ0.cell 2; have x3 : w0.cell? ⟨Z, 3, none⟩ = some (S rp) := hQ0.cell 3; have x4 : w0.cell? ⟨Z, 4, none⟩ = some (.slice pr l.length cr) := hQ0.cell 4)
    go_wp2_with fail
    refine hSa.mono ?_
    rintro e w1 ⟨rfl, hb1⟩
    have hQ1 := hQ0.on hb1
    have h1 := (h0.below hb1).mono hb1.size
    have hw1 := Bl.tr hb0 hb1
    obtain ⟨wc, ewc⟩ : ∃ wc : World, wc = w1.alloc (.cells #[.bool ns, .bool nc, .bool nt, .bool pu, .bool pr', .bool mr, .bool px, .bool oi, .int .i64 ma, .int .i64 sm, .int .i64 mf, .int .i64 ms] 80) := ⟨_, rfl⟩
    obtain ⟨Cb, eCb⟩ : ∃ Cb, Cb = w1.heap.size := ⟨_, rfl⟩
    have hC : Blk wc Cb 80 #[.bool ns, .bool nc, .bool nt, .bool pu, .bool pr', .bool mr, .bool px, .bool oi, .int .i64 ma, .int .i64 sm, .int .i64 mf, .int .i64 ms] := by rw [ewc, eCb]; exact Blk.new _ _ _
    have hbc : Below w1.heap.size w1 wc := by rw [ewc]; exact (Below.refl _ _).alloc (Nat.le_refl _) _
    have HWC := Lib.hid ewc
    have HCB := Lib.hid eCb
    clear ewc eCb hSa x0 x1 x2 x3 x4
    have hQc := hQ1.on hbc
    have hc0 := (h1.below hbc).mono hbc.size
    have hwc := Bl.tr hw1 hbc
    go_upto_region 2 with fail
    rw [← HCB.out, ← HWC.out]
    clear HWC HCB hQ0 hQ1 h0 h1 hb1 hbc hw1
    (have x0 : wc.cell? ⟨Z, 0, none⟩ = some (S [71, 69, 84]) := hQc.cell 0; have x1 : wc.cell? ⟨Z, 1, none⟩ = some (S rs) := hQc.cell 1; have x2 : wc.cell? ⟨Z, 2, none⟩ = some (S ra) := hQc.cell 2; have x3 : wc.cell? ⟨Z, 3, none⟩ = some (S rp) := hQc.cell 3; have x4 : wc.cell? ⟨Z, 4, none⟩ = some (.slice pr l.length cr) := hQc.cell 4)

    have hAl := refAlone_any ⟨[71, 69, 84], rs, ra, rp, .slice pr l.length cr⟩ l wc hc0 hl
    obtain ⟨al, eal⟩ : ∃ al, al = aloneB [71, 69, 84] l := ⟨_, rfl⟩
    simp only [Rq.val] at hAl
    rw [← eal] at hAl HP
    clear eal
    go_wp2_with fail
    refine hAl.mono ?_
    rintro e w2 ⟨rfl, hb2⟩
    have hQ2 := hQc.on hb2
    have hC2 := hC.on hb2
    have h2 := (hc0.below hb2).mono hb2.size
    have hw2 := Bl.tr hwc hb2
    clear hAl x0 x1 x2 x3 x4 hC hQc hc0 hb2 hwc
    cases al with
    | true =>
      have HR : Hid (res = false) := by show _ = _; rw [HP.out]; rfl
      go_wp2
      go_ret
      exact ⟨ret_bool (by rw [HR.out]), hw2⟩
    | false =>
      (have x0 : w2.cell? ⟨Z, 0, none⟩ = some (S [71, 69, 84]) := hQ2.cell 0; have x1 : w2.cell? ⟨Z, 1, none⟩ = some (S rs) := hQ2.cell 1; have x2 : w2.cell? ⟨Z, 2, none⟩ = some (S ra) := hQ2.cell 2; have x3 : w2.cell? ⟨Z, 3, none⟩ = some (S rp) := hQ2.cell 3; have x4 : w2.cell? ⟨Z, 4, none⟩ = some (.slice pr l.length cr) := hQ2.cell 4)
      have hV := refHas_any l authzT _ w2 h2 hl (by decide)
      obtain ⟨hb, ehb⟩ : ∃ hb, hb = hasB l authzT := ⟨_, rfl⟩
      rw [← ehb] at hV HP
      clear ehb
      go_wp2_with fail
      refine hV.mono ?_
      rintro e w3 ⟨rfl, hb3⟩
      have hC3 := hC2.on hb3
      have hw3 := Bl.tr hw2 hb3
      clear hV x0 x1 x2 x3 x4 hQ2 hC2 hb3 h2 hw2
      cases hb with
      | true =>
        have HR : Hid (res = false) := by show _ = _; rw [HP.out]; rfl
        go_wp2
        go_ret
        exact ⟨ret_bool (by rw [HR.out]), hw3⟩
      | false =>
        have HP2 : Hid (res = (!nc && decide (ma < 0) && decide (mf < 0) && !oi)) := by show _ = _; rw [HP.out]; rfl
        have y1 : w3.cell? ⟨Cb, 1, none⟩ = some (.bool nc) := hC3.cell 1; have y8 : w3.cell? ⟨Cb, 8, none⟩ = some (.int .i64 ma) := hC3.cell 8; have y10 : w3.cell? ⟨Cb, 10, none⟩ = some (.int .i64 mf) := hC3.cell 10; have y7 : w3.cell? ⟨Cb, 7, none⟩ = some (.bool oi) := hC3.cell 7
        have e1 : decide (ma = -1) = decide (ma < 0) := by by_cases q : ma < 0 <;> simp [q] <;> omega
        have e2 : decide (mf = -1) = decide (mf < 0) := by by_cases q : mf < 0 <;> simp [q] <;> omega
        have e3 : (ma == -1) = decide (ma < 0) := by by_cases q : ma < 0 <;> simp [q] <;> omega
        have e4 : (mf == -1) = decide (mf < 0) := by by_cases q : mf < 0 <;> simp [q] <;> omega
        clear hok
        by_cases q1 : ma < 0
        · have d1 : decide (ma < 0) = true := by simpa using q1
          rw [d1] at e1 e3 HP2
          by_cases q2 : mf < 0
          · have d2 : decide (mf < 0) = true := by simpa using q2
            rw [d2] at e2 e4 HP2
            clear q1 q2
            cases nc <;> cases oi
            all_goals
              go_wp2
              go_ret
              exact ⟨ret_bool (by rw [HP2.out]; rfl), hw3⟩
          · have d2 : decide (mf < 0) = false := by simpa using q2
            rw [d2] at e2 e4 HP2
            clear q1 q2
            cases nc <;> cases oi
            all_goals
              go_wp2
              go_ret
              exact ⟨ret_bool (by rw [HP2.out]; rfl), hw3⟩
        · have d1 : decide (ma < 0) = false := by simpa using q1
          rw [d1] at e1 e3 HP2
          clear q1
          cases nc
          all_goals
            go_wp2
            go_ret
            exact ⟨ret_bool (by rw [HP2.out]; simp), hw3⟩
  · have g1 : (rm == [71, 69, 84]) = false := by simpa using hg
    have g3 : (rm != [71, 69, 84]) = true := by simpa using hg
    have HR : Hid (sharesB rm l = false) := by show _ = _; unfold sharesB; rw [g1]; rfl
    have HP : Hid (saysC l = saysC l) := rfl
    obtain ⟨res, eres⟩ : ∃ res, res = sharesB rm l := ⟨_, rfl⟩
    rw [← eres] at HR ⊢
    clear eres hg
    obtain ⟨w0, ew⟩ : ∃ w0 : World, w0 = w.alloc (.cells #[S rm, S rs, S ra, S rp, .slice pr l.length cr] 28) := ⟨_, rfl⟩
    obtain ⟨Z, eZ⟩ : ∃ Z, Z = w.heap.size := ⟨_, rfl⟩
    have hQ0 : Blk w0 Z 28 #[S rm, S rs, S ra, S rp, .slice pr l.length cr] := by rw [ew, eZ]; exact Blk.new _ _ _
    have hb0 : Below w.heap.size w w0 := by rw [ew]; exact (Below.refl _ _).alloc (Nat.le_refl _) _
    have h0 := (h.below hb0).mono hb0.size
    have HZ := Lib.hid eZ
    have HW := Lib.hid ew
    clear eZ ew h
    have hSa := refSays18_any ⟨rm, rs, ra, rp, .slice pr l.length cr⟩ l w0 h0 hl
    obtain ⟨c, ec⟩ : ∃ c, c = saysC l := ⟨_, rfl⟩
    have hok := saysC_ok l
    rw [← ec] at hSa hok HP
    clear ec
    obtain ⟨ns, nc, nt, pu, pr', mr, px, oi, ma, sm, mf, ms⟩ := c
    simp only [Rq.val, Ctl.val] at hSa
    unfold Ctl.ok at hok
    simp only at hok HP
    go_enter Tryz.func26, Tryz.ntmps26
    go_upto_region 1 with fail
    rw [← HZ.out, ← HW.out]
    (have x0 : w0.cell? ⟨Z, 0, none⟩ = some (S rm) := hQ0.cell 0; have x1 : w0.cell? ⟨Z, 1, none⟩ = some (S rs) := hQ0.cell 1; have x2 : w0.cell? ⟨Z, 2, none⟩ = some (S ra) := hQ0.cell 2; have x3 : w0.cell? ⟨Z, 3, none⟩ = some (S rp) := hQ0.cell 3; have x4 : w0.cell? ⟨Z, 4, none⟩ = some (.slice pr l.length cr) := hQ0.cell 4)
    go_wp2_with fail
    refine hSa.mono ?_
    rintro e w1 ⟨rfl, hb1⟩
    have hQ1 := hQ0.on hb1
    have h1 := (h0.below hb1).mono hb1.size
    have hw1 := Bl.tr hb0 hb1
    obtain ⟨wc, ewc⟩ : ∃ wc : World, wc = w1.alloc (.cells #[.bool ns, .bool nc, .bool nt, .bool pu, .bool pr', .bool mr, .bool px, .bool oi, .int .i64 ma, .int .i64 sm, .int .i64 mf, .int .i64 ms] 80) := ⟨_, rfl⟩
    obtain ⟨Cb, eCb⟩ : ∃ Cb, Cb = w1.heap.size := ⟨_, rfl⟩
    have hC : Blk wc Cb 80 #[.bool ns, .bool nc, .bool nt, .bool pu, .bool pr', .bool mr, .bool px, .bool oi, .int .i64 ma, .int .i64 sm, .int .i64 mf, .int .i64 ms] := by rw [ewc, eCb]; exact Blk.new _ _ _
    have hbc : Below w1.heap.size w1 wc := by rw [ewc]; exact (Below.refl _ _).alloc (Nat.le_refl _) _
    have HWC := Lib.hid ewc
    have HCB := Lib.hid eCb
    clear ewc eCb hSa x0 x1 x2 x3 x4
    have hQc := hQ1.on hbc
    have hc0 := (h1.below hbc).mono hbc.size
    have hwc := Bl.tr hw1 hbc
    go_upto_region 2 with fail
    rw [← HCB.out, ← HWC.out]
    clear HWC HCB hQ0 hQ1 h0 h1 hb1 hbc hw1
    (have x0 : wc.cell? ⟨Z, 0, none⟩ = some (S rm) := hQc.cell 0; have x1 : wc.cell? ⟨Z, 1, none⟩ = some (S rs) := hQc.cell 1; have x2 : wc.cell? ⟨Z, 2, none⟩ = some (S ra) := hQc.cell 2; have x3 : wc.cell? ⟨Z, 3, none⟩ = some (S rp) := hQc.cell 3; have x4 : wc.cell? ⟨Z, 4, none⟩ = some (.slice pr l.length cr) := hQc.cell 4)

    go_wp2
    go_ret
    exact ⟨ret_bool (by rw [HR.out]), hwc⟩

end Go.Proofs.YtahapblgmehngaaGreatDoor

