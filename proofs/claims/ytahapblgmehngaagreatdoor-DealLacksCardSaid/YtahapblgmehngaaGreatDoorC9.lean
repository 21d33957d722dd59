/- Parts of the proof of DealLacks_holds: the texts Dat8. -/
import Derived.Test.YtahapblgmehngaaGreatDoorC8
import Derived.Test.YtahapblgmehngaaGreatDoorC4
set_option linter.unusedSimpArgs false
set_option linter.unusedVariables false
set_option linter.unnecessarySimpa false
namespace Go.Proofs.YtahapblgmehngaaGreatDoor
open Go.RowKit Go.Dr

theorem dayOf_le (y m n : Nat) (hy : 1970 ≤ y) (hy2 : y ≤ 20000) (hm : m < 12) (hn2 : n ≤ 31) : dayOf y m n ≤ 10000000 := by
  have h1 := begY_low y hy
  have h2 := aheadM_le y m
  unfold dayOf
  omega
theorem mod_eq_i (d k : Nat) : ((d : Int) % 7 == (k : Int)) = decide (d % 7 = k) := by
  by_cases h : d % 7 = k
  · have : (d : Int) % 7 = (k : Int) := by omega
    simp [h, this]
  · have : ¬ (d : Int) % 7 = (k : Int) := by omega
    simp [h, this]

set_option maxRecDepth 100000 in
set_option maxHeartbeats 4000000 in
theorem moment_right (week year month day hour min sec : Nat) (h2 : ¬ year < 1970) (h3 : ¬ day < 1) (h4 : ¬ mLen year month < day) (h5 : ¬ 23 < hour) (h6 : ¬ 59 < min) (h7 : ¬ 59 < sec) (b : Nat) (w : World) (h : PtAt w b ⟨[], week, year, month, day, hour, min, sec, false⟩) (hk : Pt.Ok ⟨[], week, year, month, day, hour, min, sec, false⟩) : Calls Tryz.prog 181 #[.pointer (some ⟨b, 0, none⟩)] w fun e w' => e = .returned (.tuple #[.int .i64 ((dayOf year month day * 86400 + (3600 * hour + 60 * min + sec) : Nat) : Int), .bool (decide (dayOf year month day % 7 = week))]) ∧ Below w.heap.size w w' := by
  obtain ⟨hk0, hk2, hk3, hk4, hk5, hk6, hk7, hk8⟩ := hk
  dsimp only at *
  clear hk8
  have hL := mLen_le year month
  have k0 : w.cell? ⟨b, 0, none⟩ = some (S []) := h.cell 0
  have k1 : w.cell? ⟨b, 1, none⟩ = some (.int .i64 (week : Nat)) := h.cell 1
  have k2 : w.cell? ⟨b, 2, none⟩ = some (.int .i64 (year : Nat)) := h.cell 2
  have k3 : w.cell? ⟨b, 3, none⟩ = some (.int .i64 (month : Nat)) := h.cell 3
  have k4 : w.cell? ⟨b, 4, none⟩ = some (.int .i64 (day : Nat)) := h.cell 4
  have k5 : w.cell? ⟨b, 5, none⟩ = some (.int .i64 (hour : Nat)) := h.cell 5
  have k6 : w.cell? ⟨b, 6, none⟩ = some (.int .i64 (min : Nat)) := h.cell 6
  have k7 : w.cell? ⟨b, 7, none⟩ = some (.int .i64 (sec : Nat)) := h.cell 7
  have k8 : w.cell? ⟨b, 8, none⟩ = some (.bool false) := h.cell 8
  have g2 : decide ((year : Int) < 1970) = false := by simp; omega
  have g3 : decide ((day : Int) < 1) = false := by simp; omega
  have C : Hid (∀ (w : World) (n : Nat), Calls Tryz.prog 205 #[.int .i64 year, .int .i64 month] (w.drewN n) fun e w' => e = .returned (.int .i64 (mLen year month : Nat)) ∧ w' = w.drewN n) := Lib.hid (fun w n => (length_any year month (w.drewN n) (by omega) hk3).mono fun _ _ ⟨h1, h2⟩ => ⟨h1, h2.symm⟩)
  have D : Hid (∀ (w : World) (n : Nat), Calls Tryz.prog 206 #[.int .i64 year, .int .i64 month, .int .i64 day] (w.drewN n) fun e w' => e = .returned (.int .i64 (dayOf year month day : Nat)) ∧ w' = w.drewN n) := Lib.hid (fun w n => (day_any year month day (w.drewN n) (by omega) hk2 hk3 (by omega) (by omega)).mono fun _ _ ⟨h1, h2⟩ => ⟨h1, h2.symm⟩)
  have hD := dayOf_le year month day (by omega) hk2 hk3 (by omega)
  generalize mLen year month = L at *
  generalize dayOf year month day = d at *
  have HE := Lib.hid (mod_eq_i d week)
  have HN : Hid (((d * 86400 + (3600 * hour + 60 * min + sec) : Nat) : Int) = (d : Int) * 86400 + (3600 * (hour : Int) + 60 * (min : Int) + (sec : Int))) := by show _ = _; omega
  have g4 : decide ((L : Int) < (day : Int)) = false := by simp; omega
  have g5 : decide (23 < (hour : Int)) = false := by simp; omega
  have g6 : decide (59 < (min : Int)) = false := by simp; omega
  have g7 : decide (59 < (sec : Int)) = false := by simp; omega
  go_enter Tryz.func181, Tryz.ntmps181
  go_wp2
  go_quiet ((go_at_call 205; exact Calls.quiet_of_same (C.out _ _)))
  go_wp2
  obtain ⟨w1, e1⟩ : ∃ w1, w1 = w.drewN nq := ⟨_, rfl⟩
  rw [← e1]
  have hb1 : Below w.heap.size w w1 := by rw [e1]; exact below_drewN (Below.refl _ _) _
  have h1 : PtAt w1 b ⟨[], week, year, month, day, hour, min, sec, false⟩ := by rw [e1]; exact h
  clear k0 k1 k2 k3 k4 k5 k6 k7 k8 e1 h
  have k1 : w1.cell? ⟨b, 1, none⟩ = some (.int .i64 (week : Nat)) := h1.cell 1
  have k2 : w1.cell? ⟨b, 2, none⟩ = some (.int .i64 (year : Nat)) := h1.cell 2
  have k3 : w1.cell? ⟨b, 3, none⟩ = some (.int .i64 (month : Nat)) := h1.cell 3
  have k4 : w1.cell? ⟨b, 4, none⟩ = some (.int .i64 (day : Nat)) := h1.cell 4
  have k5 : w1.cell? ⟨b, 5, none⟩ = some (.int .i64 (hour : Nat)) := h1.cell 5
  have k6 : w1.cell? ⟨b, 6, none⟩ = some (.int .i64 (min : Nat)) := h1.cell 6
  have k7 : w1.cell? ⟨b, 7, none⟩ = some (.int .i64 (sec : Nat)) := h1.cell 7
  go_quiet ((go_at_call 206; exact Calls.quiet_of_same (D.out _ _)))
  go_wp2
  go_quiet (fail)
  go_wp2
  go_ret2
  exact ⟨by rw [HE.out, HN.out]; rfl, by first | exact below_drewN hb1 _ | exact below_drewN (below_drewN hb1 _) _⟩

theorem moment_any (p : Pt) (b : Nat) (w : World) (h : PtAt w b p) (hk : Pt.Ok p) : Calls Tryz.prog 181 #[.pointer (some ⟨b, 0, none⟩)] w fun e w' => e = .returned (.tuple #[.int .i64 ((p.moment.1 : Nat) : Int), .bool p.moment.2]) ∧ Below w.heap.size w w' := by
  obtain ⟨left, week, year, month, day, hour, min, sec, bad⟩ := p
  have no : ∀ {q : Pt}, q.wrong = true → q.moment = (0, false) := fun {q} hq => by unfold Pt.moment; rw [if_pos hq]
  cases bad with
  | true =>
    have := moment_bad left week year month day hour min sec b w h hk
    rw [no (by simp [Pt.wrong])]
    exact this
  | false =>
    cases left with
    | cons x left =>
      have := moment_left x left week year month day hour min sec b w h hk
      rw [no (by simp [Pt.wrong])]
      exact this
    | nil =>
      by_cases h2 : year < 1970
      · have := moment_year week year month day hour min sec h2 b w h hk
        rw [no (by simp [Pt.wrong, h2])]
        exact this
      by_cases h3 : day < 1
      · have := moment_day1 week year month day hour min sec h2 h3 b w h hk
        rw [no (by simp [Pt.wrong]; omega)]
        exact this
      by_cases h4 : mLen year month < day
      · have := moment_dayL week year month day hour min sec h2 h3 h4 b w h hk
        rw [no (by simp [Pt.wrong]; omega)]
        exact this
      by_cases h5 : 23 < hour
      · have := moment_hour week year month day hour min sec h2 h3 h4 h5 b w h hk
        rw [no (by simp [Pt.wrong]; omega)]
        exact this
      by_cases h6 : 59 < min
      · have := moment_min week year month day hour min sec h2 h3 h4 h5 h6 b w h hk
        rw [no (by simp [Pt.wrong]; omega)]
        exact this
      by_cases h7 : 59 < sec
      · have := moment_sec week year month day hour min sec h2 h3 h4 h5 h6 h7 b w h hk
        rw [no (by simp [Pt.wrong]; omega)]
        exact this
      · have := moment_right week year month day hour min sec h2 h3 h4 h5 h6 h7 b w h hk
        have e : Pt.wrong ⟨[], week, year, month, day, hour, min, sec, false⟩ = false := by
          simp [Pt.wrong]; omega
        unfold Pt.moment
        rw [if_neg (by rw [e]; simp)]
        exact this

theorem namV_lt7 (p : Pt) : p.namV dayTab < 7 := namV_lt p dayTab (by decide)
theorem namV_lt12 (p : Pt) : p.namV monTab < 12 := namV_lt p monTab (by decide)
end Go.Proofs.YtahapblgmehngaaGreatDoor
namespace Go.Proofs.YtahapblgmehngaaGreatDoor
open Go.RowKit Go.Dr

theorem clock_lt (p : Pt) : p.clock.hour < 100 ∧ p.clock.min < 100 ∧ p.clock.sec < 100 := by
  have e1 : p.clock.hour = p.digV 2 := by simp only [Pt.clock, Pt.aSec, Pt.aMin, Pt.aHour, w_hour, d_hour]
  have e2 : p.clock.min = (p.aHour.word [58]).digV 2 := by simp only [Pt.clock, Pt.aSec, Pt.aMin, w_min, d_min]
  have e3 : p.clock.sec = ((p.aHour.word [58]).aMin.word [58]).digV 2 := by simp only [Pt.clock, Pt.aSec]
  rw [e1, e2, e3]
  exact ⟨digV_lt _ 2, digV_lt _ 2, digV_lt _ 2⟩
theorem own_ok {p : Pt} (h : Pt.Sm p) : Pt.Ok p.own := by
  refine ⟨?_, ?_, ?_, ?_, ?_, ?_, ?_, ?_⟩
  · simp only [Pt.own, w_week, (clock_week _).1, Pt.aYear, d_week, Pt.aMonth, n_week, Pt.aDay, f_week]; exact namV_lt7 _
  · simp only [Pt.own, w_year, (clock_week _).2.1, f_year]; exact Nat.le_trans (Nat.le_of_lt (digV_lt _ 4)) (by decide)
  · simp only [Pt.own, w_month, (clock_week _).2.2.1, Pt.aYear, d_month, f_month]; exact namV_lt12 _
  · simp only [Pt.own, w_day, (clock_week _).2.2.2, Pt.aYear, d_day, Pt.aMonth, n_day, f_day]; exact digV_lt _ 2
  · simp only [Pt.own, w_hour]; exact (clock_lt _).1
  · simp only [Pt.own, w_min]; exact (clock_lt _).2.1
  · simp only [Pt.own, w_sec]; exact (clock_lt _).2.2
  · exact Pt.Sm.word (Pt.Sm.clock (Pt.Sm.word (Pt.Sm.aYear (Pt.Sm.word (Pt.Sm.aMonth (Pt.Sm.word (Pt.Sm.aDay (Pt.Sm.word (Pt.Sm.aWeek h) _) _) _)) _)) _)) _
theorem old_ok {p : Pt} (h : Pt.Sm p) (now : Nat) (hn : now ≤ 9999) : Pt.Ok (p.old now) := by
  refine ⟨?_, ?_, ?_, ?_, ?_, ?_, ?_, ?_⟩
  · simp only [Pt.old, w_week, (clock_week _).1, oldYear_eq, d_week, Pt.aMonth, n_week, Pt.aDay, old_fields, f_week]; exact namV_lt7 _
  · simp only [Pt.old, w_year, (clock_week _).2.1, f_old]; exact Nat.le_trans (Nat.le_of_lt (winY_lt _ _ hn (digV_lt _ 2))) (by decide)
  · simp only [Pt.old, w_month, (clock_week _).2.2.1, oldYear_eq, d_month, f_month]; exact namV_lt12 _
  · simp only [Pt.old, w_day, (clock_week _).2.2.2, oldYear_eq, d_day, Pt.aMonth, n_day, f_day]; exact digV_lt _ 2
  · simp only [Pt.old, w_hour]; exact (clock_lt _).1
  · simp only [Pt.old, w_min]; exact (clock_lt _).2.1
  · simp only [Pt.old, w_sec]; exact (clock_lt _).2.2
  · exact Pt.Sm.word (Pt.Sm.clock (Pt.Sm.word (Pt.Sm.oldYear (Pt.Sm.word (Pt.Sm.aMonth (Pt.Sm.word (Pt.Sm.aDay (Pt.Sm.word (Pt.Sm.oldWeek (Pt.Sm.aWeek h)) _) _) _)) _) _) _)) _
theorem bareDay_lt (p : Pt) : p.bareDay.day < 100 := by
  unfold Pt.bareDay
  split
  · exact Nat.lt_of_lt_of_le (digV_lt _ 1) (by decide)
  · exact digV_lt _ 2
theorem bare_ok {p : Pt} (h : Pt.Sm p) : Pt.Ok p.bare := by
  refine ⟨?_, ?_, ?_, ?_, ?_, ?_, ?_, ?_⟩
  · simp only [Pt.bare, Pt.aYear, d_week, w_week, (clock_week _).1, (bare_fields _).1, Pt.aMonth, n_week, f_week]; exact namV_lt7 _
  · simp only [Pt.bare, f_year]; exact Nat.le_trans (Nat.le_of_lt (digV_lt _ 4)) (by decide)
  · simp only [Pt.bare, Pt.aYear, d_month, w_month, (clock_week _).2.2.1, (bare_fields _).2, f_month]; exact namV_lt12 _
  · simp only [Pt.bare, Pt.aYear, d_day, w_day, (clock_week _).2.2.2]; exact bareDay_lt _
  · simp only [Pt.bare, Pt.aYear, d_hour, w_hour]; exact (clock_lt _).1
  · simp only [Pt.bare, Pt.aYear, d_min, w_min]; exact (clock_lt _).2.1
  · simp only [Pt.bare, Pt.aYear, d_sec, w_sec]; exact (clock_lt _).2.2
  · exact Pt.Sm.aYear (Pt.Sm.word (Pt.Sm.clock (Pt.Sm.word (Pt.Sm.bareDay (Pt.Sm.word (Pt.Sm.aMonth (Pt.Sm.word (Pt.Sm.aWeek h) _)) _)) _)) _)
theorem clampD_le (now : Int) : clampD now ≤ 253402300799 := by unfold clampD; omega
theorem yearOf_clamp (now : Int) : 1970 ≤ yearOf (clampD now / 86400) ∧ yearOf (clampD now / 86400) ≤ 9999 := by
  have h := yearOf_spec (clampD now / 86400)
  refine ⟨h.1, ?_⟩
  have h2 := clampD_le now
  have h3 := begY_mono 10000 (yearOf (clampD now / 86400) - 10000) (by decide)
  by_cases h4 : yearOf (clampD now / 86400) ≤ 9999
  · exact h4
  · rw [show 10000 + (yearOf (clampD now / 86400) - 10000) = yearOf (clampD now / 86400) by omega] at h3
    have h5 : begY 10000 = 2932897 := by decide
    omega
theorem clampD_int (now : Int) : max 0 (Min.min now 253402300799) = (clampD now : Nat) := by unfold clampD; omega

set_option maxRecDepth 100000 in
set_option maxHeartbeats 4000000 in
theorem Parse_any (s : Bytes) (now : Int) (w : World) (hs : s.length ≤ 1099511627776) : Calls Tryz.prog 149 #[S s, .int .i64 now] w fun e w' => e = .returned (.tuple #[.int .i64 ((parseF s now).1 : Nat), .int .i64 ((parseF s now).2 : Nat)]) ∧ Below w.heap.size w w' := by
  have hy := yearOf_clamp now
  have hc := clampD_le now
  have HC := Lib.hid (clampD_int now)
  have HP : Hid (parseF s now = parseY s (yearOf (clampD now / 86400))) := rfl
  have hyr := fun w : World => year_any (clampD now / 86400) w (by omega)
  generalize yearOf (clampD now / 86400) = y at *
  generalize clampD now = c at *
  generalize parseF s now = r at *
  have Y : Hid (∀ w : World, Calls Tryz.prog 177 #[.int .i64 (max 0 (Min.min now 253402300799) / 86400)] w fun e w' => e = .returned (.int .i64 (y : Nat)) ∧ w = w') := Lib.hid (by
    rw [HC.out, show ((c : Int) / 86400) = ((c / 86400 : Nat) : Int) by omega]; exact hyr)
  clear hyr
  go_enter Tryz.func149, Tryz.ntmps149
  go_wp2_with fail
  refine (Y.out w).mono ?_
  rintro e w1 ⟨rfl, hw1⟩
  obtain rfl : w = w1 := hw1
  go_wp2
  refine wp_loop_rounds 4 ?_
  rw [rounds_succ]
  obtain ⟨wf, ef⟩ : ∃ wf : World, wf = w.alloc (.cells #[.func (.func 178) #[] #[], .func (.func 179) #[] #[], .func (.func 180) #[] #[]] 196) := ⟨_, rfl⟩
  have hF : Blk wf w.heap.size 196 #[.func (.func 178) #[] #[], .func (.func 179) #[] #[], .func (.func 180) #[] #[]] := by rw [ef]; exact Blk.new _ _ _
  have hb0 : Below w.heap.size w wf := by rw [ef]; exact (Below.refl _ _).alloc (Nat.le_refl _) _
  have hz0 : w.heap.size < wf.heap.size := by rw [ef]; simp
  have d00 : wf.cell? ⟨w.heap.size, 0, none⟩ = some (.func (.func 178) #[] #[]) := hF.cell 0
  rw [← ef]
  clear ef
  have hS : Pt.Sm ⟨s, 0, 0, 0, 0, 0, 0, 0, false⟩ := hs
  go_wp2_with fail
  have hP0 : PtAt (wf.alloc (.cells (Pt.cells ⟨s, 0, 0, 0, 0, 0, 0, 0, false⟩) 200)) wf.heap.size ⟨s, 0, 0, 0, 0, 0, 0, 0, false⟩ := Blk.new _ _ _
  refine (own_any ⟨s, 0, 0, 0, 0, 0, 0, 0, false⟩ (y : Int) wf.heap.size _ hP0 hS).mono ?_
  rintro e wa0 ⟨rfl, hA0, hba0⟩
  have hwa0 : Below wf.heap.size wf wa0 := ((Below.refl _ _).alloc (Nat.le_refl _) _).trans hba0
  obtain ⟨q0, hq0, ok0⟩ : ∃ q, q = Pt.own ⟨s, 0, 0, 0, 0, 0, 0, 0, false⟩ ∧ Pt.Ok q := ⟨_, rfl, own_ok hS⟩
  rw [← hq0] at hA0
  have M0 := moment_any q0 _ wa0 hA0 ok0
  generalize hm0 : Pt.moment q0 = r0 at M0
  have HG0 : Hid (Pt.moment (Pt.own ⟨s, 0, 0, 0, 0, 0, 0, 0, false⟩) = r0) := by show _ = _; rw [← hq0]; exact hm0
  obtain ⟨v0, m0⟩ := r0
  clear hm0 hq0 hA0 ok0
  dsimp only at M0
  go_wp2_with fail
  refine M0.mono ?_
  rintro e wb0 ⟨rfl, hbb0⟩
  have hwb0 : Below wf.heap.size wf wb0 := Bl.tr hwa0 hbb0
  have hz1 : w.heap.size < wb0.heap.size := Nat.lt_of_lt_of_le hz0 hwb0.size
  have hw1 : Below w.heap.size w wb0 := Bl.tr hb0 (hwb0)
  have hF1 := hF.on hwb0
  clear M0
  cases m0 with
  | true =>
    go_wp2
    go_ret2
    exact ⟨by rw [HP.out]; unfold parseY; rw [HG0.out]; rfl, hw1⟩
  | false =>
    have d1 : wb0.cell? ⟨w.heap.size, 1, none⟩ = some (.func (.func 179) #[] #[]) := hF1.cell 1
    go_wp2
    rw [rounds_succ]
    go_wp2_with fail
    have hP1 : PtAt (wb0.alloc (.cells (Pt.cells ⟨s, 0, 0, 0, 0, 0, 0, 0, false⟩) 200)) wb0.heap.size ⟨s, 0, 0, 0, 0, 0, 0, 0, false⟩ := Blk.new _ _ _
    refine (old_any ⟨s, 0, 0, 0, 0, 0, 0, 0, false⟩ y wb0.heap.size _ hP1 hS (by omega) (by omega)).mono ?_
    rintro e wa1 ⟨rfl, hA1, hba1⟩
    have hwa1 : Below wb0.heap.size wb0 wa1 := ((Below.refl _ _).alloc (Nat.le_refl _) _).trans hba1
    obtain ⟨q1, hq1, ok1⟩ : ∃ q, q = Pt.old ⟨s, 0, 0, 0, 0, 0, 0, 0, false⟩ y ∧ Pt.Ok q := ⟨_, rfl, old_ok hS y hy.2⟩
    rw [← hq1] at hA1
    have M1 := moment_any q1 _ wa1 hA1 ok1
    generalize hm1 : Pt.moment q1 = r1 at M1
    have HG1 : Hid (Pt.moment (Pt.old ⟨s, 0, 0, 0, 0, 0, 0, 0, false⟩ y) = r1) := by show _ = _; rw [← hq1]; exact hm1
    obtain ⟨v1, m1⟩ := r1
    clear hm1 hq1 hA1 ok1
    dsimp only at M1
    go_wp2_with fail
    refine M1.mono ?_
    rintro e wb1 ⟨rfl, hbb1⟩
    have hwb1 : Below wb0.heap.size wb0 wb1 := Bl.tr hwa1 hbb1
    have hz2 : w.heap.size < wb1.heap.size := Nat.lt_of_lt_of_le hz1 hwb1.size
    have hw2 : Below w.heap.size w wb1 := Bl.tr hw1 (hwb1)
    have hF2 := hF1.on hwb1
    clear M1
    cases m1 with
    | true =>
      go_wp2
      go_ret2
      exact ⟨by rw [HP.out]; unfold parseY; rw [HG0.out, HG1.out]; rfl, hw2⟩
    | false =>
      have d2 : wb1.cell? ⟨w.heap.size, 2, none⟩ = some (.func (.func 180) #[] #[]) := hF2.cell 2
      go_wp2
      rw [rounds_succ]
      go_wp2_with fail
      have hP2 : PtAt (wb1.alloc (.cells (Pt.cells ⟨s, 0, 0, 0, 0, 0, 0, 0, false⟩) 200)) wb1.heap.size ⟨s, 0, 0, 0, 0, 0, 0, 0, false⟩ := Blk.new _ _ _
      refine (bare_any ⟨s, 0, 0, 0, 0, 0, 0, 0, false⟩ (y : Int) wb1.heap.size _ hP2 hS).mono ?_
      rintro e wa2 ⟨rfl, hA2, hba2⟩
      have hwa2 : Below wb1.heap.size wb1 wa2 := ((Below.refl _ _).alloc (Nat.le_refl _) _).trans hba2
      obtain ⟨q2, hq2, ok2⟩ : ∃ q, q = Pt.bare ⟨s, 0, 0, 0, 0, 0, 0, 0, false⟩ ∧ Pt.Ok q := ⟨_, rfl, bare_ok hS⟩
      rw [← hq2] at hA2
      have M2 := moment_any q2 _ wa2 hA2 ok2
      generalize hm2 : Pt.moment q2 = r2 at M2
      have HG2 : Hid (Pt.moment (Pt.bare ⟨s, 0, 0, 0, 0, 0, 0, 0, false⟩) = r2) := by show _ = _; rw [← hq2]; exact hm2
      obtain ⟨v2, m2⟩ := r2
      clear hm2 hq2 hA2 ok2
      dsimp only at M2
      go_wp2_with fail
      refine M2.mono ?_
      rintro e wb2 ⟨rfl, hbb2⟩
      have hwb2 : Below wb1.heap.size wb1 wb2 := Bl.tr hwa2 hbb2
      have hz3 : w.heap.size < wb2.heap.size := Nat.lt_of_lt_of_le hz2 hwb2.size
      have hw3 : Below w.heap.size w wb2 := Bl.tr hw2 (hwb2)
      have hF3 := hF2.on hwb2
      clear M2
      cases m2 with
      | true =>
        go_wp2
        go_ret2
        exact ⟨by rw [HP.out]; unfold parseY; rw [HG0.out, HG1.out, HG2.out]; rfl, hw3⟩
      | false =>
        go_wp2
        rw [rounds_succ]
        go_wp2
        go_ret2
        exact ⟨by rw [HP.out]; unfold parseY; rw [HG0.out, HG1.out, HG2.out]; rfl, hw3⟩
end Go.Proofs.YtahapblgmehngaaGreatDoor

