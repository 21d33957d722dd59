
/- The walk of layer 18's reference: an answer's age. -/
import Derived.Test.YtghggooaaefdcaaGreatDoorRf18
import Derived.Deep.DeepCutAuto
namespace Go.Dr
theorem app_date (l : List F) (came : Int) : (if 0 ≤ dateI l dateN came ∧ dateI l dateN came < (clampT came : Nat) then ((clampT came : Nat) : Int) - dateI l dateN came else 0) = (appF l came : Nat) := by
  unfold dateI appF
  cases momB l dateN came
  · simp
  · simp only [if_true]
    split <;> omega
theorem appF_le (l : List F) (came : Int) : appF l came ≤ 1099511627776 := by
  have := clampT_le came
  unfold appF; split <;> omega
theorem dateI_le (l : List F) (name : Bytes) (came : Int) (h : momV l name came ≤ 1000000000000) : -1 ≤ dateI l name came ∧ dateI l name came ≤ 1000000000000 := by
  unfold dateI; split <;> omega
theorem told_nil {l : List F} (h : values l ageN = []) : toldF l = 0 := by unfold toldF; rw [h]
theorem told_cons {l : List F} {x : Bytes} {r : List Bytes} (h : values l ageN = x :: r) : toldF l = if (number 10 x).2 = 11 then 1099511627776 else (number 10 x).1 := by unfold toldF; rw [h]; rfl
end Go.Dr
namespace Go.Proofs.YtghggooaaefdcaaGreatDoor
open Go.RowKit Go.Dr

set_option maxRecDepth 100000 in
set_option maxHeartbeats 4000000 in
theorem refAge_any (q : En) (l : List F) (now : Int) (w : World) (h : Fs w.heap.size w q.vf l) (hl : fsum l ≤ 1099511627776) :
    Calls Tryz.prog 17 #[q.val, .int .i64 now] w fun e w' => e = .returned (.int .i64 (ageF l q.asked q.came now : Nat)) ∧ Below w.heap.size w w' := by
  have hD := fun w h => refDate_any q l dateN w h hl (by decide)
  obtain ⟨pf, cf, hfv, -⟩ := h.form
  obtain ⟨key, vp, st, vf, body, asked, came⟩ := q
  simp only at hfv h hD ⊢
  subst hfv
  simp only [En.val] at hD ⊢
  have HA : Hid (ageF l asked came now = min 1099511627776 (max (appF l came) (toldF l + (clampT came - clampT asked)) + (clampT now - clampT came))) := rfl
  have HP := Lib.hid (app_date l came)
  have hv := dateI_le l dateN came (momV_le l dateN came hl)
  have ht := toldF_le l
  have hap := appF_le l came
  have k1 := clampT_le asked
  have k2 := clampT_le came
  have k3 := clampT_le now
  have HT1 := Lib.hid (fun h => told_nil (l := l) h)
  have HT2 := Lib.hid (fun x r h => told_cons (l := l) (x := x) (r := r) h)
  have hSS := ssum_values l ageN
  have C1 := Lib.hid (fun w => refTime_any asked w)
  have C2 := Lib.hid (fun w => refTime_any came w)
  have C3 := Lib.hid (fun w => refTime_any now w)
  have HD := Lib.hid hD
  generalize dateI l dateN came = D at *
  generalize toldF l = tl at *
  generalize ageF l asked came now = A at *
  generalize appF l came = ap at *
  generalize clampT asked = ca at *
  generalize clampT came = cc at *
  generalize clampT now = cn at *
  clear hD
  have hQ := Blk.new w 27 #[S key, vp, .int .i64 st, .slice pf l.length cf, S body, .int .i64 asked, .int .i64 came]
  have hbx : Below w.heap.size w (w.alloc (.cells #[S key, vp, .int .i64 st, .slice pf l.length cf, S body, .int .i64 asked, .int .i64 came] 27)) := (Below.refl _ _).alloc (Nat.le_refl _) _
  have h1 := (h.below hbx).mono hbx.size
  go_enter Tryz.func17, Tryz.ntmps17
  go_wp2_with fail
  refine (C1.out _).mono ?_
  rintro e w1 ⟨rfl, rfl⟩
  go_wp2_with fail
  refine (C2.out _).mono ?_
  rintro e w1 ⟨rfl, rfl⟩
  go_wp2_with fail
  refine (C3.out _).mono ?_
  rintro e w1 ⟨rfl, rfl⟩
  go_wp2_with fail
  generalize w.alloc (.cells #[S key, vp, .int .i64 st, .slice pf l.length cf, S body, .int .i64 asked, .int .i64 came] 27) = w0 at *
  refine (HD.out w0 h1).mono ?_
  rintro e w3 ⟨rfl, hb3⟩
  have h3 := (h1.below hb3).mono hb3.size
  have hQ3 := hQ.on hb3
  have hw3 := Bl.tr hbx hb3
  clear h1 hQ hbx hb3 HD C1 C2 C3 h
  go_upto_region 6 with fail
  go_cut [29] (fun s wx => s = .bool (decide (0 ≤ D ∧ D < (cc : Int))) ∧ w3 = wx)
  case first =>
    by_cases g1 : 0 ≤ D
    all_goals
      go_wp2
      go_meet
      exact ⟨congrArg Value.bool (by first | (simp [g1]; done) | (simp; intros; omega)), rfl⟩
  case rest =>
    obtain ⟨rfl, rfl⟩ := hcut
    go_upto_if 29 with fail
    go_cut [8] (fun s wx => s = .int .i64 (ap : Nat) ∧ w3 = wx)
    case first =>
      by_cases g1 : 0 ≤ D ∧ D < (cc : Int)
      · have HP1 : Hid ((cc : Int) - D = (ap : Nat)) := by show _ = _; rw [← HP.out, if_pos g1]
        have g2 : decide (0 ≤ D ∧ D < (cc : Int)) = true := by rw [decide_eq_true_iff]; exact g1
        rw [g2]
        clear g2
        go_wp2
        go_meet
        exact ⟨congrArg (Value.int .i64) HP1.out, rfl⟩
      · have HP1 : Hid ((0 : Int) = (ap : Nat)) := by show _ = _; rw [← HP.out, if_neg g1]
        have g2 : decide (0 ≤ D ∧ D < (cc : Int)) = false := by rw [decide_eq_false_iff_not]; exact g1
        rw [g2]
        clear g1 g2
        go_wp2
        go_meet
        exact ⟨congrArg (Value.int .i64) HP1.out, rfl⟩
    case rest =>
      obtain ⟨rfl, rfl⟩ := hcut
      clear HP hv
      have c3 : w3.cell? ⟨w.heap.size, 3, none⟩ = some (.slice pf l.length cf) := hQ3.cell 3
      go_wp2_with fail
      refine (refValues_any l ageN _ _ h3 hl (by decide)).mono ?_
      rintro e w4 ⟨vv, rfl, hvv, hb4⟩
      have hr : Ss w4.heap.size w4 vv (values l ageN) := Ss.own hvv
      generalize values l ageN = vs at *
      obtain ⟨pa, cp, rfl, hm⟩ := hr.form
      have hw4 := Bl.tr hw3 hb4
      clear hvv h3 hQ3 hb4 hw3 c3
      go_upto_if 38 with fail
      go_cut [9] (fun s wx => s = .int .i64 (tl : Nat) ∧ w4 = wx)
      case first =>
        match vs, hr, HT1, HT2, hm, hSS with
        | [], hr, HT1, HT2, hm, hSS =>
          have HX := Lib.hid (HT1.out rfl)
          go_wp2
          go_meet
          exact ⟨congrArg (Value.int .i64) (by rw [HX.out]; rfl), rfl⟩
        | x :: r, hr, HT1, HT2, hm, hSS =>
          obtain ⟨b, off, rfl, hbb, c0⟩ := hr.at 0 (by simp)
          simp at c0
          have hx : x.length ≤ maxLen := by simp [ssum] at hSS; unfold maxLen; omega
          have HX := Lib.hid (HT2.out x r rfl)
          have g : decide ((0 : Int) < ((x :: r).length : Int)) = true := by rw [decide_eq_true_iff]; simp
          have g2 : decide (0 < (x :: r).length) = true := by rw [decide_eq_true_iff]; simp
          have hn0 : 0 < (x :: r).length := by simp
          have CD := Lib.hid (fun w => refDecimal_any x w hx)
          have hle := number_le 10 x
          unfold greatest at hle
          clear hSS HT1 HT2
          generalize (x :: r).length = n at *
          generalize number 10 x = nr at *
          go_wp2_with fail
          refine (CD.out _).mono ?_
          rintro e w' ⟨rfl, rfl⟩
          by_cases h11 : nr.2 = 11
          · have g3 : ((nr.2 : Int) == 11) = true := by rw [h11]; rfl
            have HX : Hid (tl = 1099511627776) := by show _ = _; rw [HX.out, if_pos h11]
            clear h11
            go_wp2
            go_meet
            exact ⟨congrArg (Value.int .i64) (by rw [HX.out]; rfl), rfl⟩
          · have g3 : ((nr.2 : Int) == 11) = false := by rw [beq_eq_false_iff_ne]; omega
            have HX : Hid (tl = nr.1) := by show _ = _; rw [HX.out, if_neg h11]
            clear h11
            go_wp2
            go_meet
            exact ⟨congrArg (Value.int .i64) (by rw [HX.out]), rfl⟩
      case rest =>
        obtain ⟨rfl, rfl⟩ := hcut
        clear HT1 HT2 hSS hr
        go_upto_if 51 with fail
        go_cut [9] (fun s wx => s = .int .i64 ((tl + (cc - ca) : Nat)) ∧ w4 = wx)
        case first =>
          by_cases g1 : ca < cc
          all_goals
            go_wp2
            go_meet
            exact ⟨congrArg (Value.int .i64) (by omega), rfl⟩
        case rest =>
          obtain ⟨rfl, rfl⟩ := hcut
          obtain ⟨s1, hs1⟩ : ∃ s1 : Nat, s1 = tl + (cc - ca) := ⟨_, rfl⟩
          rw [← hs1]
          have hs1b : s1 ≤ 2199023255552 := by omega
          have HS1 := Lib.hid hs1
          clear hs1
          go_upto_if 59 with fail
          go_cut [8] (fun s wx => s = .int .i64 ((max ap s1 : Nat)) ∧ w4 = wx)
          case first =>
            by_cases g1 : ap < s1
            all_goals
              go_wp2
              go_meet
              exact ⟨congrArg (Value.int .i64) (by omega), rfl⟩
          case rest =>
            obtain ⟨rfl, rfl⟩ := hcut
            obtain ⟨s2, hs2⟩ : ∃ s2 : Nat, s2 = max ap s1 := ⟨_, rfl⟩
            rw [← hs2]
            have hs2b : s2 ≤ 2199023255552 := by omega
            have HS2 := Lib.hid hs2
            clear hs2
            go_upto_if 63 with fail
            go_cut [8] (fun s wx => s = .int .i64 ((s2 + (cn - cc) : Nat)) ∧ w4 = wx)
            case first =>
              by_cases g1 : cc < cn
              all_goals
                go_wp2
                go_meet
                exact ⟨congrArg (Value.int .i64) (by omega), rfl⟩
            case rest =>
              obtain ⟨rfl, rfl⟩ := hcut
              obtain ⟨s3, hs3⟩ : ∃ s3 : Nat, s3 = s2 + (cn - cc) := ⟨_, rfl⟩
              rw [← hs3]
              have HAx : Hid (A = min 1099511627776 s3) := by show _ = _; rw [HA.out, hs3, HS2.out, HS1.out]
              have hs3b : s3 ≤ 4398046511104 := by omega
              clear hs3 HA HS1 HS2
              by_cases g1 : 1099511627776 < s3
              · have g2 : decide ((1099511627776 : Int) < (s3 : Int)) = true := by rw [decide_eq_true_iff]; omega
                have HAx : Hid ((1099511627776 : Int) = (A : Nat)) := by show _ = _; rw [HAx.out]; omega
                clear g1
                go_wp2
                go_ret
                exact ⟨ret_int HAx.out, hw4⟩
              · have g2 : decide ((1099511627776 : Int) < (s3 : Int)) = false := by rw [decide_eq_false_iff_not]; omega
                have HAx : Hid ((s3 : Int) = (A : Nat)) := by show _ = _; rw [HAx.out]; omega
                clear g1
                go_wp2
                go_ret
                exact ⟨ret_int HAx.out, hw4⟩
end Go.Proofs.YtghggooaaefdcaaGreatDoor
