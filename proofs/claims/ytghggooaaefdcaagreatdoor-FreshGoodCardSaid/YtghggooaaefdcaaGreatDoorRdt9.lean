
/- The walk of the reference's dates: a text's moment. -/
import Derived.Test.YtghggooaaefdcaaGreatDoorRdt8
import Derived.Test.YtghggooaaefdcaaGreatDoorRdt6
import Derived.Test.YtghggooaaefdcaaGreatDoorRdt4
import Derived.Test.YtghggooaaefdcaaGreatDoorRdt2
import Derived.Test.YtghggooaaefdcaaGreatDoorDat8
namespace Go.Dr
theorem IsDt.year_of {v : Nat} {x : Dt} (h : IsDt v x) : x.year = yearOf (v / 86400) := by
  obtain ⟨x1, x2, x3, x4, x5, x6, x7, x8, x9⟩ := h
  have hd : v / 86400 = x.days := by rw [x9]; unfold Dt.at; omega
  have h1 := aheadM_mono x.year (x.month + 1) (12 - (x.month + 1))
  rw [show x.month + 1 + (12 - (x.month + 1)) = 12 by omega, aheadM_12] at h1
  have h2 := begY_step x.year x1
  have h3 : aheadM x.year (x.month + 1) = aheadM x.year x.month + mLen x.year x.month := rfl
  rw [hd]
  refine yearOf_eq x.days x.year x1 ?_ ?_
  · unfold Dt.days dayOf; omega
  · unfold Dt.days dayOf; omega
theorem refY_hit (s : Bytes) (y k : Nat) (hk : k < 3) (hj : ∀ j, j < k → (refF s j y).2 = false) (h : (refF s k y).2 = true) : refY s y = ((refF s k y).1, 0) := by
  unfold refY
  match k, hk with
  | 0, _ => rw [if_pos h]
  | 1, _ => rw [if_neg (by rw [hj 0 (by omega)]; simp), if_pos h]
  | 2, _ => rw [if_neg (by rw [hj 0 (by omega)]; simp), if_neg (by rw [hj 1 (by omega)]; simp), if_pos h]
theorem refY_none (s : Bytes) (y : Nat) (hj : ∀ j, j < 3 → (refF s j y).2 = false) : refY s y = (0, 10) := by
  unfold refY
  rw [if_neg (by rw [hj 0 (by omega)]; simp), if_neg (by rw [hj 1 (by omega)]; simp), if_neg (by rw [hj 2 (by omega)]; simp)]
theorem not_yet {P : Nat → Prop} {k : Nat} (h : ∀ j, j < k → P j) (hk : P k) : ∀ j, j < k + 1 → P j := fun j hj => by
  by_cases e : j = k
  · subst e; exact hk
  · exact h j (by omega)
theorem refF_no {s : Bytes} {k y : Nat} (h : rightG (guessF s k y) = false) : (refF s k y).2 = false := by unfold refF; rw [if_neg (by rw [h]; simp)]
theorem refF_yes {s : Bytes} {k y : Nat} (h : rightG (guessF s k y) = true) (b : Bool) (hb : ((guessF s k y).dt.text k == s) = b) : refF s k y = ((guessF s k y).dt.at, b) := by
  unfold refF; rw [if_pos h]
  congr 1
  rw [← hb, Bool.eq_iff_iff]; simp
end Go.Dr
namespace Go.Proofs.YtghggooaaefdcaaGreatDoor
open Go.RowKit Go.Dr

theorem run_year (y : Int) (a1 a2 a3 a4 a5 a6 : Value) (w : World) : (Instr.field 106 (.agg #[.int .i64 y, a1, a2, a3, a4, a5, a6]) 0).run Tryz.prog w = .ok (.int .i64 y) w := by kernel_rfl
theorem texts_any (x : Dt) (hx : x.Right) (w : World) : Calls Tryz.prog 98 #[x.val] w (RetSs 9 w [x.text 0, x.text 1, x.text 2]) := by
  obtain ⟨s1, s2, s3, s4, s5, s6, s7⟩ := hx.small
  have hl : (longF x.week).take 3 = dayF x.week := by
    match hw : x.week, s7 with
    | 0, _ | 1, _ | 2, _ | 3, _ | 4, _ | 5, _ | 6, _ => rfl
  refine texts_raw x.year x.month x.day x.hour x.min x.sec x.week (by have := hx.1; omega) s1 s2 s3 s4 s5 s6 s7 _ rfl _ rfl _ _ _ ?_ ?_ ?_ w
  · rw [padF_2 _ s3, padF_2 _ s4, padF_2 _ s5, padF_2 _ s6, padF_4 _ (by have := hx.1; omega) s1]
    simp only [Dt.text, Dt.clockT, commaT, gmtT, List.append_assoc, hl]
  · rw [padF_2 _ s3, padF_2 _ s4, padF_2 _ s5, padF_2 _ s6, padF_2 (x.year % 100) (by omega)]
    simp only [Dt.text, Dt.clockT, commaT, gmtT, List.append_assoc]
  · rw [padF_2 _ s3, padF_2 _ s4, padF_2 _ s5, padF_2 _ s6, padF_4 _ (by have := hx.1; omega) s1]
    have e : (if x.day < 10 then [32] ++ (pad2 x.day).drop 1 else pad2 x.day) = lowDay x.day := by unfold lowDay pad2; split <;> rfl
    rw [e]
    simp only [Dt.text, Dt.clockT, List.append_assoc, hl]

theorem refAt_g (g : Gs) (h : rightG g = true) (hm : g.month ≤ 12) (w : World) : Calls Tryz.prog 97 #[.agg #[.int .i64 g.year, .int .i64 (g.month : Nat), .int .i64 g.day, .int .i64 g.hour, .int .i64 g.min, .int .i64 g.sec, .int .i64 0]] w fun e w' => e = .returned (.int .i64 (g.dt.at : Nat)) ∧ Below w.heap.size w w' := by
  obtain ⟨hR, hg⟩ := rightG_dt h hm
  generalize g.dt = d at *
  subst hg
  obtain ⟨r1, r2, r3, r4, r5, r6, r7, r8, r9⟩ := hR
  have := mLen_le d.year d.month
  have e := refAt_any d.year d.month d.day d.hour d.min d.sec 0 w r1 r2 r3 r4 (by omega) r6 r7 r8
  have hm1 : ((d.gs.month : Nat) : Int) = (d.month : Int) + 1 := by show (((d.month + 1 : Nat)) : Int) = _; omega
  rw [hm1]
  exact e
theorem refOf_year (c : Nat) (hc : c ≤ 253402300799) (y : Nat) (hy : yearOf (c / 86400) = y) (w : World) : Calls Tryz.prog 95 #[.int .i64 c] w fun e w' => ∃ x : Dt, x.year = y ∧ e = .returned x.val ∧ Below w.heap.size w w' :=
  (refOf_any c w (by omega)).mono fun _ _ ⟨x, h1, h2, h3⟩ => ⟨x, by rw [← hy]; exact h1.year_of, h2, h3⟩
theorem refOf_dt (d : Dt) (hd : d.Right) (w : World) : Calls Tryz.prog 95 #[.int .i64 (d.at : Nat)] w fun e w' => e = .returned d.val ∧ Below w.heap.size w w' := by
  have hb : d.at ≤ 900000000000 := by
    have := dayOf_le d.year d.month d.day hd.1 (by have := hd.2.1; omega) hd.2.2.1 (by have := hd.2.2.2.2.1; have := mLen_le d.year d.month; omega)
    obtain ⟨r1, r2, r3, r4, r5, r6, r7, r8, r9⟩ := hd
    unfold Dt.at Dt.days; omega
  refine (refOf_any d.at w hb).mono ?_
  rintro e w' ⟨x, h1, rfl, h3⟩
  exact ⟨by rw [IsDt.unique h1 hd.is], h3⟩

set_option maxRecDepth 100000 in
set_option maxHeartbeats 4000000 in
theorem refParse_any (s : Bytes) (now : Int) (w : World) (hs : s.length ≤ 1099511627776) : Calls Tryz.prog 68 #[S s, .int .i64 now] w fun e w' => e = .returned (.tuple #[.int .i64 ((parseF s now).1 : Nat), .int .i64 ((parseF s now).2 : Nat)]) ∧ Below w.heap.size w w' := by
  have hy := yearOf_clamp now
  have hc := clampD_le now
  have HP : Hid (parseF s now = refY s (yearOf (clampD now / 86400))) := Lib.hid (by rw [refY_eq _ _ hy.1 hy.2]; rfl)
  have hcl : (now < 0 ∧ clampD now = 0) ∨ (253402300799 < now ∧ clampD now = 253402300799) ∨ (0 ≤ now ∧ now ≤ 253402300799 ∧ now = (clampD now : Nat)) := by unfold clampD; omega
  have O := fun w => refOf_year (clampD now) hc _ rfl w
  generalize yearOf (clampD now / 86400) = y at *
  generalize clampD now = c at *
  generalize parseF s now = r at *
  rcases hcl with ⟨h0, rfl⟩ | ⟨h0, rfl⟩ | ⟨h0, h1, rfl⟩
  case' inl =>
    have O : Hid (∀ w, Calls Tryz.prog 95 #[.int .i64 0] w fun e w' => ∃ x : Dt, x.year = y ∧ e = .returned x.val ∧ Below w.heap.size w w') := O
  case' inr.inl =>
    have h1 : ¬ now < 0 := by omega
    have O : Hid (∀ w, Calls Tryz.prog 95 #[.int .i64 253402300799] w fun e w' => ∃ x : Dt, x.year = y ∧ e = .returned x.val ∧ Below w.heap.size w w') := O
  case' inr.inr =>
    have O := Lib.hid O
  all_goals
    go_enter Tryz.func68, Tryz.ntmps68
    go_wp2_with fail
    go_loopw [6] (fun i wr => ∃ k : Nat, i = .int .i64 k ∧ k ≤ 3 ∧ (∀ j, j < k → (refF s j y).2 = false) ∧ Below w.heap.size w wr) (fun i _ => 3 - (intOf i).toNat)
    case atStart => exact ⟨0, rfl, by omega, fun j hj => by omega, Below.refl _ _⟩
    case round =>
      obtain ⟨k, rfl, hk, hj, hbel⟩ := hrel
      have HJ := Lib.hid hj
      clear hj
      by_cases hlt : k < 3
      · obtain ⟨wo, rfl⟩ : ∃ wo : World, wo = wr := ⟨_, rfl⟩
        go_wp2_with fail
        refine (O.out _).mono ?_
        rintro e w1 ⟨x, hx, rfl, hb1⟩
        obtain ⟨yy, mo, dd, hh, mi, ss, wk⟩ := x
        obtain rfl : y = yy := hx.symm
        simp only [Dt.val]
        have hw1 := Bl.on hbel hbel.size hb1
        have hfd : ∀ w' : World, (Instr.field 106 (.agg #[.int .i64 (y : Int), .int .i64 ((mo : Int) + 1), .int .i64 dd, .int .i64 hh, .int .i64 mi, .int .i64 ss, .int .i64 wk]) 0).run Tryz.prog w' = .ok (.int .i64 (y : Int)) w' := fun w' => run_year _ _ _ _ _ _ _ w'
        go_wp2_with fail
        clear hfd
        refine (guess_any s k y hlt _ hs (by omega)).mono ?_
        rintro e w2 ⟨rfl, hb2⟩
        have hw2 := Bl.tr hw1 hb2
        have hgm := guess_month s k y
        have HN := Lib.hid (fun h => refF_no (s := s) (k := k) (y := y) h)
        have HY := Lib.hid (fun h b hb => refF_yes (s := s) (k := k) (y := y) h b hb)
        generalize guessF s k y = g at *
        have hX := Blk.new w2 106 #[.int .i64 g.year, .int .i64 (g.month : Nat), .int .i64 g.day, .int .i64 g.hour, .int .i64 g.min, .int .i64 g.sec, .int .i64 0]
        have hw3 := hw2.alloc hw2.size (.cells #[.int .i64 g.year, .int .i64 (g.month : Nat), .int .i64 g.day, .int .i64 g.hour, .int .i64 g.min, .int .i64 g.sec, .int .i64 0] 106)
        go_wp2_with fail
        generalize w2.alloc (.cells #[.int .i64 g.year, .int .i64 (g.month : Nat), .int .i64 g.day, .int .i64 g.hour, .int .i64 g.min, .int .i64 g.sec, .int .i64 0] 106) = w3 at *
        refine (right_any g hgm _).mono ?_
        rintro e w4 ⟨rfl, hb4⟩
        have hw4 := Bl.tr hw3 hb4
        have hX4 := hX.on hb4
        clear hw1 hw2 hw3 hX hb1 hb2 hb4
        cases hr : rightG g with
        | false =>
          have HN := Lib.hid (HN.out hr)
          clear hr
          go_wp2
          go_roundw
          case rel => exact ⟨k + 1, by go_num, by omega, not_yet HJ.out HN.out, hw4⟩
          case measure => simp [intOf]; omega
        | true =>
          have HA := Lib.hid (fun w => refAt_g g hr hgm w)
          have HD := Lib.hid (rightG_dt hr hgm).1
          have HY := Lib.hid (HY.out hr)
          clear hr HN
          (have x0 : w4.cell? ⟨w2.heap.size, 0, none⟩ = some (.int .i64 g.year) := hX4.cell 0; have x1 : w4.cell? ⟨w2.heap.size, 1, none⟩ = some (.int .i64 (g.month : Nat)) := hX4.cell 1; have x2 : w4.cell? ⟨w2.heap.size, 2, none⟩ = some (.int .i64 g.day) := hX4.cell 2; have x3 : w4.cell? ⟨w2.heap.size, 3, none⟩ = some (.int .i64 g.hour) := hX4.cell 3; have x4 : w4.cell? ⟨w2.heap.size, 4, none⟩ = some (.int .i64 g.min) := hX4.cell 4; have x5 : w4.cell? ⟨w2.heap.size, 5, none⟩ = some (.int .i64 g.sec) := hX4.cell 5; have x6 : w4.cell? ⟨w2.heap.size, 6, none⟩ = some (.int .i64 0) := hX4.cell 6)
          go_wp2_with fail
          refine (HA.out _).mono ?_
          rintro e w5 ⟨rfl, hb5⟩
          have hw5 := Bl.tr hw4 hb5
          generalize g.dt = d at *
          clear x0 x1 x2 x3 x4 x5 x6 hX4 hw4 hb5 HA
          go_wp2_with fail
          refine (refOf_dt d HD.out _).mono ?_
          rintro e w6 ⟨rfl, hb6⟩
          have hw6 := Bl.tr hw5 hb6
          go_wp2_with fail
          refine (texts_any d HD.out _).mono ?_
          rintro e w7 ⟨v7, rfl, ho7, hb7⟩
          have hw7 := Bl.tr hw6 hb7
          have r7 : Ss w7.heap.size w7 v7 [d.text 0, d.text 1, d.text 2] := Ss.own ho7
          obtain ⟨p7, c7, rfl, -⟩ := r7.form
          have hgt : [d.text 0, d.text 1, d.text 2][k]? = some (d.text k) := by
            match k, hlt with
            | 0, _ => rfl
            | 1, _ => rfl
            | 2, _ => rfl
          obtain ⟨b7, o7, rfl, hl7, t7⟩ := r7.get k _ hgt
          have hlk : k < [d.text 0, d.text 1, d.text 2].length := hlt
          clear hw5 hw6 hb6 hb7 ho7 r7 hgt
          generalize [d.text 0, d.text 1, d.text 2].length = n3 at *
          generalize hT : d.text k = T at *
          cases hq : (T == s) with
          | true =>
            have HR := Lib.hid (refY_hit s y k hlt HJ.out (by rw [HY.out true hq]))
            have HV := Lib.hid (HY.out true hq)
            clear hT
            go_wp2
            go_ret2
            exact ⟨by rw [HP.out, HR.out, HV.out]; rfl, hw7⟩
          | false =>
            have HV := Lib.hid (HY.out false hq)
            clear hT
            go_wp2
            go_roundw
            case rel => exact ⟨k + 1, by go_num, by omega, not_yet HJ.out (by rw [HV.out]), hw7⟩
            case measure => simp [intOf]; omega
      · have HR := Lib.hid (refY_none s y (fun j hj => HJ.out j (by omega)))
        go_wp2
        go_ret2
        exact ⟨by rw [HP.out, HR.out]; rfl, hbel⟩
end Go.Proofs.YtghggooaaefdcaaGreatDoor
