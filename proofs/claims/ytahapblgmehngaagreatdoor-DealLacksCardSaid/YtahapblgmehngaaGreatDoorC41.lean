/- Parts of the proof of DealLacks_holds: the texts Rf18e. -/
import Derived.Test.YtahapblgmehngaaGreatDoorC20
import Derived.Test.YtahapblgmehngaaGreatDoorC39
set_option linter.unusedSimpArgs false
set_option linter.unusedVariables false
set_option linter.unnecessarySimpa false
namespace Go.Dr
theorem and6 (r1 r2 r3 r4 r5 r6 : Bool) (h : (r1 && r2 && r3 && r5) = false) : (r1 && r2 && r3 && r4 && r5 && r6) = false := by
  revert h; cases r1 <;> cases r2 <;> cases r3 <;> cases r4 <;> cases r5 <;> cases r6 <;> simp
theorem and6t (r1 r2 r3 r4 r5 r6 : Bool) (h : (r1 && r2 && r3 && r5) = true) : (r1 && r2 && r3 && r4 && r5 && r6) = (r4 && r6) := by
  revert h; cases r1 <;> cases r2 <;> cases r3 <;> cases r4 <;> cases r5 <;> cases r6 <;> simp
end Go.Dr
namespace Go.Proofs.YtahapblgmehngaaGreatDoor
open Go.RowKit Go.Dr

set_option maxRecDepth 100000 in
set_option maxHeartbeats 16000000 in
theorem refStorable_any (r : Rq) (st : Int) (v : Value) (lr lf : List F) (w : World) (hr : Fs w.heap.size w r.v lr) (hf : Fs w.heap.size w v lf) (hl : fsum lr ≤ 1099511627776) (hl2 : fsum lf ≤ 1099511627776) :
    Calls Tryz.prog 61 #[r.val, .int .i64 st, v] w fun e w' => e = .returned (.bool (storF r.m st lr lf)) ∧ Below w.heap.size w w' := by
  obtain ⟨pr, cr, hrv, -⟩ := hr.form
  obtain ⟨pf, cf, rfl, -⟩ := hf.form
  obtain ⟨rm, rs, ra, rp, rv⟩ := r
  simp only at hrv hr
  subst hrv
  simp only [Rq.val]
  have HR := Lib.hid (fun w h => refRead_any lf (.slice pf lf.length cf) w h hl2)
  have HS := Lib.hid (fun w h => refRead_any lr (.slice pr lr.length cr) w h hl)
  have HN := Lib.hid (fun w h => refNames_any lf (.slice pf lf.length cf) w h hl2)
  have HXa := Lib.hid (fun w h => refHas_any lr authT (.slice pr lr.length cr) w h hl (by decide))
  have HXe := Lib.hid (fun w h => refHas_any lf expiresN (.slice pf lf.length cf) w h hl2 (by decide))
  have HXt := Lib.hid (fun w h => refHas_any lf etagT (.slice pf lf.length cf) w h hl2 (by decide))
  have HXl := Lib.hid (fun w h => refHas_any lf lastN (.slice pf lf.length cf) w h hl2 (by decide))
  have HKn := Lib.hid (fun w => refKnown_any st w)
  have E3 : Hid (ask3 (readC lr) (readC lf) = (!(readC lr).ns && !(readC lf).ns && !(readC lf).pr)) := rfl
  have E4 : Hid (ask4 lr (readC lf) = (!hasB lr authT || (readC lf).mr || (readC lf).pu || decide (0 ≤ (readC lf).sm))) := rfl
  have E5 : Hid (ask5 lf = !starred (namesOf lf)) := rfl
  have E6 : Hid (ask6 (toldB18 (readC lf) lf) st lf = (toldB18 (readC lf) lf || knownB st && (hasB lf etagT || hasB lf lastN))) := rfl
  have E2 : Hid (ask2 st = (decide (200 ≤ st) && decide (st ≤ 599) && !(st == 206) && !(st == 304))) := rfl
  have ET : Hid (toldB18 (readC lf) lf = (decide (0 ≤ (readC lf).ma) || decide (0 ≤ (readC lf).sm) || (readC lf).pu || hasB lf expiresN)) := rfl
  have HG : Hid (storF rm st lr lf = ((rm == [71, 69, 84]) && ask2 st && ask3 (readC lr) (readC lf) && ask4 lr (readC lf) && ask5 lf && ask6 (toldB18 (readC lf) lf) st lf)) := rfl
  have E1 : ∃ r1 : Bool, Hid (r1 = (rm == [71, 69, 84])) := ⟨_, rfl⟩
  obtain ⟨r1, E1⟩ := E1
  rw [← E1.out] at HG
  generalize storF rm st lr lf = G at *
  generalize ask6 (toldB18 (readC lf) lf) st lf = r6 at *
  generalize toldB18 (readC lf) lf = told at *
  generalize ask5 lf = r5 at *
  generalize ask4 lr (readC lf) = r4 at *
  generalize ask3 (readC lr) (readC lf) = r3 at *
  generalize ask2 st = r2 at *
  generalize readC lr = a at *
  generalize readC lf = b at *
  generalize hasB lr authT = ha at *
  generalize hasB lf expiresN = he at *
  generalize hasB lf etagT = ht at *
  generalize hasB lf lastN = hla at *
  generalize knownB st = kn at *
  obtain ⟨w0, ew⟩ : ∃ w0 : World, w0 = w.alloc (.cells #[S rm, S rs, S ra, S rp, .slice pr lr.length cr] 28) := ⟨_, rfl⟩
  have hQ0 : Blk w0 w.heap.size 28 #[S rm, S rs, S ra, S rp, .slice pr lr.length cr] := by rw [ew]; exact Blk.new _ _ _
  have hb0 : Below w.heap.size w w0 := by rw [ew]; exact (Below.refl _ _).alloc (Nat.le_refl _) _
  have hr0 := (hr.below hb0).mono hb0.size
  have hf0 := (hf.below hb0).mono hb0.size
  go_enter Tryz.func61, Tryz.ntmps61
  go_wp2_with fail
  rw [← ew]
  clear ew hr hf
  refine (HS.out w0 hr0).mono ?_
  rintro e w1 ⟨rfl, hb1⟩
  have hal1 : Below w1.heap.size w1 (w1.alloc (.cells a.cells 80)) := (Below.refl _ _).alloc (Nat.le_refl _) _
  have hA2 := Blk.new w1 80 a.cells
  have hQ2 := (hQ0.on hb1).on hal1
  have hr2 := (((hr0.below hb1).mono hb1.size).below hal1).mono hal1.size
  have hf2 := (((hf0.below hb1).mono hb1.size).below hal1).mono hal1.size
  have hw2 := Bl.tr (Bl.tr hb0 hb1) hal1
  clear hQ0 hr0 hf0 hb0 hb1 HS
  go_wp2_with fail
  change Calls _ _ _ (w1.alloc (.cells a.cells 80)) _
  clear hal1
  generalize w1.alloc (.cells a.cells 80) = w2 at *
  generalize w1.heap.size = b7 at *
  refine (HR.out w2 hf2).mono ?_
  rintro e w3 ⟨rfl, hb3⟩
  have hal3 : Below w3.heap.size w3 (w3.alloc (.cells b.cells 80)) := (Below.refl _ _).alloc (Nat.le_refl _) _
  have hB4 := Blk.new w3 80 b.cells
  have hA4 := (hA2.on hb3).on hal3
  have hQ4 := (hQ2.on hb3).on hal3
  have hr4 := (((hr2.below hb3).mono hb3.size).below hal3).mono hal3.size
  have hf4 := (((hf2.below hb3).mono hb3.size).below hal3).mono hal3.size
  have hw4 := Bl.tr (Bl.tr hw2 hb3) hal3
  clear hA2 hQ2 hr2 hf2 hw2 hb3 HR
  go_wp2_with fail
  change Calls _ _ _ (w3.alloc (.cells b.cells 80)) _
  clear hal3
  generalize w3.alloc (.cells b.cells 80) = w4 at *
  generalize w3.heap.size = b8 at *
  refine (HN.out w4 hf4).mono ?_
  rintro e w5 ⟨vn, rfl, hvn, hb5⟩
  have hA5 := hA4.on hb5
  have hB5 := hB4.on hb5
  have hQ5 := hQ4.on hb5
  have hr5 := (hr4.below hb5).mono hb5.size
  have hf5 := (hf4.below hb5).mono hb5.size
  have hw5 := Bl.tr hw4 hb5
  clear hA4 hB4 hQ4 hr4 hf4 hw4 hb5 hvn HN
  generalize starred (namesOf lf) = nb at *
  obtain ⟨ans, anc, ant, apu, apr, amr, apx, aoi, ama, asm', amf, ams⟩ := a
  obtain ⟨bns, bnc, bnt, bpu, bpr, bmr, bpx, boi, bma, bsm, bmf, bms⟩ := b
  simp only at E3 E4 ET
  have x0 : w5.cell? ⟨b7, 0, none⟩ = some (.bool ans) := hA5.cell 0
  have z0 : w5.cell? ⟨b8, 0, none⟩ = some (.bool bns) := hB5.cell 0
  have z4 : w5.cell? ⟨b8, 4, none⟩ = some (.bool bpr) := hB5.cell 4
  have q0 : w5.cell? ⟨w.heap.size, 0, none⟩ = some (S rm) := hQ5.cell 0
  go_upto_region 4 with fail
  go_cut [54] (fun s wx => s = .bool (!(r1 && r2 && r3 && r5)) ∧ w5 = wx)
  case first =>
    cases h1 : (rm == [71, 69, 84]) with
    | false => (go_wp2; go_meet; exact ⟨congrArg Value.bool (by rw [E1.out, E2.out, E3.out, E5.out]; simp [*]), rfl⟩)
    | true =>
    by_cases c1 : (200 : Int) ≤ st
    · have g1 : decide (st < 200) = false := by rw [decide_eq_false_iff_not]; omega
      by_cases c2 : st ≤ 599
      · have g2 : decide ((599 : Int) < st) = false := by rw [decide_eq_false_iff_not]; omega
        cases c3 : (st == 206) with
        | true => (go_wp2; go_meet; exact ⟨congrArg Value.bool (by rw [E1.out, E2.out, E3.out, E5.out]; simp [*]), rfl⟩)
        | false =>
        cases c4 : (st == 304) with
        | true => (go_wp2; go_meet; exact ⟨congrArg Value.bool (by rw [E1.out, E2.out, E3.out, E5.out]; simp [*]), rfl⟩)
        | false =>
        cases ans with
        | true => (go_wp2; go_meet; exact ⟨congrArg Value.bool (by rw [E1.out, E2.out, E3.out, E5.out]; simp [*]), rfl⟩)
        | false =>
        cases bns with
        | true => (go_wp2; go_meet; exact ⟨congrArg Value.bool (by rw [E1.out, E2.out, E3.out, E5.out]; simp [*]), rfl⟩)
        | false =>
        cases bpr with
        | true => (go_wp2; go_meet; exact ⟨congrArg Value.bool (by rw [E1.out, E2.out, E3.out, E5.out]; simp [*]), rfl⟩)
        | false => (go_wp2; go_meet; exact ⟨congrArg Value.bool (by rw [E1.out, E2.out, E3.out, E5.out]; simp [*]), rfl⟩)
      · have g2 : decide ((599 : Int) < st) = true := by rw [decide_eq_true_iff]; omega
        (go_wp2; go_meet; exact ⟨congrArg Value.bool (by rw [E1.out, E2.out, E3.out, E5.out]; simp [*]), rfl⟩)
    · have g1 : decide (st < 200) = true := by rw [decide_eq_true_iff]; omega
      (go_wp2; go_meet; exact ⟨congrArg Value.bool (by rw [E1.out, E2.out, E3.out, E5.out]; simp [*]), rfl⟩)
  case rest =>
    obtain ⟨rfl, rfl⟩ := hcut
    clear x0 z0 z4 q0
    cases hall : (r1 && r2 && r3 && r5) with
    | false =>
      have HF : Hid (G = false) := by show _ = _; rw [HG.out]; exact and6 _ _ _ _ _ _ hall
      clear hall
      go_wp2
      go_ret
      exact ⟨ret_bool HF.out.symm, hw5⟩
    | true =>
    have HF : Hid (G = (r4 && r6)) := by show _ = _; rw [HG.out]; exact and6t _ _ _ _ _ _ hall
    clear hall HG E1 E2 E3 E5
    have q4 : w5.cell? ⟨w.heap.size, 4, none⟩ = some (.slice pr lr.length cr) := hQ5.cell 4
    go_upto_region 6 with fail
    go_cut [72] (fun s wx => s = .bool (!r4) ∧ Below w5.heap.size w5 wx)
    case first =>
      go_wp2_with fail
      refine (HXa.out w5 hr5).mono ?_
      rintro e w6 ⟨rfl, hb6⟩
      have hB6 := hB5.on hb6
      have z5 : w6.cell? ⟨b8, 5, none⟩ = some (.bool bmr) := hB6.cell 5
      have z3 : w6.cell? ⟨b8, 3, none⟩ = some (.bool bpu) := hB6.cell 3
      have z9 : w6.cell? ⟨b8, 9, none⟩ = some (.int .i64 bsm) := hB6.cell 9
      clear q4 hQ5 hA5 hB5 hr5 hf5 hB6
      by_cases h9 : 0 ≤ bsm
      · have g9 : decide (bsm < 0) = false := by rw [decide_eq_false_iff_not]; omega
        cases ha <;> cases bmr <;> cases bpu
        all_goals (go_wp2; go_meet; exact ⟨congrArg Value.bool (by rw [E4.out]; simp [h9]), hb6⟩)
      · have g9 : decide (bsm < 0) = true := by rw [decide_eq_true_iff]; omega
        cases ha <;> cases bmr <;> cases bpu
        all_goals (go_wp2; go_meet; exact ⟨congrArg Value.bool (by rw [E4.out]; simp [h9]), hb6⟩)
    case rest =>
      obtain ⟨rfl, hb6⟩ := hcut
      obtain ⟨w6, rfl⟩ : ∃ w6 : World, w6 = wc := ⟨_, rfl⟩
      have hw6 := Bl.tr hw5 hb6
      have hB6 := hB5.on hb6
      have hf6 := (hf5.below hb6).mono hb6.size
      clear q4 hQ5 hA5 hB5 hr5 hf5 hw5 hb6 HXa E4
      cases r4 with
      | false =>
        go_wp2
        go_ret
        exact ⟨ret_bool (by rw [HF.out]; rfl), hw6⟩
      | true =>
      have z8 : w6.cell? ⟨b8, 8, none⟩ = some (.int .i64 bma) := hB6.cell 8
      have z3 : w6.cell? ⟨b8, 3, none⟩ = some (.bool bpu) := hB6.cell 3
      have z9 : w6.cell? ⟨b8, 9, none⟩ = some (.int .i64 bsm) := hB6.cell 9
      go_upto_region 8 with fail
      go_cut [88] (fun s wx => s = .bool told ∧ Below w6.heap.size w6 wx)
      case first =>
        by_cases h8 : 0 ≤ bma
        · (go_wp2; go_meet; exact ⟨congrArg Value.bool (by rw [ET.out]; simp [*]), Below.refl _ _⟩)
        · by_cases h9 : 0 ≤ bsm
          · (go_wp2; go_meet; exact ⟨congrArg Value.bool (by rw [ET.out]; simp [*]), Below.refl _ _⟩)
          · cases bpu with
            | true => (go_wp2; go_meet; exact ⟨congrArg Value.bool (by rw [ET.out]; simp [*]), Below.refl _ _⟩)
            | false =>
              have HE8 : Hid (told = he) := by show _ = _; rw [ET.out]; simp [h8, h9]
              go_wp2_with fail
              refine (HXe.out w6 hf6).mono ?_
              rintro e w7 ⟨rfl, hb7⟩
              go_wp2
              go_meet
              exact ⟨congrArg Value.bool HE8.out.symm, hb7⟩
      case rest =>
        obtain ⟨rfl, hb7⟩ := hcut
        obtain ⟨w7, rfl⟩ : ∃ w7 : World, w7 = wc := ⟨_, rfl⟩
        have hw7 := Bl.tr hw6 hb7
        have hf7 := (hf6.below hb7).mono hb7.size
        clear z8 z3 z9 hB6 hf6 hw6 hb7 HXe ET
        cases told with
        | true =>
          go_wp2
          go_ret
          exact ⟨ret_bool (by rw [HF.out, E6.out]; rfl), hw7⟩
        | false =>
        go_wp2_with fail
        refine (HKn.out w7).mono ?_
        rintro e w8 ⟨rfl, hb8⟩
        have hw8 := Bl.tr hw7 hb8
        have hf8 := (hf7.below hb8).mono hb8.size
        cases kn with
        | false =>
          go_wp2
          go_ret
          exact ⟨ret_bool (by rw [HF.out, E6.out]; rfl), hw8⟩
        | true =>
        go_wp2_with fail
        refine (HXt.out w8 hf8).mono ?_
        rintro e w9 ⟨rfl, hb9⟩
        have hw9 := Bl.tr hw8 hb9
        have hf9 := (hf8.below hb9).mono hb9.size
        cases ht with
        | true =>
          go_wp2
          go_ret
          exact ⟨ret_bool (by rw [HF.out, E6.out]; rfl), hw9⟩
        | false =>
        go_wp2_with fail
        refine (HXl.out w9 hf9).mono ?_
        rintro e w10 ⟨rfl, hb10⟩
        go_wp2
        go_ret
        exact ⟨ret_bool (by rw [HF.out, E6.out]; cases hla <;> rfl), Bl.tr hw9 hb10⟩
end Go.Proofs.YtahapblgmehngaaGreatDoor

