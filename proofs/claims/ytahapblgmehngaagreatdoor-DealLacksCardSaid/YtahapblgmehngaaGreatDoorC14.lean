/- Parts of the proof of DealLacks_holds: the texts Frs1. -/
import Derived.Deep.RegionHeld3
import Derived.Test.YtahapblgmehngaaGreatDoorC10
import Derived.Test.YtahapblgmehngaaGreatDoorC13
import Derived.Test.YtahapblgmehngaaGreatDoorC9
import Derived.Test.YtahapblgmehngaaGreatDoorC4
import Derived.Test.YtahapblgmehngaaGreatDoorC12
set_option linter.unusedSimpArgs false
set_option linter.unusedVariables false
set_option linter.unnecessarySimpa false
namespace Go.Dr
end Go.Dr
namespace Go.Proofs.YtahapblgmehngaaGreatDoor
open Go.RowKit Go.Dr

theorem parseF_le (x : Bytes) (now : Int) (hx : x.length ≤ 1099511627776) : (parseF x now).1 ≤ 1000000000000 := by
  have hy := yearOf_clamp now
  have o1 := own_ok (p := ⟨x, 0, 0, 0, 0, 0, 0, 0, false⟩) hx
  have o2 := old_ok (p := ⟨x, 0, 0, 0, 0, 0, 0, 0, false⟩) hx _ hy.2
  have o3 := bare_ok (p := ⟨x, 0, 0, 0, 0, 0, 0, 0, false⟩) hx
  unfold parseF parseY
  generalize Pt.own ⟨x, 0, 0, 0, 0, 0, 0, 0, false⟩ = p1 at *
  generalize Pt.old ⟨x, 0, 0, 0, 0, 0, 0, 0, false⟩ (yearOf (clampD now / 86400)) = p2 at *
  generalize Pt.bare ⟨x, 0, 0, 0, 0, 0, 0, 0, false⟩ = p3 at *
  split
  · exact moment_le p1 o1.year o1.month
  split
  · exact moment_le p2 o2.year o2.month
  split
  · exact moment_le p3 o3.year o3.month
  · exact Nat.zero_le _
theorem momV_le (l : List F) (name : Bytes) (came : Int) (hl : fsum l ≤ 1099511627776) : momV l name came ≤ 1000000000000 := by
  have hs := ssum_values l name
  unfold momV
  split
  · rename_i x e
    rw [e] at hs
    simp only [ssum, List.map_cons, List.map_nil, List.sum_cons, List.sum_nil] at hs
    exact parseF_le x _ (by omega)
  · exact Nat.zero_le _

theorem clamp_any (t : Int) (w : World) : Calls Tryz.prog 128 #[.int .i64 t] w fun e w' => e = .returned (.int .i64 (clampT t : Nat)) ∧ w' = w := by
  have H := Lib.hid (clampT_int t)
  go_enter Tryz.func128, Tryz.ntmps128
  go_wp2
  go_ret
  exact ⟨ret_int H.out, rfl⟩

theorem clampB_any (t : Int) (w : World) : Calls Tryz.prog 128 #[.int .i64 t] w fun e w' => e = .returned (.int .i64 (clampT t : Nat)) ∧ Below w.heap.size w w' :=
  (clamp_any t w).mono fun _ _ ⟨h1, h2⟩ => ⟨h1, by subst h2; exact Below.refl _ _⟩

set_option maxRecDepth 100000 in
set_option maxHeartbeats 1000000 in
theorem frMoment_any (q : En) (l : List F) (name : Bytes) (w : World) (h : Fs w.heap.size w q.vf l) (hl : fsum l ≤ 1099511627776) (hn : name.length ≤ 1099511627776) :
    Calls Tryz.prog 127 #[q.val, S name] w fun e w' => e = .returned (.tuple #[.int .i64 (momV l name q.came : Nat), .bool (momB l name q.came)]) ∧ Below w.heap.size w w' := by
  obtain ⟨pf, cf, hfv, -⟩ := h.form
  obtain ⟨key, vp, st, vf, body, asked, came⟩ := q
  simp only at hfv h ⊢
  subst hfv
  have hQ := Blk.new w 36 (En.cells ⟨key, vp, st, .slice pf l.length cf, body, asked, came⟩)
  have hbx : Below w.heap.size w (w.alloc (.cells (En.cells ⟨key, vp, st, .slice pf l.length cf, body, asked, came⟩) 36)) := (Below.refl _ _).alloc (Nat.le_refl _) _
  have h1 := (h.below hbx).mono hbx.size
  have HS := ssum_values l name
  unfold En.val
  go_enter Tryz.func127, Tryz.ntmps127
  go_wp2_with fail
  refine (Values_any l name _ _ h1 hl hn).mono ?_
  rintro e w1 ⟨vv, rfl, hvv, hb1⟩
  have hr : Ss w1.heap.size w1 vv (values l name) := Ss.own hvv
  generalize hvs : values l name = vs at *
  have HVS := Lib.hid hvs
  obtain ⟨pa, ca, rfl, hm⟩ := hr.form
  have hw1 := Bl.tr hbx hb1
  have hQ1 := hQ.on hb1
  clear hvv h1 hQ hbx hb1 h hvs
  match vs, hr, HVS, hm, HS with
  | [x], hr, HVS, hm, HS =>
    obtain ⟨b, off, rfl, hbb, c0⟩ := hr.at 0 (by simp)
    simp at c0
    have hx : x.length ≤ 1099511627776 := by simp [ssum] at HS; omega
    have hpl := parseF_le x (clampT came : Nat) hx
    have HV := Lib.hid (momV_one (came := came) HVS.out)
    have HB := Lib.hid (momB_one (came := came) HVS.out)
    have HI := Lib.hid (parseB_int x (clampT came : Nat))
    have C := Lib.hid (fun w => Parse_any x (clampT came : Nat) w hx)
    generalize parseB x (clampT came : Nat) = pb at *
    generalize parseF x (clampT came : Nat) = pr at *
    have c6 : w1.cell? ⟨w.heap.size, 6, none⟩ = some (.int .i64 came) := hQ1.cell 6
    clear HS hm HVS
    go_wp2_with fail
    go_region_held3 (fun w' => w'.cell? ⟨w.heap.size, 6, none⟩ = some (.int .i64 came) ∧ w'.cell? ⟨b, off, none⟩ = some (S x))
      (first | go_keep)
      (first
        | (go_at_call 128; refine (clampB_any came _).mono ?_; rintro e w2 ⟨rfl, hb2⟩; replace hb2 := Bl.undrew hb2; have hr2 := (hr.below hb2).mono hb2.size; have hQ2 := hQ1.on hb2; have hww2 := Bl.tr hw1 hb2; have c62 : w2.cell? ⟨w.heap.size, 6, none⟩ = some (.int .i64 came) := hQ2.cell 6; have c02 : w2.cell? ⟨b, off, none⟩ = some (S x) := by (rw [hb2.cell (p := ⟨b, off, none⟩) hbb]; exact c0); skip)
        | (go_at_call 149; refine (C.out _).mono ?_; rintro e w3 ⟨rfl, hb3⟩; have hww3 := Bl.tr hww2 hb3; have hQ3 := hQ2.on hb3; have c63 : w3.cell? ⟨w.heap.size, 6, none⟩ = some (.int .i64 came) := hQ3.cell 6; have c03 : w3.cell? ⟨b, off, none⟩ = some (S x) := by (rw [hb3.cell (p := ⟨b, off, none⟩) (Nat.lt_of_lt_of_le hbb hb2.size)]; exact c02)))
    go_wp2
    go_ret2
    exact ⟨by rw [HV.out, HB.out, ← HI.out]; rfl, hww3⟩
  | [], hr, HVS, hm, HS =>
    have HV := Lib.hid (momV_nil (came := came) HVS.out)
    have HB := Lib.hid (momB_nil (came := came) HVS.out)
    go_wp2
    go_ret2
    exact ⟨by rw [HV.out, HB.out]; rfl, hw1⟩
  | x :: y :: r, hr, HVS, hm, HS =>
    have HV := Lib.hid (momV_more (came := came) HVS.out)
    have HB := Lib.hid (momB_more (came := came) HVS.out)
    have g : (((x :: y :: r).length : Int) == 1) = false := by simp; omega
    have g2 : (((x :: y :: r).length : Int) != 1) = true := by simp; omega
    clear HVS HS
    generalize hn : (x :: y :: r).length = n at *
    go_wp2
    go_ret2
    exact ⟨by rw [HV.out, HB.out]; rfl, hw1⟩

set_option maxRecDepth 100000 in
theorem frTold_any (q : En) (l : List F) (w : World) (h : Fs w.heap.size w q.vf l) (hl : fsum l ≤ 1099511627776) :
    Calls Tryz.prog 129 #[q.val] w fun e w' => e = .returned (.int .i64 (toldF l : Nat)) ∧ Below w.heap.size w w' := by
  obtain ⟨pf, cf, hfv, -⟩ := h.form
  obtain ⟨key, vp, st, vf, body, asked, came⟩ := q
  simp only at hfv h
  subst hfv
  have hQ := Blk.new w 36 (En.cells ⟨key, vp, st, .slice pf l.length cf, body, asked, came⟩)
  have hbx : Below w.heap.size w (w.alloc (.cells (En.cells ⟨key, vp, st, .slice pf l.length cf, body, asked, came⟩) 36)) := (Below.refl _ _).alloc (Nat.le_refl _) _
  have h1 := (h.below hbx).mono hbx.size
  have HS := ssum_values l ageN
  have HV : Hid (toldF l = match values l ageN with | [] => 0 | x :: _ => numArg x) := rfl
  generalize toldF l = tf at *
  unfold En.val
  go_enter Tryz.func129, Tryz.ntmps129
  go_wp2_with fail
  refine (Values_any l ageN _ _ h1 hl (by decide)).mono ?_
  rintro e w1 ⟨vv, rfl, hvv, hb1⟩
  have hr : Ss w1.heap.size w1 vv (values l ageN) := Ss.own hvv
  generalize values l ageN = vs at *
  obtain ⟨pa, ca, rfl, hm⟩ := hr.form
  have hw1 := Bl.tr hbx hb1
  clear hvv h1 hQ hbx hb1 h
  match vs, hr, HV, hm, HS with
  | [], hr, HV, hm, HS =>
    go_wp2
    go_ret
    exact ⟨ret_int (by rw [HV.out]; rfl), hw1⟩
  | x :: r, hr, HV, hm, HS =>
    obtain ⟨b, off, rfl, hbb, c0⟩ := hr.at 0 (by simp)
    simp at c0
    have hx : x.length ≤ maxLen := by simp [ssum] at HS; unfold maxLen; omega
    have HV : Hid (tf = numArg x) := HV
    have HN := Lib.hid (numArg.eq_1 x)
    have g : (((x :: r).length : Int) == 0) = false := by simp; omega
    generalize hn : (x :: r).length = n at *
    clear HS
    have hn0 : 0 < n := by rw [← hn]; simp
    clear hn
    go_wp2_with fail
    refine (Decimal_any x _ hx).mono ?_
    rintro e w' ⟨rfl, rfl⟩
    by_cases h : (number 10 x).2 = 11
    · (generalize hgenz : (number 10 x).1 = z at *; have Hz := Lib.hid hgenz; clear hgenz)
      rw [h] at *
      clear h
      go_wp2
      go_ret
      exact ⟨ret_int (by rw [HV.out, HN.out]; rfl), hw1⟩
    · have h1 : (((number 10 x).2 : Int) == 11) = false := by rw [beq_eq_false_iff_ne]; omega
      have HH := Lib.hid h
      clear h
      (generalize hgenz : (number 10 x).1 = z at *; have Hz := Lib.hid hgenz; clear hgenz)
      (generalize hgeny : (number 10 x).2 = y at *; have Hy := Lib.hid hgeny; clear hgeny)
      go_wp2
      go_ret
      exact ⟨ret_int (by rw [HV.out, HN.out, if_neg HH.out]), hw1⟩

theorem age_int (ap tl cc ca cn A : Nat) (hA : A = min 1099511627776 (max ap (tl + (cc - ca)) + (cn - cc))) :
    (min 1099511627776 (max (ap : Int) ((tl : Int) + max 0 ((cc : Int) - (ca : Int))) + max 0 ((cn : Int) - (cc : Int)))) = (A : Nat) := by omega

set_option maxRecDepth 100000 in
set_option maxHeartbeats 1000000 in
theorem Age_any (q : En) (l : List F) (now : Int) (w : World) (h : Fs w.heap.size w q.vf l) (hl : fsum l ≤ 1099511627776) :
    Calls Tryz.prog 107 #[q.val, .int .i64 now] w fun e w' => e = .returned (.int .i64 (ageF l q.asked q.came now : Nat)) ∧ Below w.heap.size w w' := by
  have hM := fun w h => frMoment_any q l dateN w h hl (by decide)
  have hT := fun w h => frTold_any q l w h hl
  obtain ⟨pf, cf, hfv, -⟩ := h.form
  obtain ⟨key, vp, st, vf, body, asked, came⟩ := q
  simp only at hfv h hM hT ⊢
  subst hfv
  simp only [En.val] at hM hT ⊢
  have HA : Hid (ageF l asked came now = min 1099511627776 (max (appF l came) (toldF l + (clampT came - clampT asked)) + (clampT now - clampT came))) := rfl
  have HP : Hid (appF l came = if momB l dateN came = true then clampT came - momV l dateN came else 0) := rfl
  have hv := momV_le l dateN came hl
  have ht := toldF_le l
  have k1 := clampT_le asked
  have k2 := clampT_le came
  have k3 := clampT_le now
  have C1 := Lib.hid (fun w => clamp_any asked w)
  have C2 := Lib.hid (fun w => clamp_any came w)
  have C3 := Lib.hid (fun w => clamp_any now w)
  have HM := Lib.hid hM
  have HT := Lib.hid hT
  generalize momV l dateN came = mv at *
  generalize momB l dateN came = mb at *
  generalize toldF l = tl at *
  generalize ageF l asked came now = A at *
  generalize appF l came = ap at *
  generalize clampT asked = ca at *
  generalize clampT came = cc at *
  generalize clampT now = cn at *
  have HX := Lib.hid (age_int ap tl cc ca cn A HA.out)
  have hap : ap ≤ 1099511627776 := by rw [HP.out]; split <;> omega
  clear hM hT HA
  have hQ := Blk.new w 36 #[S key, vp, .int .i64 st, .slice pf l.length cf, S body, .int .i64 asked, .int .i64 came]
  have hbx : Below w.heap.size w (w.alloc (.cells #[S key, vp, .int .i64 st, .slice pf l.length cf, S body, .int .i64 asked, .int .i64 came] 36)) := (Below.refl _ _).alloc (Nat.le_refl _) _
  have h1 := (h.below hbx).mono hbx.size
  go_enter Tryz.func107, Tryz.ntmps107
  go_wp2_with fail
  go_quiet (first | (go_at_call 128; exact Calls.quiet_of_same (C1.out _)) | (go_at_call 128; exact Calls.quiet_of_same (C2.out _)))
  go_wp2_with fail
  have h2 := h1.drewN nq
  have hQ2 := hQ.drewN nq
  have hw2 := Bl.drewN hbx nq
  clear hQ h1 hbx h
  generalize (w.alloc (.cells #[S key, vp, .int .i64 st, .slice pf l.length cf, S body, .int .i64 asked, .int .i64 came] 36)).drewN nq = w2 at *
  refine (HM.out w2 h2).mono ?_
  rintro e w3 ⟨rfl, hb3⟩
  have h3 := (h2.below hb3).mono hb3.size
  have hQ3 := hQ2.on hb3
  have hw3 := Bl.tr hw2 hb3
  have c0 := hQ3.cell 0
  have c1 := hQ3.cell 1
  have c2 := hQ3.cell 2
  have c3 := hQ3.cell 3
  have c4 := hQ3.cell 4
  have c5 := hQ3.cell 5
  have c6 := hQ3.cell 6
  simp at c0 c1 c2 c3 c4 c5 c6
  clear h2 hQ2 hw2 hb3 HM C1 C2
  cases mb with
  | true =>
    have HPx : Hid (max 0 ((cc : Int) - (mv : Int)) = (ap : Nat)) := by show _ = _; rw [HP.out, if_pos rfl]; omega
    go_wp2_with fail
    refine (HT.out w3 h3).mono ?_
    rintro e w4 ⟨rfl, hb4⟩
    have hw4 := Bl.tr hw3 hb4
    go_wp2_with fail
    refine (C3.out w4).mono ?_
    rintro e w5 ⟨rfl, hw5⟩
    obtain rfl : w4 = w5 := hw5.symm
    go_wp2
    go_ret
    exact ⟨ret_int (by have h1 := HX.out; have h2 := HPx.out; clear HX HP HPx; omega), hw4⟩
  | false =>
    have HPx : Hid ((0 : Int) = (ap : Nat)) := by show _ = _; rw [HP.out, if_neg (by simp)]; rfl
    go_wp2_with fail
    refine (HT.out w3 h3).mono ?_
    rintro e w4 ⟨rfl, hb4⟩
    have hw4 := Bl.tr hw3 hb4
    go_wp2_with fail
    refine (C3.out w4).mono ?_
    rintro e w5 ⟨rfl, hw5⟩
    obtain rfl : w4 = w5 := hw5.symm
    go_wp2
    go_ret
    exact ⟨ret_int (by have h1 := HX.out; have h2 := HPx.out; clear HX HP HPx; omega), hw4⟩
end Go.Proofs.YtahapblgmehngaaGreatDoor
namespace Go.Proofs.YtahapblgmehngaaGreatDoor
open Go.RowKit Go.Dr

theorem known_any (st : Int) (w : World) : Calls Tryz.prog 92 #[.int .i64 st] w fun e w' => e = .returned (.bool (knownB st)) ∧ w' = w := by
  have HK : Hid (knownB st = (st == 200 || (st == 203 || (st == 204 || (st == 300 || (st == 301 || (st == 308 || (st == 404 || (st == 405 || (st == 410 || (st == 414 || (st == 501 || false)))))))))))) := rfl
  go_enter Tryz.func92, Tryz.ntmps92
  go_wp2
  all_goals go_ret
  all_goals exact ⟨ret_bool (by rw [HK.out]; clear HK; first | (simp [*]; done) | (exfalso; simp_all; done)), rfl⟩

set_option maxRecDepth 100000 in
theorem frHas_any (l : List F) (name : Bytes) (v : Value) (w : World) (h : Fs w.heap.size w v l) (hl : fsum l ≤ 1099511627776) (hn : name.length ≤ 1099511627776) :
    Calls Tryz.prog 85 #[v, S name] w fun e w' => e = .returned (.bool (hasN l name)) ∧ Below w.heap.size w w' := by
  go_enter Tryz.func85, Tryz.ntmps85
  go_wp2_with fail
  refine (Values_any l name v w h hl hn).mono ?_
  rintro e w1 ⟨vv, rfl, hvv, hb1⟩
  obtain ⟨pa, ca, rfl, hm⟩ := (Ss.own hvv).form
  have HY : Hid (hasN l name = decide (0 < (values l name).length)) := rfl
  generalize (values l name).length = n at *
  go_wp2
  go_ret
  exact ⟨ret_bool (by rw [HY.out]), hb1⟩

set_option maxRecDepth 100000 in
set_option maxHeartbeats 4000000 in
theorem Lifetime_any (q : En) (l : List F) (w : World) (h : Fs w.heap.size w q.vf l) (hl : fsum l ≤ 1099511627776) :
    Calls Tryz.prog 106 #[q.val] w fun e w' => e = .returned (.int .i64 (lifeF l q.st q.came : Nat)) ∧ Below w.heap.size w w' := by
  have hM1 := fun w h => frMoment_any q l dateN w h hl (by decide)
  have hM2 := fun w h => frMoment_any q l expiresN w h hl (by decide)
  have hM3 := fun w h => frMoment_any q l lastN w h hl (by decide)
  obtain ⟨pf, cf, hfv, -⟩ := h.form
  obtain ⟨key, vp, st, vf, body, asked, came⟩ := q
  simp only at hfv h hM1 hM2 hM3 ⊢
  subst hfv
  simp only [En.val] at hM1 hM2 hM3 ⊢
  have hV1 := momV_le l dateN came hl
  have hV2 := momV_le l expiresN came hl
  have hV3 := momV_le l lastN came hl
  have hC := readC_ok l
  have HR := Lib.hid (fun w v h => Read_any l v w h hl)
  have HH := Lib.hid (fun w v h => frHas_any l expiresN v w h hl (by decide))
  have HK := Lib.hid (fun w => known_any st w)
  have HT := Lib.hid (fun w => clamp_any came w)
  have kT := clampT_le came
  have HL : Hid (lifeF l st came = if 0 ≤ (readC l).sm then (readC l).sm.toNat else if 0 ≤ (readC l).ma then (readC l).ma.toNat else if hasN l expiresN = true then (if momB l expiresN came = true then momV l expiresN came - madeF l came else 0) else if momB l lastN came = true ∧ knownB st = true ∧ momV l lastN came ≤ madeF l came then min 86400 ((madeF l came - momV l lastN came) / 10) else 0) := rfl
  have HMd : Hid (madeF l came = if momB l dateN came = true then momV l dateN came else clampT came) := rfl
  have HM1 := Lib.hid hM1
  have HM2 := Lib.hid hM2
  have HM3 := Lib.hid hM3
  clear hM1 hM2 hM3
  generalize lifeF l st came = L at *
  generalize madeF l came = md at *
  generalize momV l dateN came = v1 at *
  generalize momV l expiresN came = v2 at *
  generalize momV l lastN came = v3 at *
  generalize momB l dateN came = b1 at *
  generalize momB l expiresN came = b2 at *
  generalize momB l lastN came = b3 at *
  generalize hasN l expiresN = hE at *
  generalize knownB st = kB at *
  generalize clampT came = cc at *
  generalize readC l = c at *
  have hQ := Blk.new w 36 #[S key, vp, .int .i64 st, .slice pf l.length cf, S body, .int .i64 asked, .int .i64 came]
  have hbx : Below w.heap.size w (w.alloc (.cells #[S key, vp, .int .i64 st, .slice pf l.length cf, S body, .int .i64 asked, .int .i64 came] 36)) := (Below.refl _ _).alloc (Nat.le_refl _) _
  have h1 := (h.below hbx).mono hbx.size
  go_enter Tryz.func106, Tryz.ntmps106
  go_wp2_with fail
  refine (HR.out _ _ h1).mono ?_
  rintro e w1 ⟨rfl, hb1⟩
  have hw1 := Bl.tr hbx hb1
  have hf1 := (h1.below hb1).mono hb1.size
  have hQ1 := hQ.on hb1
  clear hQ h1 hbx h hb1
  have hal : Below w1.heap.size w1 (w1.alloc (.cells #[.bool c.ns, .bool c.nc, .bool c.nt, .bool c.pu, .bool c.pr, .bool c.mr, .bool c.px, .bool c.oi, .int .i64 c.ma, .int .i64 c.sm, .int .i64 c.mf, .int .i64 c.ms] 80)) := (Below.refl _ _).alloc (Nat.le_refl _) _
  have hw2 := Bl.tr hw1 hal
  have hf2 := (hf1.below hal).mono hal.size
  have hQ2 := hQ1.on hal
  by_cases h1 : 0 ≤ c.sm
  · have HL : Hid (c.sm = (L : Int)) := by show _ = _; rw [HL.out, if_pos h1]; omega
    go_wp2
    go_ret
    exact ⟨ret_int HL.out, hw2⟩
  have HL : Hid (L = if 0 ≤ c.ma then c.ma.toNat else if hE = true then (if b2 = true then v2 - md else 0) else if b3 = true ∧ kB = true ∧ v3 ≤ md then min 86400 ((md - v3) / 10) else 0) := by show _ = _; rw [HL.out, if_neg h1]
  by_cases h2 : 0 ≤ c.ma
  · have HL : Hid (c.ma = (L : Int)) := by show _ = _; rw [HL.out, if_pos h2]; omega
    go_wp2
    go_ret
    exact ⟨ret_int HL.out, hw2⟩
  have HL : Hid (L = if hE = true then (if b2 = true then v2 - md else 0) else if b3 = true ∧ kB = true ∧ v3 ≤ md then min 86400 ((md - v3) / 10) else 0) := by show _ = _; rw [HL.out, if_neg h2]
  have hC2 := Blk.new w1 80 #[.bool c.ns, .bool c.nc, .bool c.nt, .bool c.pu, .bool c.pr, .bool c.mr, .bool c.px, .bool c.oi, .int .i64 c.ma, .int .i64 c.sm, .int .i64 c.mf, .int .i64 c.ms]
  have k8 : (w1.alloc (.cells #[.bool c.ns, .bool c.nc, .bool c.nt, .bool c.pu, .bool c.pr, .bool c.mr, .bool c.px, .bool c.oi, .int .i64 c.ma, .int .i64 c.sm, .int .i64 c.mf, .int .i64 c.ms] 80)).cell? ⟨w1.heap.size, 8, none⟩ = some (.int .i64 c.ma) := hC2.cell 8
  have k9 : (w1.alloc (.cells #[.bool c.ns, .bool c.nc, .bool c.nt, .bool c.pu, .bool c.pr, .bool c.mr, .bool c.px, .bool c.oi, .int .i64 c.ma, .int .i64 c.sm, .int .i64 c.mf, .int .i64 c.ms] 80)).cell? ⟨w1.heap.size, 9, none⟩ = some (.int .i64 c.sm) := hC2.cell 9
  have hlt := hQ1.lt
  (have z0 : w1.cell? ⟨w.heap.size, 0, none⟩ = some (S key) := hQ1.cell 0; have z1 : w1.cell? ⟨w.heap.size, 1, none⟩ = some (vp) := hQ1.cell 1; have z2 : w1.cell? ⟨w.heap.size, 2, none⟩ = some (.int .i64 st) := hQ1.cell 2; have z3 : w1.cell? ⟨w.heap.size, 3, none⟩ = some (.slice pf l.length cf) := hQ1.cell 3; have z4 : w1.cell? ⟨w.heap.size, 4, none⟩ = some (S body) := hQ1.cell 4; have z5 : w1.cell? ⟨w.heap.size, 5, none⟩ = some (.int .i64 asked) := hQ1.cell 5; have z6 : w1.cell? ⟨w.heap.size, 6, none⟩ = some (.int .i64 came) := hQ1.cell 6)
  clear hC2 hf1 hQ1 hw1 hal
  go_wp2_with fail
  generalize w1.alloc (.cells #[.bool c.ns, .bool c.nc, .bool c.nt, .bool c.pu, .bool c.pr, .bool c.mr, .bool c.px, .bool c.oi, .int .i64 c.ma, .int .i64 c.sm, .int .i64 c.mf, .int .i64 c.ms] 80) = w2 at *
  clear k8 k9 z0 z1 z2 z3 z4 z5 z6
  (have c0 : w2.cell? ⟨w.heap.size, 0, none⟩ = some (S key) := hQ2.cell 0; have c1 : w2.cell? ⟨w.heap.size, 1, none⟩ = some (vp) := hQ2.cell 1; have c2 : w2.cell? ⟨w.heap.size, 2, none⟩ = some (.int .i64 st) := hQ2.cell 2; have c3 : w2.cell? ⟨w.heap.size, 3, none⟩ = some (.slice pf l.length cf) := hQ2.cell 3; have c4 : w2.cell? ⟨w.heap.size, 4, none⟩ = some (S body) := hQ2.cell 4; have c5 : w2.cell? ⟨w.heap.size, 5, none⟩ = some (.int .i64 asked) := hQ2.cell 5; have c6 : w2.cell? ⟨w.heap.size, 6, none⟩ = some (.int .i64 came) := hQ2.cell 6)
  refine (HM1.out w2 hf2).mono ?_
  rintro e w3 ⟨rfl, hb3⟩
  have hw3 := Bl.tr hw2 hb3
  have hf3 := (hf2.below hb3).mono hb3.size
  have hQ3 := hQ2.on hb3
  clear c0 c1 c2 c3 c4 c5 c6 hw2 hf2 hQ2 hb3 HM1 HR
  (have c0 : w3.cell? ⟨w.heap.size, 0, none⟩ = some (S key) := hQ3.cell 0; have c1 : w3.cell? ⟨w.heap.size, 1, none⟩ = some (vp) := hQ3.cell 1; have c2 : w3.cell? ⟨w.heap.size, 2, none⟩ = some (.int .i64 st) := hQ3.cell 2; have c3 : w3.cell? ⟨w.heap.size, 3, none⟩ = some (.slice pf l.length cf) := hQ3.cell 3; have c4 : w3.cell? ⟨w.heap.size, 4, none⟩ = some (S body) := hQ3.cell 4; have c5 : w3.cell? ⟨w.heap.size, 5, none⟩ = some (.int .i64 asked) := hQ3.cell 5; have c6 : w3.cell? ⟨w.heap.size, 6, none⟩ = some (.int .i64 came) := hQ3.cell 6)
  cases b1 with
  | true =>
    obtain rfl : md = v1 := by rw [HMd.out, if_pos rfl]
    go_wp2_with fail
    refine (HH.out w3 _ hf3).mono ?_
    rintro e w4 ⟨rfl, hb4⟩
    have hw4 := Bl.tr hw3 hb4
    have hf4 := (hf3.below hb4).mono hb4.size
    have hQ4 := hQ3.on hb4
    clear c0 c1 c2 c3 c4 c5 c6 hw3 hf3 hQ3 hb4 HH
    (have c0 : w4.cell? ⟨w.heap.size, 0, none⟩ = some (S key) := hQ4.cell 0; have c1 : w4.cell? ⟨w.heap.size, 1, none⟩ = some (vp) := hQ4.cell 1; have c2 : w4.cell? ⟨w.heap.size, 2, none⟩ = some (.int .i64 st) := hQ4.cell 2; have c3 : w4.cell? ⟨w.heap.size, 3, none⟩ = some (.slice pf l.length cf) := hQ4.cell 3; have c4 : w4.cell? ⟨w.heap.size, 4, none⟩ = some (S body) := hQ4.cell 4; have c5 : w4.cell? ⟨w.heap.size, 5, none⟩ = some (.int .i64 asked) := hQ4.cell 5; have c6 : w4.cell? ⟨w.heap.size, 6, none⟩ = some (.int .i64 came) := hQ4.cell 6)
    cases hE with
    | true =>
      have HLa : Hid (L = if b2 = true then v2 - md else 0) := by show _ = _; rw [HL.out, if_pos rfl]
      clear HL
      go_wp2_with fail
      refine (HM2.out w4 hf4).mono ?_
      rintro e w5 ⟨rfl, hb5⟩
      have hw5 := Bl.tr hw4 hb5
      cases b2 with
      | true =>
        have HLb : Hid (max 0 ((v2 : Int) - (md : Int)) = (L : Int)) := by show _ = _; rw [HLa.out, if_pos rfl]; omega
        clear HLa
        go_wp2
        go_ret
        exact ⟨ret_int HLb.out, hw5⟩
      | false =>
        have HLb : Hid ((0 : Int) = (L : Int)) := by show _ = _; rw [HLa.out]; rfl
        clear HLa
        go_wp2
        go_ret
        exact ⟨ret_int HLb.out, hw5⟩
    | false =>
      have HLa : Hid (L = if b3 = true ∧ kB = true ∧ v3 ≤ md then min 86400 ((md - v3) / 10) else 0) := by show _ = _; rw [HL.out, if_neg (by simp)]
      clear HL
      go_wp2_with fail
      refine (HM3.out w4 hf4).mono ?_
      rintro e w5 ⟨rfl, hb5⟩
      have hw5 := Bl.tr hw4 hb5
      have hQ5 := hQ4.on hb5
      clear c0 c1 c2 c3 c4 c5 c6
      (have c0 : w5.cell? ⟨w.heap.size, 0, none⟩ = some (S key) := hQ5.cell 0; have c1 : w5.cell? ⟨w.heap.size, 1, none⟩ = some (vp) := hQ5.cell 1; have c2 : w5.cell? ⟨w.heap.size, 2, none⟩ = some (.int .i64 st) := hQ5.cell 2; have c3 : w5.cell? ⟨w.heap.size, 3, none⟩ = some (.slice pf l.length cf) := hQ5.cell 3; have c4 : w5.cell? ⟨w.heap.size, 4, none⟩ = some (S body) := hQ5.cell 4; have c5 : w5.cell? ⟨w.heap.size, 5, none⟩ = some (.int .i64 asked) := hQ5.cell 5; have c6 : w5.cell? ⟨w.heap.size, 6, none⟩ = some (.int .i64 came) := hQ5.cell 6)
      cases b3 with
      | false =>
        have HLb : Hid ((0 : Int) = (L : Int)) := by show _ = _; rw [HLa.out, if_neg (by simp)]; rfl
        clear HLa
        go_wp2
        go_ret
        exact ⟨ret_int HLb.out, hw5⟩
      | true =>
        cases kB with
        | false =>
          have HLb : Hid ((0 : Int) = (L : Int)) := by show _ = _; rw [HLa.out, if_neg (by simp)]; rfl
          clear HLa
          go_wp2_with fail
          refine (HK.out w5).mono ?_
          rintro e w6 ⟨rfl, hw6⟩
          obtain rfl : w5 = w6 := hw6.symm
          go_wp2
          go_ret
          exact ⟨ret_int HLb.out, hw5⟩
        | true =>
          by_cases hle : v3 ≤ md
          · have HLb : Hid (min 86400 (((md : Int) - (v3 : Int)) / 10) = (L : Int)) := by show _ = _; rw [HLa.out, if_pos ⟨rfl, rfl, hle⟩]; omega
            clear HLa
            go_wp2_with fail
            refine (HK.out w5).mono ?_
            rintro e w6 ⟨rfl, hw6⟩
            obtain rfl : w5 = w6 := hw6.symm
            go_wp2
            go_ret
            exact ⟨ret_int HLb.out, hw5⟩
          · have HLb : Hid ((0 : Int) = (L : Int)) := by show _ = _; rw [HLa.out, if_neg (by simp; omega)]; rfl
            clear HLa
            go_wp2_with fail
            refine (HK.out w5).mono ?_
            rintro e w6 ⟨rfl, hw6⟩
            obtain rfl : w5 = w6 := hw6.symm
            go_wp2
            go_ret
            exact ⟨ret_int HLb.out, hw5⟩
  | false =>
    obtain rfl : md = cc := by rw [HMd.out, if_neg (by simp)]
    go_wp2_with fail
    refine (HT.out w3).mono ?_
    rintro e w3' ⟨rfl, hw3'⟩
    obtain rfl : w3 = w3' := hw3'.symm
    go_wp2_with fail
    refine (HH.out w3 _ hf3).mono ?_
    rintro e w4 ⟨rfl, hb4⟩
    have hw4 := Bl.tr hw3 hb4
    have hf4 := (hf3.below hb4).mono hb4.size
    have hQ4 := hQ3.on hb4
    clear c0 c1 c2 c3 c4 c5 c6 hw3 hf3 hQ3 hb4 HH
    (have c0 : w4.cell? ⟨w.heap.size, 0, none⟩ = some (S key) := hQ4.cell 0; have c1 : w4.cell? ⟨w.heap.size, 1, none⟩ = some (vp) := hQ4.cell 1; have c2 : w4.cell? ⟨w.heap.size, 2, none⟩ = some (.int .i64 st) := hQ4.cell 2; have c3 : w4.cell? ⟨w.heap.size, 3, none⟩ = some (.slice pf l.length cf) := hQ4.cell 3; have c4 : w4.cell? ⟨w.heap.size, 4, none⟩ = some (S body) := hQ4.cell 4; have c5 : w4.cell? ⟨w.heap.size, 5, none⟩ = some (.int .i64 asked) := hQ4.cell 5; have c6 : w4.cell? ⟨w.heap.size, 6, none⟩ = some (.int .i64 came) := hQ4.cell 6)
    cases hE with
    | true =>
      have HLa : Hid (L = if b2 = true then v2 - md else 0) := by show _ = _; rw [HL.out, if_pos rfl]
      clear HL
      go_wp2_with fail
      refine (HM2.out w4 hf4).mono ?_
      rintro e w5 ⟨rfl, hb5⟩
      have hw5 := Bl.tr hw4 hb5
      cases b2 with
      | true =>
        have HLb : Hid (max 0 ((v2 : Int) - (md : Int)) = (L : Int)) := by show _ = _; rw [HLa.out, if_pos rfl]; omega
        clear HLa
        go_wp2
        go_ret
        exact ⟨ret_int HLb.out, hw5⟩
      | false =>
        have HLb : Hid ((0 : Int) = (L : Int)) := by show _ = _; rw [HLa.out]; rfl
        clear HLa
        go_wp2
        go_ret
        exact ⟨ret_int HLb.out, hw5⟩
    | false =>
      have HLa : Hid (L = if b3 = true ∧ kB = true ∧ v3 ≤ md then min 86400 ((md - v3) / 10) else 0) := by show _ = _; rw [HL.out, if_neg (by simp)]
      clear HL
      go_wp2_with fail
      refine (HM3.out w4 hf4).mono ?_
      rintro e w5 ⟨rfl, hb5⟩
      have hw5 := Bl.tr hw4 hb5
      have hQ5 := hQ4.on hb5
      clear c0 c1 c2 c3 c4 c5 c6
      (have c0 : w5.cell? ⟨w.heap.size, 0, none⟩ = some (S key) := hQ5.cell 0; have c1 : w5.cell? ⟨w.heap.size, 1, none⟩ = some (vp) := hQ5.cell 1; have c2 : w5.cell? ⟨w.heap.size, 2, none⟩ = some (.int .i64 st) := hQ5.cell 2; have c3 : w5.cell? ⟨w.heap.size, 3, none⟩ = some (.slice pf l.length cf) := hQ5.cell 3; have c4 : w5.cell? ⟨w.heap.size, 4, none⟩ = some (S body) := hQ5.cell 4; have c5 : w5.cell? ⟨w.heap.size, 5, none⟩ = some (.int .i64 asked) := hQ5.cell 5; have c6 : w5.cell? ⟨w.heap.size, 6, none⟩ = some (.int .i64 came) := hQ5.cell 6)
      cases b3 with
      | false =>
        have HLb : Hid ((0 : Int) = (L : Int)) := by show _ = _; rw [HLa.out, if_neg (by simp)]; rfl
        clear HLa
        go_wp2
        go_ret
        exact ⟨ret_int HLb.out, hw5⟩
      | true =>
        cases kB with
        | false =>
          have HLb : Hid ((0 : Int) = (L : Int)) := by show _ = _; rw [HLa.out, if_neg (by simp)]; rfl
          clear HLa
          go_wp2_with fail
          refine (HK.out w5).mono ?_
          rintro e w6 ⟨rfl, hw6⟩
          obtain rfl : w5 = w6 := hw6.symm
          go_wp2
          go_ret
          exact ⟨ret_int HLb.out, hw5⟩
        | true =>
          by_cases hle : v3 ≤ md
          · have HLb : Hid (min 86400 (((md : Int) - (v3 : Int)) / 10) = (L : Int)) := by show _ = _; rw [HLa.out, if_pos ⟨rfl, rfl, hle⟩]; omega
            clear HLa
            go_wp2_with fail
            refine (HK.out w5).mono ?_
            rintro e w6 ⟨rfl, hw6⟩
            obtain rfl : w5 = w6 := hw6.symm
            go_wp2
            go_ret
            exact ⟨ret_int HLb.out, hw5⟩
          · have HLb : Hid ((0 : Int) = (L : Int)) := by show _ = _; rw [HLa.out, if_neg (by simp; omega)]; rfl
            clear HLa
            go_wp2_with fail
            refine (HK.out w5).mono ?_
            rintro e w6 ⟨rfl, hw6⟩
            obtain rfl : w5 = w6 := hw6.symm
            go_wp2
            go_ret
            exact ⟨ret_int HLb.out, hw5⟩
end Go.Proofs.YtahapblgmehngaaGreatDoor

