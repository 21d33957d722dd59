/- Parts of the proof of DealDecides_holds: the texts Frs1 Dig FrP Hop3 Cel12. -/
import Derived.Test.YtahapblgmehngaaGreatDoorE7
import Derived.Test.YtahapblgmehngaaGreatDoorE5
set_option linter.unusedSimpArgs false
set_option linter.unusedVariables false
set_option linter.unnecessarySimpa false
set_option maxRecDepth 100000
set_option maxHeartbeats 64000000
namespace Go.Dr
end Go.Dr
namespace Go.Proofs.YtahapblgmehngaaGreatDoor
open Go.RowKit Go.Dr
theorem parseF_le (x : Bytes) (now : Int) (hx : x.length ≤ 1099511627776) : (parseF x now).1 ≤ 1000000000000 := by
 have hy := yearOf_clamp now;have o1 := own_ok (p := ⟨x, 0, 0, 0, 0, 0, 0, 0, false⟩) hx;have o2 := old_ok (p := ⟨x, 0, 0, 0, 0, 0, 0, 0, false⟩) hx _ hy.2;have o3 := bare_ok (p := ⟨x, 0, 0, 0, 0, 0, 0, 0, false⟩) hx;unfold parseF parseY;generalize Pt.own ⟨x, 0, 0, 0, 0, 0, 0, 0, false⟩ = p1 at *;generalize Pt.old ⟨x, 0, 0, 0, 0, 0, 0, 0, false⟩ (yearOf (clampD now / 86400)) = p2 at *;generalize Pt.bare ⟨x, 0, 0, 0, 0, 0, 0, 0, false⟩ = p3 at *
 split
 ·exact moment_le p1 o1.year o1.month
 split
 ·exact moment_le p2 o2.year o2.month
 split
 ·exact moment_le p3 o3.year o3.month
 ·exact Nat.zero_le _
theorem momV_le (l : List F) (name : Bytes) (came : Int) (hl : fsum l ≤ 1099511627776) : momV l name came ≤ 1000000000000 := by
 have hs := ssum_values l name;unfold momV
 split
 ·rename_i x e
  rw [e] at hs;simp only [ssum, List.map_cons, List.map_nil, List.sum_cons, List.sum_nil] at hs;exact parseF_le x _ (by omega)
 ·exact Nat.zero_le _
theorem clamp_any (t : Int) (w : World) : Calls Tryz.prog 128 #[.int .i64 t] w fun e w' => e = .returned (.int .i64 (clampT t : Nat)) ∧ w' = w := by
 have H := Lib.hid (clampT_int t);go_enter Tryz.func128, Tryz.ntmps128
 go_wp2;go_ret;exact ⟨ret_int H.out, rfl⟩
theorem clampB_any (t : Int) (w : World) : Calls Tryz.prog 128 #[.int .i64 t] w fun e w' => e = .returned (.int .i64 (clampT t : Nat)) ∧ Below w.heap.size w w' :=
 (clamp_any t w).mono fun _ _ ⟨h1, h2⟩ => ⟨h1, by subst h2;exact Below.refl _ _⟩
theorem frMoment_any (q : En) (l : List F) (name : Bytes) (w : World) (h : Fs w.heap.size w q.vf l) (hl : fsum l ≤ 1099511627776) (hn : name.length ≤ 1099511627776) :
  Calls Tryz.prog 127 #[q.val, S name] w fun e w' => e = .returned (.tuple #[.int .i64 (momV l name q.came : Nat), .bool (momB l name q.came)]) ∧ Below w.heap.size w w' := by
 obtain ⟨pf, cf, hfv, -⟩ := h.form;obtain ⟨key, vp, st, vf, body, asked, came⟩ := q;simp only at hfv h ⊢;subst hfv;have hQ := Blk.new w 36 (En.cells ⟨key, vp, st, .slice pf l.length cf, body, asked, came⟩);have hbx : Below w.heap.size w (w.alloc (.cells (En.cells ⟨key, vp, st, .slice pf l.length cf, body, asked, came⟩) 36)) := (Below.refl _ _).alloc (Nat.le_refl _) _;have h1 := (h.below hbx).mono hbx.size;have HS := ssum_values l name;unfold En.val;go_enter Tryz.func127, Tryz.ntmps127
 go_wp2_with fail;refine (Values_any l name _ _ h1 hl hn).mono ?_;rintro e w1 ⟨vv, rfl, hvv, hb1⟩;have hr : Ss w1.heap.size w1 vv (values l name) := Ss.own hvv;generalize hvs : values l name = vs at *;have HVS := Lib.hid hvs;obtain ⟨pa, ca, rfl, hm⟩ := hr.form;have hw1 := Bl.tr hbx hb1;have hQ1 := hQ.on hb1;clear hvv h1 hQ hbx hb1 h hvs
 match vs, hr, HVS, hm, HS with
 | [x], hr, HVS, hm, HS =>
  obtain ⟨b, off, rfl, hbb, c0⟩ := hr.at 0 (by simp);simp at c0
  have hx : x.length ≤ 1099511627776 := (by simp [ssum] at HS;omega);have hpl := parseF_le x (clampT came : Nat) hx;have HV := Lib.hid (momV_one (came := came) HVS.out);have HB := Lib.hid (momB_one (came := came) HVS.out);have HI := Lib.hid (parseB_int x (clampT came : Nat));have C := Lib.hid (fun w => Parse_any x (clampT came : Nat) w hx);generalize parseB x (clampT came : Nat) = pb at *;generalize parseF x (clampT came : Nat) = pr at *;have c6 : w1.cell? ⟨w.heap.size, 6, none⟩ = some (.int .i64 came) := hQ1.cell 6;clear HS hm HVS;go_wp2_with fail
  go_region_held3 (fun w' => w'.cell? ⟨w.heap.size, 6, none⟩ = some (.int .i64 came) ∧ w'.cell? ⟨b, off, none⟩ = some (S x))
   (first | go_keep)
   (first
    | (go_at_call 128;refine (clampB_any came _).mono ?_;rintro e w2 ⟨rfl, hb2⟩;replace hb2 := Bl.undrew hb2;have hr2 := (hr.below hb2).mono hb2.size;have hQ2 := hQ1.on hb2;have hww2 := Bl.tr hw1 hb2;have c62 : w2.cell? ⟨w.heap.size, 6, none⟩ = some (.int .i64 came) := hQ2.cell 6;have c02 : w2.cell? ⟨b, off, none⟩ = some (S x) := by (rw [hb2.cell (p := ⟨b, off, none⟩) hbb];exact c0);skip)
    | (go_at_call 149;refine (C.out _).mono ?_;rintro e w3 ⟨rfl, hb3⟩;have hww3 := Bl.tr hww2 hb3;have hQ3 := hQ2.on hb3;have c63 : w3.cell? ⟨w.heap.size, 6, none⟩ = some (.int .i64 came) := hQ3.cell 6;have c03 : w3.cell? ⟨b, off, none⟩ = some (S x) := by (rw [hb3.cell (p := ⟨b, off, none⟩) (Nat.lt_of_lt_of_le hbb hb2.size)];exact c02)))
  go_wp2;go_ret2;exact ⟨by rw [HV.out, HB.out, ← HI.out];rfl, hww3⟩
 | [], hr, HVS, hm, HS =>
  have HV := Lib.hid (momV_nil (came := came) HVS.out);have HB := Lib.hid (momB_nil (came := came) HVS.out);go_wp2;go_ret2;exact ⟨by rw [HV.out, HB.out];rfl, hw1⟩
 | x :: y :: r, hr, HVS, hm, HS =>
  have HV := Lib.hid (momV_more (came := came) HVS.out);have HB := Lib.hid (momB_more (came := came) HVS.out);have g : (((x :: y :: r).length : Int) == 1) = false := (by simp;omega);have g2 : (((x :: y :: r).length : Int) != 1) = true := (by simp;omega);clear HVS HS;generalize hn : (x :: y :: r).length = n at *;go_wp2;go_ret2;exact ⟨by rw [HV.out, HB.out];rfl, hw1⟩
theorem frTold_any (q : En) (l : List F) (w : World) (h : Fs w.heap.size w q.vf l) (hl : fsum l ≤ 1099511627776) :
  Calls Tryz.prog 129 #[q.val] w fun e w' => e = .returned (.int .i64 (toldF l : Nat)) ∧ Below w.heap.size w w' := by
 obtain ⟨pf, cf, hfv, -⟩ := h.form;obtain ⟨key, vp, st, vf, body, asked, came⟩ := q;simp only at hfv h;subst hfv;have hQ := Blk.new w 36 (En.cells ⟨key, vp, st, .slice pf l.length cf, body, asked, came⟩);have hbx : Below w.heap.size w (w.alloc (.cells (En.cells ⟨key, vp, st, .slice pf l.length cf, body, asked, came⟩) 36)) := (Below.refl _ _).alloc (Nat.le_refl _) _;have h1 := (h.below hbx).mono hbx.size;have HS := ssum_values l ageN;have HV : Hid (toldF l = match values l ageN with | [] => 0 | x :: _ => numArg x) := rfl;generalize toldF l = tf at *;unfold En.val;go_enter Tryz.func129, Tryz.ntmps129
 go_wp2_with fail;refine (Values_any l ageN _ _ h1 hl (by decide)).mono ?_;rintro e w1 ⟨vv, rfl, hvv, hb1⟩;have hr : Ss w1.heap.size w1 vv (values l ageN) := Ss.own hvv;generalize values l ageN = vs at *;obtain ⟨pa, ca, rfl, hm⟩ := hr.form;have hw1 := Bl.tr hbx hb1;clear hvv h1 hQ hbx hb1 h
 match vs, hr, HV, hm, HS with
 | [], hr, HV, hm, HS =>
  go_wp2;go_ret;exact ⟨ret_int (by rw [HV.out];rfl), hw1⟩
 | x :: r, hr, HV, hm, HS =>
  obtain ⟨b, off, rfl, hbb, c0⟩ := hr.at 0 (by simp);simp at c0
  have hx : x.length ≤ maxLen := (by simp [ssum] at HS;unfold maxLen;omega);have HV : Hid (tf = numArg x) := HV;have HN := Lib.hid (numArg.eq_1 x);have g : (((x :: r).length : Int) == 0) = false := (by simp;omega);generalize hn : (x :: r).length = n at *;clear HS;have hn0 : 0 < n := (by rw [← hn];simp);clear hn;go_wp2_with fail;refine (Decimal_any x _ hx).mono ?_;rintro e w' ⟨rfl, rfl⟩;by_cases h : (number 10 x).2 = 11
  ·(generalize hgenz : (number 10 x).1 = z at *;have Hz := Lib.hid hgenz;clear hgenz)
   rw [h] at *;clear h;go_wp2;go_ret;exact ⟨ret_int (by rw [HV.out, HN.out];rfl), hw1⟩
  ·have h1 : (((number 10 x).2 : Int) == 11) = false := by rw [beq_eq_false_iff_ne];omega
   have HH := Lib.hid h;clear h
   (generalize hgenz : (number 10 x).1 = z at *;have Hz := Lib.hid hgenz;clear hgenz)
   (generalize hgeny : (number 10 x).2 = y at *;have Hy := Lib.hid hgeny;clear hgeny)
   go_wp2;go_ret;exact ⟨ret_int (by rw [HV.out, HN.out, if_neg HH.out]), hw1⟩
theorem age_int (ap tl cc ca cn A : Nat) (hA : A = min 1099511627776 (max ap (tl + (cc - ca)) + (cn - cc))) :
 (min 1099511627776 (max (ap : Int) ((tl : Int) + max 0 ((cc : Int) - (ca : Int))) + max 0 ((cn : Int) - (cc : Int)))) = (A : Nat) := by omega
theorem Age_any (q : En) (l : List F) (now : Int) (w : World) (h : Fs w.heap.size w q.vf l) (hl : fsum l ≤ 1099511627776) :
  Calls Tryz.prog 107 #[q.val, .int .i64 now] w fun e w' => e = .returned (.int .i64 (ageF l q.asked q.came now : Nat)) ∧ Below w.heap.size w w' := by
 have hM := fun w h => frMoment_any q l dateN w h hl (by decide)
 have hT := fun w h => frTold_any q l w h hl
 obtain ⟨pf, cf, hfv, -⟩ := h.form;obtain ⟨key, vp, st, vf, body, asked, came⟩ := q;simp only at hfv h hM hT ⊢;subst hfv;simp only [En.val] at hM hT ⊢;have HA : Hid (ageF l asked came now = min 1099511627776 (max (appF l came) (toldF l + (clampT came - clampT asked)) + (clampT now - clampT came))) := rfl;have HP : Hid (appF l came = if momB l dateN came = true then clampT came - momV l dateN came else 0) := rfl;have hv := momV_le l dateN came hl;have ht := toldF_le l;have k1 := clampT_le asked;have k2 := clampT_le came;have k3 := clampT_le now;have C1 := Lib.hid (fun w => clamp_any asked w);have C2 := Lib.hid (fun w => clamp_any came w);have C3 := Lib.hid (fun w => clamp_any now w);have HM := Lib.hid hM;have HT := Lib.hid hT;generalize momV l dateN came = mv at *;generalize momB l dateN came = mb at *;generalize toldF l = tl at *;generalize ageF l asked came now = A at *;generalize appF l came = ap at *;generalize clampT asked = ca at *;generalize clampT came = cc at *;generalize clampT now = cn at *;have HX := Lib.hid (age_int ap tl cc ca cn A HA.out);have hap : ap ≤ 1099511627776 := (by rw [HP.out];split <;> omega);clear hM hT HA;have hQ := Blk.new w 36 #[S key, vp, .int .i64 st, .slice pf l.length cf, S body, .int .i64 asked, .int .i64 came];have hbx : Below w.heap.size w (w.alloc (.cells #[S key, vp, .int .i64 st, .slice pf l.length cf, S body, .int .i64 asked, .int .i64 came] 36)) := (Below.refl _ _).alloc (Nat.le_refl _) _;have h1 := (h.below hbx).mono hbx.size;go_enter Tryz.func107, Tryz.ntmps107
 go_wp2_with fail;go_quiet (first | (go_at_call 128;exact Calls.quiet_of_same (C1.out _)) | (go_at_call 128;exact Calls.quiet_of_same (C2.out _)))
 go_wp2_with fail;have h2 := h1.drewN nq;have hQ2 := hQ.drewN nq;have hw2 := Bl.drewN hbx nq;clear hQ h1 hbx h;generalize (w.alloc (.cells #[S key, vp, .int .i64 st, .slice pf l.length cf, S body, .int .i64 asked, .int .i64 came] 36)).drewN nq = w2 at *;refine (HM.out w2 h2).mono ?_;rintro e w3 ⟨rfl, hb3⟩;have h3 := (h2.below hb3).mono hb3.size;have hQ3 := hQ2.on hb3;have hw3 := Bl.tr hw2 hb3;have c0 := hQ3.cell 0;have c1 := hQ3.cell 1;have c2 := hQ3.cell 2;have c3 := hQ3.cell 3;have c4 := hQ3.cell 4;have c5 := hQ3.cell 5;have c6 := hQ3.cell 6;simp at c0 c1 c2 c3 c4 c5 c6
 clear h2 hQ2 hw2 hb3 HM C1 C2
 cases mb with
 | true =>
  have HPx : Hid (max 0 ((cc : Int) - (mv : Int)) = (ap : Nat)) := (by show _ = _;rw [HP.out, if_pos rfl];omega);go_wp2_with fail;refine (HT.out w3 h3).mono ?_;rintro e w4 ⟨rfl, hb4⟩;have hw4 := Bl.tr hw3 hb4;go_wp2_with fail;refine (C3.out w4).mono ?_;rintro e w5 ⟨rfl, hw5⟩;obtain rfl : w4 = w5 := hw5.symm;go_wp2;go_ret;exact ⟨ret_int (by have h1 := HX.out;have h2 := HPx.out;clear HX HP HPx;omega), hw4⟩
 | false =>
  have HPx : Hid ((0 : Int) = (ap : Nat)) := (by show _ = _;rw [HP.out, if_neg (by simp)];rfl);go_wp2_with fail;refine (HT.out w3 h3).mono ?_;rintro e w4 ⟨rfl, hb4⟩;have hw4 := Bl.tr hw3 hb4;go_wp2_with fail;refine (C3.out w4).mono ?_;rintro e w5 ⟨rfl, hw5⟩;obtain rfl : w4 = w5 := hw5.symm;go_wp2;go_ret;exact ⟨ret_int (by have h1 := HX.out;have h2 := HPx.out;clear HX HP HPx;omega), hw4⟩
open Go.RowKit Go.Dr
theorem known_any (st : Int) (w : World) : Calls Tryz.prog 92 #[.int .i64 st] w fun e w' => e = .returned (.bool (knownB st)) ∧ w' = w := by
 have HK : Hid (knownB st = (st == 200 || (st == 203 || (st == 204 || (st == 300 || (st == 301 || (st == 308 || (st == 404 || (st == 405 || (st == 410 || (st == 414 || (st == 501 || false)))))))))))) := rfl;go_enter Tryz.func92, Tryz.ntmps92
 go_wp2
 all_goals go_ret
 all_goals exact ⟨ret_bool (by rw [HK.out];clear HK;first | (simp [*];done) | (exfalso;simp_all;done)), rfl⟩
theorem frHas_any (l : List F) (name : Bytes) (v : Value) (w : World) (h : Fs w.heap.size w v l) (hl : fsum l ≤ 1099511627776) (hn : name.length ≤ 1099511627776) :
  Calls Tryz.prog 85 #[v, S name] w fun e w' => e = .returned (.bool (hasN l name)) ∧ Below w.heap.size w w' := by
 go_enter Tryz.func85, Tryz.ntmps85
 go_wp2_with fail;refine (Values_any l name v w h hl hn).mono ?_;rintro e w1 ⟨vv, rfl, hvv, hb1⟩;obtain ⟨pa, ca, rfl, hm⟩ := (Ss.own hvv).form;have HY : Hid (hasN l name = decide (0 < (values l name).length)) := rfl;generalize (values l name).length = n at *;go_wp2;go_ret;exact ⟨ret_bool (by rw [HY.out]), hb1⟩
theorem Lifetime_any (q : En) (l : List F) (w : World) (h : Fs w.heap.size w q.vf l) (hl : fsum l ≤ 1099511627776) :
  Calls Tryz.prog 106 #[q.val] w fun e w' => e = .returned (.int .i64 (lifeF l q.st q.came : Nat)) ∧ Below w.heap.size w w' := by
 have hM1 := fun w h => frMoment_any q l dateN w h hl (by decide)
 have hM2 := fun w h => frMoment_any q l expiresN w h hl (by decide)
 have hM3 := fun w h => frMoment_any q l lastN w h hl (by decide)
 obtain ⟨pf, cf, hfv, -⟩ := h.form;obtain ⟨key, vp, st, vf, body, asked, came⟩ := q;simp only at hfv h hM1 hM2 hM3 ⊢;subst hfv;simp only [En.val] at hM1 hM2 hM3 ⊢;have hV1 := momV_le l dateN came hl;have hV2 := momV_le l expiresN came hl;have hV3 := momV_le l lastN came hl;have hC := readC_ok l;have HR := Lib.hid (fun w v h => Read_any l v w h hl);have HH := Lib.hid (fun w v h => frHas_any l expiresN v w h hl (by decide));have HK := Lib.hid (fun w => known_any st w);have HT := Lib.hid (fun w => clamp_any came w);have kT := clampT_le came;have HL : Hid (lifeF l st came = if 0 ≤ (readC l).sm then (readC l).sm.toNat else if 0 ≤ (readC l).ma then (readC l).ma.toNat else if hasN l expiresN = true then (if momB l expiresN came = true then momV l expiresN came - madeF l came else 0) else if momB l lastN came = true ∧ knownB st = true ∧ momV l lastN came ≤ madeF l came then min 86400 ((madeF l came - momV l lastN came) / 10) else 0) := rfl;have HMd : Hid (madeF l came = if momB l dateN came = true then momV l dateN came else clampT came) := rfl;have HM1 := Lib.hid hM1;have HM2 := Lib.hid hM2;have HM3 := Lib.hid hM3;clear hM1 hM2 hM3;generalize lifeF l st came = L at *;generalize madeF l came = md at *;generalize momV l dateN came = v1 at *;generalize momV l expiresN came = v2 at *;generalize momV l lastN came = v3 at *;generalize momB l dateN came = b1 at *;generalize momB l expiresN came = b2 at *;generalize momB l lastN came = b3 at *;generalize hasN l expiresN = hE at *;generalize knownB st = kB at *;generalize clampT came = cc at *;generalize readC l = c at *;have hQ := Blk.new w 36 #[S key, vp, .int .i64 st, .slice pf l.length cf, S body, .int .i64 asked, .int .i64 came];have hbx : Below w.heap.size w (w.alloc (.cells #[S key, vp, .int .i64 st, .slice pf l.length cf, S body, .int .i64 asked, .int .i64 came] 36)) := (Below.refl _ _).alloc (Nat.le_refl _) _;have h1 := (h.below hbx).mono hbx.size;go_enter Tryz.func106, Tryz.ntmps106
 go_wp2_with fail;refine (HR.out _ _ h1).mono ?_;rintro e w1 ⟨rfl, hb1⟩;have hw1 := Bl.tr hbx hb1;have hf1 := (h1.below hb1).mono hb1.size;have hQ1 := hQ.on hb1;clear hQ h1 hbx h hb1;have hal : Below w1.heap.size w1 (w1.alloc (.cells #[.bool c.ns, .bool c.nc, .bool c.nt, .bool c.pu, .bool c.pr, .bool c.mr, .bool c.px, .bool c.oi, .int .i64 c.ma, .int .i64 c.sm, .int .i64 c.mf, .int .i64 c.ms] 80)) := (Below.refl _ _).alloc (Nat.le_refl _) _;have hw2 := Bl.tr hw1 hal;have hf2 := (hf1.below hal).mono hal.size;have hQ2 := hQ1.on hal;by_cases h1 : 0 ≤ c.sm
 ·have HL : Hid (c.sm = (L : Int)) := by show _ = _;rw [HL.out, if_pos h1];omega
  go_wp2;go_ret;exact ⟨ret_int HL.out, hw2⟩
 have HL : Hid (L = if 0 ≤ c.ma then c.ma.toNat else if hE = true then (if b2 = true then v2 - md else 0) else if b3 = true ∧ kB = true ∧ v3 ≤ md then min 86400 ((md - v3) / 10) else 0) := (by show _ = _;rw [HL.out, if_neg h1]);by_cases h2 : 0 ≤ c.ma
 ·have HL : Hid (c.ma = (L : Int)) := by show _ = _;rw [HL.out, if_pos h2];omega
  go_wp2;go_ret;exact ⟨ret_int HL.out, hw2⟩
 have HL : Hid (L = if hE = true then (if b2 = true then v2 - md else 0) else if b3 = true ∧ kB = true ∧ v3 ≤ md then min 86400 ((md - v3) / 10) else 0) := (by show _ = _;rw [HL.out, if_neg h2]);have hC2 := Blk.new w1 80 #[.bool c.ns, .bool c.nc, .bool c.nt, .bool c.pu, .bool c.pr, .bool c.mr, .bool c.px, .bool c.oi, .int .i64 c.ma, .int .i64 c.sm, .int .i64 c.mf, .int .i64 c.ms];have k8 : (w1.alloc (.cells #[.bool c.ns, .bool c.nc, .bool c.nt, .bool c.pu, .bool c.pr, .bool c.mr, .bool c.px, .bool c.oi, .int .i64 c.ma, .int .i64 c.sm, .int .i64 c.mf, .int .i64 c.ms] 80)).cell? ⟨w1.heap.size, 8, none⟩ = some (.int .i64 c.ma) := hC2.cell 8;have k9 : (w1.alloc (.cells #[.bool c.ns, .bool c.nc, .bool c.nt, .bool c.pu, .bool c.pr, .bool c.mr, .bool c.px, .bool c.oi, .int .i64 c.ma, .int .i64 c.sm, .int .i64 c.mf, .int .i64 c.ms] 80)).cell? ⟨w1.heap.size, 9, none⟩ = some (.int .i64 c.sm) := hC2.cell 9;have hlt := hQ1.lt;obtain ⟨z0, z1, z2, z3, z4, z5, z6⟩ := hQ1.c7;clear hC2 hf1 hQ1 hw1 hal;go_wp2_with fail;generalize w1.alloc (.cells #[.bool c.ns, .bool c.nc, .bool c.nt, .bool c.pu, .bool c.pr, .bool c.mr, .bool c.px, .bool c.oi, .int .i64 c.ma, .int .i64 c.sm, .int .i64 c.mf, .int .i64 c.ms] 80) = w2 at *;clear k8 k9 z0 z1 z2 z3 z4 z5 z6;obtain ⟨c0, c1, c2, c3, c4, c5, c6⟩ := hQ2.c7;refine (HM1.out w2 hf2).mono ?_;rintro e w3 ⟨rfl, hb3⟩;have hw3 := Bl.tr hw2 hb3;have hf3 := (hf2.below hb3).mono hb3.size;have hQ3 := hQ2.on hb3;clear c0 c1 c2 c3 c4 c5 c6 hw2 hf2 hQ2 hb3 HM1 HR;obtain ⟨c0, c1, c2, c3, c4, c5, c6⟩ := hQ3.c7
 cases b1 with
 | true =>
  obtain rfl : md = v1 := by rw [HMd.out, if_pos rfl]
  go_wp2_with fail;refine (HH.out w3 _ hf3).mono ?_;rintro e w4 ⟨rfl, hb4⟩;have hw4 := Bl.tr hw3 hb4;have hf4 := (hf3.below hb4).mono hb4.size;have hQ4 := hQ3.on hb4;clear c0 c1 c2 c3 c4 c5 c6 hw3 hf3 hQ3 hb4 HH;obtain ⟨c0, c1, c2, c3, c4, c5, c6⟩ := hQ4.c7
  cases hE with
  | true =>
   have HLa : Hid (L = if b2 = true then v2 - md else 0) := (by show _ = _;rw [HL.out, if_pos rfl]);clear HL;go_wp2_with fail;refine (HM2.out w4 hf4).mono ?_;rintro e w5 ⟨rfl, hb5⟩;have hw5 := Bl.tr hw4 hb5
   cases b2 with
   | true =>
    have HLb : Hid (max 0 ((v2 : Int) - (md : Int)) = (L : Int)) := (by show _ = _;rw [HLa.out, if_pos rfl];omega);clear HLa;go_wp2;go_ret;exact ⟨ret_int HLb.out, hw5⟩
   | false =>
    have HLb : Hid ((0 : Int) = (L : Int)) := (by show _ = _;rw [HLa.out];rfl);clear HLa;go_wp2;go_ret;exact ⟨ret_int HLb.out, hw5⟩
  | false =>
   have HLa : Hid (L = if b3 = true ∧ kB = true ∧ v3 ≤ md then min 86400 ((md - v3) / 10) else 0) := (by show _ = _;rw [HL.out, if_neg (by simp)]);clear HL;go_wp2_with fail;refine (HM3.out w4 hf4).mono ?_;rintro e w5 ⟨rfl, hb5⟩;have hw5 := Bl.tr hw4 hb5;have hQ5 := hQ4.on hb5;clear c0 c1 c2 c3 c4 c5 c6;obtain ⟨c0, c1, c2, c3, c4, c5, c6⟩ := hQ5.c7
   cases b3 with
   | false =>
    have HLb : Hid ((0 : Int) = (L : Int)) := (by show _ = _;rw [HLa.out, if_neg (by simp)];rfl);clear HLa;go_wp2;go_ret;exact ⟨ret_int HLb.out, hw5⟩
   | true =>
    cases kB with
    | false =>
     have HLb : Hid ((0 : Int) = (L : Int)) := (by show _ = _;rw [HLa.out, if_neg (by simp)];rfl);clear HLa;go_wp2_with fail;refine (HK.out w5).mono ?_;rintro e w6 ⟨rfl, hw6⟩;obtain rfl : w5 = w6 := hw6.symm;go_wp2;go_ret;exact ⟨ret_int HLb.out, hw5⟩
    | true =>
     by_cases hle : v3 ≤ md
     ·have HLb : Hid (min 86400 (((md : Int) - (v3 : Int)) / 10) = (L : Int)) := by show _ = _;rw [HLa.out, if_pos ⟨rfl, rfl, hle⟩];omega
      clear HLa;go_wp2_with fail;refine (HK.out w5).mono ?_;rintro e w6 ⟨rfl, hw6⟩;obtain rfl : w5 = w6 := hw6.symm;go_wp2;go_ret;exact ⟨ret_int HLb.out, hw5⟩
     ·have HLb : Hid ((0 : Int) = (L : Int)) := by show _ = _;rw [HLa.out, if_neg (by simp;omega)];rfl
      clear HLa;go_wp2_with fail;refine (HK.out w5).mono ?_;rintro e w6 ⟨rfl, hw6⟩;obtain rfl : w5 = w6 := hw6.symm;go_wp2;go_ret;exact ⟨ret_int HLb.out, hw5⟩
 | false =>
  obtain rfl : md = cc := by rw [HMd.out, if_neg (by simp)]
  go_wp2_with fail;refine (HT.out w3).mono ?_;rintro e w3' ⟨rfl, hw3'⟩;obtain rfl : w3 = w3' := hw3'.symm;go_wp2_with fail;refine (HH.out w3 _ hf3).mono ?_;rintro e w4 ⟨rfl, hb4⟩;have hw4 := Bl.tr hw3 hb4;have hf4 := (hf3.below hb4).mono hb4.size;have hQ4 := hQ3.on hb4;clear c0 c1 c2 c3 c4 c5 c6 hw3 hf3 hQ3 hb4 HH;obtain ⟨c0, c1, c2, c3, c4, c5, c6⟩ := hQ4.c7
  cases hE with
  | true =>
   have HLa : Hid (L = if b2 = true then v2 - md else 0) := (by show _ = _;rw [HL.out, if_pos rfl]);clear HL;go_wp2_with fail;refine (HM2.out w4 hf4).mono ?_;rintro e w5 ⟨rfl, hb5⟩;have hw5 := Bl.tr hw4 hb5
   cases b2 with
   | true =>
    have HLb : Hid (max 0 ((v2 : Int) - (md : Int)) = (L : Int)) := (by show _ = _;rw [HLa.out, if_pos rfl];omega);clear HLa;go_wp2;go_ret;exact ⟨ret_int HLb.out, hw5⟩
   | false =>
    have HLb : Hid ((0 : Int) = (L : Int)) := (by show _ = _;rw [HLa.out];rfl);clear HLa;go_wp2;go_ret;exact ⟨ret_int HLb.out, hw5⟩
  | false =>
   have HLa : Hid (L = if b3 = true ∧ kB = true ∧ v3 ≤ md then min 86400 ((md - v3) / 10) else 0) := (by show _ = _;rw [HL.out, if_neg (by simp)]);clear HL;go_wp2_with fail;refine (HM3.out w4 hf4).mono ?_;rintro e w5 ⟨rfl, hb5⟩;have hw5 := Bl.tr hw4 hb5;have hQ5 := hQ4.on hb5;clear c0 c1 c2 c3 c4 c5 c6;obtain ⟨c0, c1, c2, c3, c4, c5, c6⟩ := hQ5.c7
   cases b3 with
   | false =>
    have HLb : Hid ((0 : Int) = (L : Int)) := (by show _ = _;rw [HLa.out, if_neg (by simp)];rfl);clear HLa;go_wp2;go_ret;exact ⟨ret_int HLb.out, hw5⟩
   | true =>
    cases kB with
    | false =>
     have HLb : Hid ((0 : Int) = (L : Int)) := (by show _ = _;rw [HLa.out, if_neg (by simp)];rfl);clear HLa;go_wp2_with fail;refine (HK.out w5).mono ?_;rintro e w6 ⟨rfl, hw6⟩;obtain rfl : w5 = w6 := hw6.symm;go_wp2;go_ret;exact ⟨ret_int HLb.out, hw5⟩
    | true =>
     by_cases hle : v3 ≤ md
     ·have HLb : Hid (min 86400 (((md : Int) - (v3 : Int)) / 10) = (L : Int)) := by show _ = _;rw [HLa.out, if_pos ⟨rfl, rfl, hle⟩];omega
      clear HLa;go_wp2_with fail;refine (HK.out w5).mono ?_;rintro e w6 ⟨rfl, hw6⟩;obtain rfl : w5 = w6 := hw6.symm;go_wp2;go_ret;exact ⟨ret_int HLb.out, hw5⟩
     ·have HLb : Hid ((0 : Int) = (L : Int)) := by show _ = _;rw [HLa.out, if_neg (by simp;omega)];rfl
      clear HLa;go_wp2_with fail;refine (HK.out w5).mono ?_;rintro e w6 ⟨rfl, hw6⟩;obtain rfl : w5 = w6 := hw6.symm;go_wp2;go_ret;exact ⟨ret_int HLb.out, hw5⟩
end Go.Proofs.YtahapblgmehngaaGreatDoor
namespace Go.Dr
def digs (n : Nat) : Bytes := if h : n < 10 then [dg n] else digs (n / 10) ++ [dg n]
decreasing_by omega
theorem digs_small {n : Nat} (h : n < 10) : digs n = [dg n] := by rw [digs, dif_pos h]
theorem digs_step {n : Nat} (h : ¬ n < 10) : digs n = digs (n / 10) ++ [dg n] := by rw [digs, dif_neg h]
theorem digs_length (n : Nat) : ∀ k, n < 10 ^ (k + 1) → (digs n).length ≤ k + 1 := by
 induction n using Nat.strongRecOn with
 | _ n ih =>
  intro k hk;by_cases h : n < 10
  ·rw [digs_small h];simp
  ·rw [digs_step h, List.length_append]
   match k with
   | 0 => simp at hk;omega
   | k + 1 =>
    have := ih (n / 10) (by omega) k (by rw [Nat.pow_succ] at hk;omega)
    simp;omega
def digsP (v : Nat) (T : Bytes) : Bytes := if v = 0 ∧ T ≠ [] then T else digs v ++ T
theorem digsP_step (v : Nat) (T : Bytes) (h : 0 < v ∨ T = []) : digsP (v / 10) (dg v :: T) = digsP v T := by
 have e : digsP v T = digs v ++ T := by
  unfold digsP;rw [if_neg];rintro ⟨h1, h2⟩
  rcases h with h | h
  ·omega
  ·exact h2 h
 rw [e];unfold digsP;by_cases h10 : v < 10
 ·rw [if_pos ⟨by omega, by simp⟩, digs_small h10];rfl
 ·rw [if_neg (by omega), digs_step h10, List.append_assoc];rfl
theorem digsP_zero (T : Bytes) (h : T ≠ []) : digsP 0 T = T := by unfold digsP;rw [if_pos ⟨rfl, h⟩]
theorem len_bound {v k n : Nat} (h : v * 10 ^ k ≤ n) (hn : n ≤ 9223372036854775807) (hv : 0 < v ∨ k = 0) : k ≤ 18 := by
 rcases hv with hv | hv
 ·by_cases hk : k ≤ 18
  ·exact hk
  ·have h1 : 10 ^ 19 ≤ 10 ^ k := Nat.pow_le_pow_right (by decide) (by omega)
   have h2 : 1 * 10 ^ k ≤ v * 10 ^ k := Nat.mul_le_mul_right _ hv;have h3 : (10 : Nat) ^ 19 = 10000000000000000000 := (by decide);omega
 ·omega
theorem pow_next (v k n : Nat) (h : v * 10 ^ k ≤ n) : v / 10 * 10 ^ (k + 1) ≤ n := by
 have h1 : v / 10 * 10 ≤ v := (by omega);have h2 : v / 10 * 10 * 10 ^ k ≤ v * 10 ^ k := Nat.mul_le_mul_right _ h1;rw [Nat.pow_succ, Nat.mul_comm (10 ^ k), ← Nat.mul_assoc];omega
def emptyN (v : Value) : Nat := match v with | .string b => if b.size = 0 then 1 else 0 | _ => 0
end Go.Dr
namespace Go.Proofs.YtahapblgmehngaaGreatDoor
open Go.RowKit Go.Dr
theorem refDigits_any (n : Nat) (w : World) (hn : n ≤ 9223372036854775807) : Calls Tryz.prog 182 #[.int .i64 n, .int .i64 10] w fun e w' => e = .returned (S (digs n)) ∧ Below w.heap.size w w' := by
 go_enter Tryz.func182, Tryz.ntmps182
 go_wp2
 go_loopw [0, 5] (fun v s wr => ∃ (m : Nat) (T : Bytes), v = .int .i64 m ∧ s = S T ∧ Hid (digsP m T = digs n) ∧ m * 10 ^ T.length ≤ n ∧ Below w.heap.size w wr) (fun v s _ => 2 * (intOf v).toNat + emptyN s)
 case atStart => exact ⟨n, [], rfl, rfl, by show digsP n [] = digs n;unfold digsP;simp, by simp, Below.refl _ _⟩
 case round =>
  obtain ⟨m, T, rfl, rfl, HD, hle, hbel⟩ := hrel
  have hm64 : m ≤ 9223372036854775807 := by
   have : 0 < 10 ^ T.length := Nat.pow_pos (by decide)
   have := Nat.le_mul_of_pos_right m this
   omega
  have hcv : ∀ (m : Nat) (w' : World), w'.cell? ⟨wr.heap.size, 0, none⟩ = some (.int .u8 ((m : Int) % 10 + 48)) → (convert 124 9 (.slice (some ⟨wr.heap.size, 0, none⟩) 1 1)).run Tryz.prog w' = .ok (S [dg m]) w' := fun m w' hc =>
   run_convert_bytes_back w' _ _ 5 ⟨wr.heap.size, 0, none⟩ 1 [dg m] Tryz.underlying124 Tryz.underlying5 Tryz.underlying9 (fun j hj => by
    have : j = 0 := (by simp at hj;omega)
    subst this;rw [Addr.add_lit]
    show w'.cell? ⟨wr.heap.size, 0, none⟩ = some (B8 (dg m))
    rw [hc];have := dg_nat m
    congr 2
    omega)
  have hal : ∀ o : Obj, Below w.heap.size w (wr.alloc o) := fun o => hbel.alloc hbel.size o
  by_cases h0 : m = 0
  ·subst h0
   have hcv := hcv 0
   cases T with
   | nil =>
    have HD2 : Hid (digsP 0 [dg 0] = digs n) := (by show _ = _;rw [← HD.out];exact digsP_step 0 [] (.inr rfl));go_wp2
    go_roundw
    case rel => exact ⟨0, [dg 0], rfl, rfl, HD2, by simp, hal _⟩
    case measure => simp [intOf, emptyN, ByteArray.size]
   | cons x r =>
    have HD2 : Hid (x :: r = digs n) := (by show _ = _;rw [← HD.out, digsP_zero _ (by simp)]);go_wp2;go_ret;exact ⟨ret_S HD2.out, hbel⟩
  ·have hlen := len_bound hle hn (.inl (by omega))
   have hcv := hcv m;have HD2 : Hid (digsP (m / 10) (dg m :: T) = digs n) := (by show _ = _;rw [digsP_step m T (.inl (by omega))];exact HD.out);have hle2 := pow_next m T.length n hle;go_wp2
   all_goals first | (exfalso;omega) | skip
   go_roundw
   case rel => exact ⟨m / 10, dg m :: T, by go_num, rfl, HD2, by simpa using hle2, hal _⟩
   case measure => simp [intOf, emptyN, ByteArray.size];omega
end Go.Proofs.YtahapblgmehngaaGreatDoor
namespace Go.Dr
def pragmaT : Bytes := [112, 114, 97, 103, 109, 97]
def pragB (l : List F) : Bool := !decide (0 < (values l cacheControl).length) && (allOf l pragmaT).any fun x => same x noCache
def saysC (l : List F) : Ctl := if pragB l = true then { readC l with nc := true } else readC l
theorem saysC_ok (l : List F) : (saysC l).ok := by
 unfold saysC
 split
 ·exact readC_ok l
 ·exact readC_ok l
def goodB (a b : Ctl) (life age : Nat) : Bool :=
 if (a.nc || b.nc) = true ∨ (0 ≤ a.ma ∧ a.ma < (age : Int)) ∨ (0 ≤ a.mf ∧ (life : Int) - age < a.mf) then false
 else if age < life then true
 else decide (0 ≤ a.ms ∧ (age : Int) - life ≤ a.ms) && !b.mr && !b.px && decide (b.sm < 0)
def goodF (lr lf : List F) (st asked came now : Int) : Bool := goodB (saysC lr) (readC lf) (lifeF lf st came) (ageF lf asked came now)
def GoodNo (a b : Ctl) (life age : Nat) : Prop := a.nc = true ∨ b.nc = true ∨ (0 ≤ a.ma ∧ a.ma < (age : Int)) ∨ (0 ≤ a.mf ∧ (life : Int) - age < a.mf)
instance (a b : Ctl) (life age : Nat) : Decidable (GoodNo a b life age) := by unfold GoodNo;infer_instance
theorem goodNo_iff (a b : Ctl) (life age : Nat) : ((a.nc || b.nc) = true ∨ (0 ≤ a.ma ∧ a.ma < (age : Int)) ∨ (0 ≤ a.mf ∧ (life : Int) - age < a.mf)) ↔ GoodNo a b life age := by
 unfold GoodNo;simp only [Bool.or_eq_true, or_assoc]
theorem good_no {a b : Ctl} {life age : Nat} (h : GoodNo a b life age) : goodB a b life age = false := by
 unfold goodB;rw [if_pos ((goodNo_iff a b life age).2 h)]
theorem good_new {a b : Ctl} {life age : Nat} (h : ¬ GoodNo a b life age) (h2 : age < life) : goodB a b life age = true := by
 unfold goodB;rw [if_neg (fun e => h ((goodNo_iff a b life age).1 e)), if_pos h2]
theorem good_old {a b : Ctl} {life age : Nat} (h : ¬ GoodNo a b life age) (h2 : ¬ age < life) : goodB a b life age = (decide (0 ≤ a.ms ∧ (age : Int) - life ≤ a.ms) && !b.mr && !b.px && decide (b.sm < 0)) := by
 unfold goodB;rw [if_neg (fun e => h ((goodNo_iff a b life age).1 e)), if_neg h2]
def authT : Bytes := [97, 117, 116, 104, 111, 114, 105, 122, 97, 116, 105, 111, 110]
end Go.Dr
namespace Go.Proofs.YtahapblgmehngaaGreatDoor
open Go.RowKit Go.Dr
theorem any_take_succ {α : Type} (p : α → Bool) (l : List α) (k : Nat) (h : k < l.length) (h1 : (l.take k).any p = false) (h2 : p l[k] = false) : (l.take (k + 1)).any p = false := by
 rw [take_snoc l k h, List.any_append, h1];simp [h2]
theorem any_hit {α : Type} (p : α → Bool) (l : List α) (k : Nat) (h : k < l.length) (h2 : p l[k] = true) : l.any p = true := by
 rw [List.any_eq_true];exact ⟨_, List.getElem_mem h, h2⟩
theorem Among_any (name : Bytes) (names : List Bytes) (v : Value) (w : World) (h : Ss w.heap.size w v names) (hn : name.length ≤ 1099511627776) (hl : ssum names ≤ 1099511627776) :
  Calls Tryz.prog 71 #[S name, v] w fun e w' => e = .returned (.bool (among name names)) ∧ Below w.heap.size w w' := by
 obtain ⟨pa, ca, rfl, hm⟩ := h.form;go_enter Tryz.func71, Tryz.ntmps71
 go_wp2
 go_loopw [5] (fun i wr => ∃ k : Nat, i = .int .i64 k ∧ k ≤ names.length ∧ Hid ((names.take k).any (same name) = false) ∧ Below w.heap.size w wr) (fun i _ => names.length - (intOf i).toNat)
 case atStart => exact ⟨0, rfl, Nat.zero_le _, rfl, Below.refl _ _⟩
 case round =>
  obtain ⟨k, rfl, hk, HN, hbel⟩ := hrel;by_cases hlt : k < names.length
  ·obtain ⟨b, off, rfl, hbb, c0⟩ := (h.below hbel).at k hlt
   have hf := ssum_mem (List.getElem_mem hlt);by_cases hs : same name names[k] = true
   ·have HY := Lib.hid (any_hit (same name) names k hlt hs)
    go_wp2_with (go_at_call 110;refine (refSame_any _ _ _ (by omega) (by omega)).mono ?_;rintro e w1 ⟨rfl, hb1⟩)
    go_ret;exact ⟨ret_bool (by rw [among, HY.out]), hbel.trans (hb1.mono hbel.size)⟩
   ·have hs' : same name names[k] = false := by simpa using hs
    have HY := Lib.hid (any_take_succ (same name) names k hlt HN.out hs');clear hs;go_wp2_with (go_at_call 110;refine (refSame_any _ _ _ (by omega) (by omega)).mono ?_;rintro e w1 ⟨rfl, hb1⟩)
    go_roundw
    case rel => exact ⟨k + 1, by go_num, by omega, HY, hbel.trans (hb1.mono hbel.size)⟩
    case measure => simp [intOf];omega
  ·go_wp2
   go_ret;exact ⟨ret_bool (by have := HN.out;rw [List.take_of_length_le (by omega)] at this;rw [among, this]), hbel⟩
theorem Has_any (l : List F) (name el : Bytes) (v : Value) (w : World) (h : Fs w.heap.size w v l) (hl : fsum l ≤ 1099511627776) (hn : name.length ≤ 1099511627776) (he : el.length ≤ 1099511627776) :
  Calls Tryz.prog 97 #[v, S name, S el] w fun e w' => e = .returned (.bool ((allOf l name).any fun x => same x el)) ∧ Below w.heap.size w w' := by
 have HS := ssum_all l name;go_enter Tryz.func97, Tryz.ntmps97
 go_wp2_with fail;refine (All_any l name v w h hl hn).mono ?_;rintro e w1 ⟨vv, rfl, hvv, hb1⟩;have hr : Ss w1.heap.size w1 vv (allOf l name) := Ss.own hvv;generalize hvs : allOf l name = vs at *;have HVS := Lib.hid hvs;clear hvv hvs;obtain ⟨pa, ca, rfl, hm⟩ := hr.form;go_wp2
 go_loopw [13] (fun i wr => ∃ k : Nat, i = .int .i64 k ∧ k ≤ vs.length ∧ Hid ((vs.take k).any (fun x => same x el) = false) ∧ Below w1.heap.size w1 wr) (fun i _ => vs.length - (intOf i).toNat)
 case atStart => exact ⟨0, rfl, Nat.zero_le _, rfl, Below.refl _ _⟩
 case round =>
  obtain ⟨k, rfl, hk, HN, hbel⟩ := hrel;by_cases hlt : k < vs.length
  ·obtain ⟨b, off, rfl, hbb, c0⟩ := (hr.below hbel).at k hlt
   have hf := ssum_mem (List.getElem_mem hlt);by_cases hs : same vs[k] el = true
   ·have HY := Lib.hid (any_hit (fun x => same x el) vs k hlt hs)
    go_wp2_with (go_at_call 98;refine (Same_any _ _ _ (by unfold maxLen;omega) (by unfold maxLen;omega)).mono ?_;rintro e w2 ⟨rfl, hb2⟩)
    go_ret;exact ⟨ret_bool (by rw [HVS.out, HY.out]), Bl.tr hb1 (hbel.trans (hb2.mono hbel.size))⟩
   ·have hs' : same vs[k] el = false := by simpa using hs
    have HY := Lib.hid (any_take_succ (fun x => same x el) vs k hlt HN.out hs');clear hs;go_wp2_with (go_at_call 98;refine (Same_any _ _ _ (by unfold maxLen;omega) (by unfold maxLen;omega)).mono ?_;rintro e w2 ⟨rfl, hb2⟩)
    go_roundw
    case rel => exact ⟨k + 1, by go_num, by omega, HY, hbel.trans (hb2.mono hbel.size)⟩
    case measure => simp [intOf];omega
  ·go_wp2
   go_ret;exact ⟨ret_bool (by have := HN.out;rw [List.take_of_length_le (by omega)] at this;rw [HVS.out, this]), Bl.tr hb1 hbel⟩
theorem refWithout_any (l : List F) (names : List Bytes) (v vn : Value) (w : World) (h : Fs w.heap.size w v l) (h' : Ss w.heap.size w vn names) (hl : fsum l ≤ 1099511627776) (hn : ssum names ≤ 1099511627776) :
  Calls Tryz.prog 101 #[v, vn] w (RetFs 60 w (without l names)) := by
 obtain ⟨pa, ca, rfl, hm⟩ := h.form;have hll := fsum_length l;go_enter Tryz.func101, Tryz.ntmps101
 go_wp2
 go_loopw [5, 6] (fun v i wr => ∃ k : Nat, i = .int .i64 k ∧ k ≤ l.length ∧ wr.ownsRow w.heap.size 60 3 v (without (l.take k) names).length (fcells (without (l.take k) names)) ∧ Below w.heap.size w wr) (fun _ i _ => l.length - (intOf i).toNat)
 case atStart => exact ⟨0, rfl, Nat.zero_le _, World.ownsRow_nil _ _ _ _, Below.refl _ _⟩
 case round =>
  obtain ⟨k, rfl, hk, hown, hbel⟩ := hrel;by_cases hlt : k < l.length
  ·obtain ⟨b, off, rfl, hbb, c0, c1, c2⟩ := (h.below hbel).at k hlt
   have hf := fsum_mem (List.getElem_mem hlt);have HV := Lib.hid (without_snoc l k hlt names);have hvl := without_length (l.take k) names;rw [List.length_take] at hvl;have hbw : b < wr.heap.size := Nat.lt_of_lt_of_le hbb hbel.size;have hnr := (h'.below hbel).mono hbel.size;by_cases hs : among l[k].n names = true
   ·have HV : Hid (without (l.take (k + 1)) names = without (l.take k) names) := by show _ = _;rw [HV.out, if_pos hs, List.append_nil]
    go_wp2_with (go_at_call 71;refine (Among_any _ _ _ _ hnr (by omega) hn).mono ?_;rintro e w1 ⟨rfl, hb1⟩;obtain ⟨hc1, hf1⟩ := bcell hb1)
    go_roundw
    case rel => exact ⟨k + 1, by go_num, by omega, by rw [HV.out];exact own_below hown hb1, hbel.trans (hb1.mono hbel.size)⟩
    case measure => simp [intOf];omega
   ·have HV : Hid (without (l.take (k + 1)) names = without (l.take k) names ++ [l[k]]) := by show _ = _;rw [HV.out, if_neg hs]
    have hs' : among l[k].n names = false := (by simpa using hs)
    clear hs;go_wp2_with (first | (at_builtin;refine wpList_appF rfl _ _ 26 rfl w.heap.size Tryz.underlying26 (by kernel_rfl) _ _ _ rfl (own_below hown hb1) rfl (by omega) (by have := hbel.size;have := hb1.size;omega) rfl ?_;intro a' c' w2 hown2 hb2 hz2) | (go_at_call 71;refine (Among_any _ _ _ _ hnr (by omega) hn).mono ?_;rintro e w1 ⟨rfl, hb1⟩;obtain ⟨hc1, hf1⟩ := bcell hb1))
    go_roundw
    case rel => exact ⟨k + 1, by go_num, by omega, by rw [HV.out, fcells_append, List.length_append];exact hown2, (hbel.trans (hb1.mono hbel.size)).trans hb2⟩
    case measure => simp [intOf];omega
  ·have hk' : k = l.length := by omega
   subst hk';rw [List.take_length] at *;go_wp2;go_ret;exact ⟨_, rfl, hown, hbel⟩
def connection : Bytes := [99, 111, 110, 110, 101, 99, 116, 105, 111, 110]
def own : List Bytes := [connection,
 [112, 114, 111, 120, 121, 45, 99, 111, 110, 110, 101, 99, 116, 105, 111, 110],
 [107, 101, 101, 112, 45, 97, 108, 105, 118, 101],
 [116, 114, 97, 110, 115, 102, 101, 114, 45, 101, 110, 99, 111, 100, 105, 110, 103],
 [117, 112, 103, 114, 97, 100, 101], [116, 101], [116, 114, 97, 105, 108, 101, 114],
 [112, 114, 111, 120, 121, 45, 97, 117, 116, 104, 101, 110, 116, 105, 99, 97, 116, 101],
 [112, 114, 111, 120, 121, 45, 97, 117, 116, 104, 111, 114, 105, 122, 97, 116, 105, 111, 110]]
def strip (l : List F) : List F := without (without l (allOf l connection)) own
theorem ssum_own : ssum own = 115 := by decide
theorem Own_any (w : World) : Calls Tryz.prog 102 #[] w (RetSs 9 w own) := by
 go_enter Tryz.func102, Tryz.ntmps102
 go_wp2;go_ret;refine ⟨_, rfl, ?_, (Below.refl _ _).alloc (Nat.le_refl _) _⟩;exact World.ownsRow_lit w _ 9 (Nat.le_refl _) (by decide) rfl
theorem refStrip_any (l : List F) (v : Value) (w : World) (h : Fs w.heap.size w v l) (hl : fsum l ≤ 1099511627776) :
  Calls Tryz.prog 60 #[v] w (RetFs 60 w (strip l)) := by
 have h1 := ssum_all l connection;have h2 := ssum_own;have h3 := fsum_filter l (fun f => !among f.n (allOf l connection));go_enter Tryz.func60, Tryz.ntmps60
 go_wp2_with fail;refine (refAll_any l connection v w h hl (by decide)).mono ?_;rintro e w1 ⟨va, rfl, hva, hb1⟩;go_wp2_with fail;refine (refWithout_any l _ v va w1 ((h.below hb1).mono hb1.size) (Ss.own hva) hl (by omega)).mono ?_;rintro e w2 ⟨vw, rfl, hvw, hb2⟩;go_wp2_with fail;refine (Own_any w2).mono ?_;rintro e w3 ⟨vo, rfl, hvo, hb3⟩;go_wp2_with fail;refine (refWithout_any _ _ vw vo w3 (Fs.own (own_below hvw hb3)) (Ss.own hvo) (by unfold without;omega) (by omega)).mono ?_;rintro e w4 ⟨vr, rfl, hvr, hb4⟩;go_wp2;go_ret;exact ⟨_, rfl, own_base hvr (Nat.le_trans hb1.size (Nat.le_trans hb2.size hb3.size)), Bl.tr (Bl.tr (Bl.tr hb1 hb2) hb3) hb4⟩
open Go.RowKit Go.Dr
theorem zeroInt (w : World) : (zeroValue 3).run Tryz.prog w = .ok (.int .i64 0) w := by kernel_rfl
theorem stays_any (f : F) (names : List Bytes) (M G : Nat) (w : World) (hM : MapSet w Tryz.prog 9 3 M (names.map low)) (hG : One w G 144 (.map (some M))) (hf : f.n.length ≤ 1099511627776) :
  Calls Tryz.prog 116 #[.agg #[S f.n, S f.v, .bool f.m], .pointer (some ⟨G, 0, none⟩)] w fun e w' => e = .returned (.bool (!among f.n names)) ∧ Below w.heap.size w w' := by
 have hG1 := hG.alloc (.cells #[S f.n, S f.v, .bool f.m] 60);have hM1 := hM.alloc (.cells #[S f.n, S f.v, .bool f.m] 60);have hGlt := hG.lt;have cG := hG1.cell;have hll := low_length f.n;go_enter Tryz.func116, Tryz.ntmps116
 go_wp2_with fail
 go_region_held3 (fun w' => w'.cell? ⟨G, 0, none⟩ = some (.map (some M)) ∧ w'.cell? ⟨w.heap.size, 0, none⟩ = some (S f.n))
  (first | go_keep)
  ((go_at_call 93;refine (Lower_any _ _ (by unfold maxLen;omega)).mono ?_;rintro e w1 ⟨rfl, hb1⟩;have cG1 := (hG1.drew.below hb1 hG1.lt).cell;obtain ⟨hc1, hf1⟩ := bcell hb1;obtain ⟨c, hlk⟩ := ((hM1.drew).below hb1 hM1.lt).look Tryz.underlying9 Tryz.underlying3 Tryz.underlying144 (zeroInt _) (low f.n) (by unfold maxLen;omega);rw [among_map] at hlk))
 go_wp2;go_ret;exact ⟨rfl, ((Below.refl w.heap.size w).alloc (Nat.le_refl _) _).drew.trans (hb1.mono (B' := w.heap.size) (by simp))⟩
theorem map_low_snoc (names : List Bytes) (k : Nat) (h : k < names.length) : (names.take (k + 1)).map low = (names.take k).map low ++ [low names[k]] := by
 rw [take_snoc names k h, List.map_append];rfl
theorem Without_any (l : List F) (names : List Bytes) (v vn : Value) (w : World) (h : Fs w.heap.size w v l) (h' : Ss w.heap.size w vn names) (hl : fsum l ≤ 1099511627776) (hn : ssum names ≤ 1099511627776) :
  Calls Tryz.prog 83 #[v, vn] w (RetFs 60 w (without l names)) := by
 obtain ⟨pa, ca, rfl, hm⟩ := h.form;obtain ⟨pn, cn, rfl, hmn⟩ := h'.form;have hll := fsum_length l;have hnl := ssum_length names;have hmf : ∀ (fn : Fn) (first cap : Array Value) (w : World), (Instr.makeFunc fn first cap).run Tryz.prog w = .ok (.func fn first cap) w := fun _ _ _ _ => rfl
 have hmm := @run_makeMap Tryz.prog;go_enter Tryz.func83, Tryz.ntmps83
 go_wp2
 go_loopw [15] (fun i wr => ∃ k : Nat, i = .int .i64 k ∧ k ≤ names.length ∧ MapSet wr Tryz.prog 9 3 w.heap.size ((names.take k).map low) ∧ One wr (w.heap.size + 1) 144 (.map (some w.heap.size)) ∧ Below w.heap.size w wr) (fun i _ => names.length - (intOf i).toNat)
 case atStart =>
  exact ⟨0, rfl, Nat.zero_le _, (MapSet.made w _ _ _).alloc _, by simpa using One.new (w.alloc (.map #[] 0)) 144 (.map (some w.heap.size)), ((Below.refl _ _).alloc (Nat.le_refl _) _).alloc (by simp) _⟩
 case round =>
  obtain ⟨k, rfl, hk, hM, hG, hbel⟩ := hrel;have cG := hG.cell;have hMlt := hM.lt;have hGlt := hG.lt;by_cases hlt : k < names.length
  ·obtain ⟨b, off, rfl, hbb, c0⟩ := (h'.below hbel).at k hlt
   have hf := ssum_mem (List.getElem_mem hlt);have HM := Lib.hid (map_low_snoc names k hlt);have hll2 := low_length names[k];have hks : ((names.take k).map low).length ≤ k := (by simp;omega);go_wp2_with fail
   go_region_held3 (fun w' => w'.cell? ⟨w.heap.size + 1, 0, none⟩ = some (.map (some w.heap.size)))
    (first | go_keep)
    ((go_at_call 93;refine (Lower_any _ _ (by unfold maxLen;omega)).mono ?_;rintro e w1 ⟨rfl, hb1⟩;have hz1 : wr.heap.size ≤ w1.heap.size := hb1.size;have cG1 := (hG.drew.below hb1 hG.lt).cell;obtain ⟨w2, hup, hM2, hg2⟩ := ((hM.drew).below hb1 hM.lt).store Tryz.underlying9 Tryz.underlying3 Tryz.underlying144 (low names[k]) k (WalkArith.wf_i64 (by omega)) (by unfold maxLen;omega) (by unfold maxLen;omega);have cG2 := hg2.cell cG1 (by simp)))
   go_wp2
   go_roundw
   case rel => exact ⟨k + 1, by go_num, by omega, by rw [HM.out];exact hM2, (hg2.block _ (by omega) (by simp)).trans (hG.drew.below hb1 hG.lt), (hbel.drew.trans (hb1.mono (B' := w.heap.size) hbel.size)).grown hg2 (by omega) (by simp)⟩
   case measure => simp [intOf];omega
  ·have hk' : k = names.length := by omega
   subst hk';rw [List.take_length] at hM;go_wp2;obtain ⟨wo, rfl⟩ : ∃ wo : World, wo = wr := ⟨_, rfl⟩
   go_loopw [9, 28] (fun v i wr' => ∃ k : Nat, i = .int .i64 k ∧ k ≤ l.length ∧ wr'.ownsRow wo.heap.size 60 3 v (without (l.take k) names).length (fcells (without (l.take k) names)) ∧ Below wo.heap.size wo wr') (fun _ i _ => l.length - (intOf i).toNat)
   case atStart => exact ⟨0, rfl, Nat.zero_le _, World.ownsRow_nil _ _ _ _, Below.refl _ _⟩
   case round =>
    obtain ⟨k, rfl, hk, hown, hbel2⟩ := hrel;by_cases hlt : k < l.length
    ·obtain ⟨b, off, rfl, hbb, c0, c1, c2⟩ := ((h.below hbel).below (hbel2.mono hbel.size)).at k hlt
     have hf := fsum_mem (List.getElem_mem hlt);have HV := Lib.hid (without_snoc l k hlt names);have hvl := without_length (l.take k) names;rw [List.length_take] at hvl;have hz2 := hbel2.size;by_cases hs : among l[k].n names = true
     ·have HV : Hid (without (l.take (k + 1)) names = without (l.take k) names) := by show _ = _;rw [HV.out, if_pos hs, List.append_nil]
      go_wp2_with (go_at_call 116;refine (stays_any l[k] names w.heap.size (w.heap.size + 1) _ ((hM.below hbel2 hM.lt).alloc _) ((hG.below hbel2 hG.lt).alloc _) (by omega)).mono ?_;rintro e w1 ⟨rfl, hb1⟩)
      go_roundw
      case rel => exact ⟨k + 1, by go_num, by omega, by rw [HV.out];exact own_below (hown.alloc _) hb1, (hbel2.alloc (by omega) _).trans (hb1.mono (by simp;omega))⟩
      case measure => simp [intOf];omega
     ·have HV : Hid (without (l.take (k + 1)) names = without (l.take k) names ++ [l[k]]) := by show _ = _;rw [HV.out, if_neg hs]
      have hs' : among l[k].n names = false := (by simpa using hs)
      clear hs;go_wp2_with (first | (at_builtin;refine wpList_appF rfl _ _ 26 rfl wo.heap.size Tryz.underlying26 (by kernel_rfl) _ _ _ rfl (own_below (hown.alloc _) hb1) rfl (by omega) (by have := hb1.size;simp at this;omega) rfl ?_;intro a' c' w2 hown2 hb2 hz3) | (go_at_call 116;refine (stays_any l[k] names w.heap.size (w.heap.size + 1) _ ((hM.below hbel2 hM.lt).alloc _) ((hG.below hbel2 hG.lt).alloc _) (by omega)).mono ?_;rintro e w1 ⟨rfl, hb1⟩;obtain ⟨hc1, hf1⟩ := bcell hb1))
      go_roundw
      case rel => exact ⟨k + 1, by go_num, by omega, by rw [HV.out, fcells_append, List.length_append];exact hown2, ((hbel2.alloc (by omega) _).trans (hb1.mono (by simp;omega))).trans hb2⟩
      case measure => simp [intOf];omega
    ·have hk' : k = l.length := by omega
     subst hk';rw [List.take_length] at *;go_wp2;go_ret;exact ⟨_, rfl, own_base hown hbel.size, Bl.tr hbel hbel2⟩
open Go.RowKit Go.Dr
theorem without_both (l : List F) (a b : List Bytes) : without l (a ++ b) = without (without l b) a := by
 simp only [without, List.filter_filter, among, List.any_append]
 congr 1
 funext f
 simp [Bool.not_or]
theorem Strip_any (l : List F) (v : Value) (w : World) (h : Fs w.heap.size w v l) (hl : fsum l ≤ 549755813888) :
  Calls Tryz.prog 48 #[v] w (RetFs 60 w (strip l)) := by
 have h1 := ssum_all l connection;have h2 := ssum_own;have h4 := ssum_length (allOf l connection);have hst : Hid (without l (own ++ allOf l connection) = strip l) := without_both l own (allOf l connection);have hss := ssum_append own (allOf l connection);go_enter Tryz.func48, Tryz.ntmps48
 go_wp2_with fail;refine (All_any l connection v _ ((h.below ((Below.refl _ _).alloc (Nat.le_refl _) _)).mono (by simp)) (by omega) (by decide)).mono ?_;rintro e w1 ⟨va, rfl, hva, hb1⟩;generalize allOf l connection = al at *;have hz1 : w.heap.size + 1 ≤ w1.heap.size := (by have := hb1.size;simpa using this);have ho := own_below (World.ownsRow_lit (base := w.heap.size) (e := 9) (size := 1) w (own.map S).toArray 9 (Nat.le_refl _) (by decide) rfl) hb1;go_wp2_with (at_builtin;refine wpList_appRd rfl _ _ 44 rfl w.heap.size 9 (.string ByteArray.empty) 1 16 Tryz.underlying44 (by kernel_rfl) rfl (by decide) _ _ _ rfl ho _ _ _ _ rfl (Ss.own hva) (S_one _) (by unfold maxLen;omega) (by omega) (by omega) ?_;intro a' c' w2 hown2 hb2)
 have hown2' : w2.ownsRow w.heap.size 9 1 (.slice a' (9 + al.length) c') (own ++ al).length ((own ++ al).map S) := by
  have e : (own ++ al).length = 9 + al.length := (by simp [own];omega);rw [e, List.map_append];exact hown2
 have hw2 : Below w.heap.size w w2 := (((Below.refl _ _).alloc (Nat.le_refl _) _).trans (hb1.mono (by simp))).trans hb2;refine (Without_any l (own ++ al) v _ w2 ((h.below hw2).mono hw2.size) (Ss.own hown2') (by omega) (by omega)).mono ?_;rintro e w3 ⟨vr, rfl, hvr, hb3⟩;rw [hst.out] at hvr;go_wp2;go_ret;exact ⟨_, rfl, own_base hvr hw2.size, Bl.tr hw2 hb3⟩
end Go.Proofs.YtahapblgmehngaaGreatDoor
namespace Go.Dr
open Go.RowKit
theorem cells12 (a0 a1 a2 a3 a4 a5 a6 a7 a8 a9 a10 a11 b0 b1 b2 b3 b4 b5 b6 b7 b8 b9 b10 b11 : Value) : ((((((((((((#[a0, a1, a2, a3, a4, a5, a6, a7, a8, a9, a10, a11] : Array Value).setIfInBounds 0 b0).setIfInBounds 1 b1).setIfInBounds 2 b2).setIfInBounds 3 b3).setIfInBounds 4 b4).setIfInBounds 5 b5).setIfInBounds 6 b6).setIfInBounds 7 b7).setIfInBounds 8 b8).setIfInBounds 9 b9).setIfInBounds 10 b10).setIfInBounds 11 b11 = #[b0, b1, b2, b3, b4, b5, b6, b7, b8, b9, b10, b11] := by simp
theorem Blk.set12 {w : World} {b : Nat} {t : TypeId} {a0 a1 a2 a3 a4 a5 a6 a7 a8 a9 a10 a11 : Value} (h : Blk w b t #[a0, a1, a2, a3, a4, a5, a6, a7, a8, a9, a10, a11]) (b0 b1 b2 b3 b4 b5 b6 b7 b8 b9 b10 b11 : Value) :
  Blk ((((((((((((w.setCell ⟨b, 0, none⟩ b0).setCell ⟨b, 1, none⟩ b1).setCell ⟨b, 2, none⟩ b2).setCell ⟨b, 3, none⟩ b3).setCell ⟨b, 4, none⟩ b4).setCell ⟨b, 5, none⟩ b5).setCell ⟨b, 6, none⟩ b6).setCell ⟨b, 7, none⟩ b7).setCell ⟨b, 8, none⟩ b8).setCell ⟨b, 9, none⟩ b9).setCell ⟨b, 10, none⟩ b10).setCell ⟨b, 11, none⟩ b11) b t #[b0, b1, b2, b3, b4, b5, b6, b7, b8, b9, b10, b11] := by
 have := (((((((((((h.set 0 b0).set 1 b1).set 2 b2).set 3 b3).set 4 b4).set 5 b5).set 6 b6).set 7 b7).set 8 b8).set 9 b9).set 10 b10).set 11 b11
 rwa [cells12] at this
theorem Bl.set12 {B : Nat} {v w : World} (h : Below B v w) {b : Nat} (hb : B ≤ b) (b0 b1 b2 b3 b4 b5 b6 b7 b8 b9 b10 b11 : Value) :
  Below B v ((((((((((((w.setCell ⟨b, 0, none⟩ b0).setCell ⟨b, 1, none⟩ b1).setCell ⟨b, 2, none⟩ b2).setCell ⟨b, 3, none⟩ b3).setCell ⟨b, 4, none⟩ b4).setCell ⟨b, 5, none⟩ b5).setCell ⟨b, 6, none⟩ b6).setCell ⟨b, 7, none⟩ b7).setCell ⟨b, 8, none⟩ b8).setCell ⟨b, 9, none⟩ b9).setCell ⟨b, 10, none⟩ b10).setCell ⟨b, 11, none⟩ b11) :=
 (((((((((((h.setCell (p := ⟨b, 0, none⟩) hb b0).setCell (p := ⟨b, 1, none⟩) hb b1).setCell (p := ⟨b, 2, none⟩) hb b2).setCell (p := ⟨b, 3, none⟩) hb b3).setCell (p := ⟨b, 4, none⟩) hb b4).setCell (p := ⟨b, 5, none⟩) hb b5).setCell (p := ⟨b, 6, none⟩) hb b6).setCell (p := ⟨b, 7, none⟩) hb b7).setCell (p := ⟨b, 8, none⟩) hb b8).setCell (p := ⟨b, 9, none⟩) hb b9).setCell (p := ⟨b, 10, none⟩) hb b10).setCell (p := ⟨b, 11, none⟩) hb b11
theorem Blk.new_at (w : World) (t : TypeId) (xs : Array Value) (g : Nat) (h : w.heap.size = g) : Blk (w.alloc (.cells xs t)) g t xs := by subst h;exact Blk.new w t xs
end Go.Dr
