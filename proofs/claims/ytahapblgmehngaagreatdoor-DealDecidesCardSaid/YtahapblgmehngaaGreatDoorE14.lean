/- Parts of the proof of DealDecides_holds: the texts Rf18c Rf18b Rf18d. -/
import Derived.Test.YtahapblgmehngaaGreatDoorE13
set_option linter.unusedSimpArgs false
set_option linter.unusedVariables false
set_option linter.unnecessarySimpa false
set_option maxRecDepth 100000
set_option maxHeartbeats 64000000
namespace Go.Dr
def knownN : List Nat := [200, 203, 204, 300, 301, 308, 404, 405, 410, 414, 501]
theorem known_hit (st : Int) (k : Nat) (hk : k < knownN.length) (h : (knownN[k] : Int) = st) : knownB st = true := by
 subst h;have : k < 11 := hk
 match k, this with
 | 0, _ | 1, _ | 2, _ | 3, _ | 4, _ | 5, _ | 6, _ | 7, _ | 8, _ | 9, _ | 10, _ => rfl
theorem known_miss (st : Int) (h : ∀ j (hj : j < knownN.length), (knownN[j] : Int) ≠ st) : knownB st = false := by
 have h0 := h 0 (by decide);have h1 := h 1 (by decide);have h2 := h 2 (by decide);have h3 := h 3 (by decide);have h4 := h 4 (by decide);have h5 := h 5 (by decide);have h6 := h 6 (by decide);have h7 := h 7 (by decide);have h8 := h 8 (by decide);have h9 := h 9 (by decide);have h10 := h 10 (by decide);simp [knownN] at h0 h1 h2 h3 h4 h5 h6 h7 h8 h9 h10
 simp [knownB, knownL]
 omega
theorem made_date (l : List F) (came : Int) : (if dateI l dateN came < 0 then ((clampT came : Nat) : Int) else dateI l dateN came) = (madeF l came : Nat) := by
 unfold dateI madeF
 cases momB l dateN came
 ·simp
 ·simp only [if_true]
  rw [if_neg (by omega)]
theorem life_end (l : List F) (st came : Int) (h1 : ¬ 0 ≤ (readC l).sm) (h2 : ¬ 0 ≤ (readC l).ma) (h3 : hasN l expiresN = true) : (if dateI l expiresN came < (madeF l came : Nat) then 0 else dateI l expiresN came - (madeF l came : Nat)) = ((lifeF l st came : Nat) : Int) := by
 unfold lifeF dateI;rw [if_neg h1, if_neg h2, if_pos h3]
 cases momB l expiresN came
 ·simp;intro h;omega
 ·simp only [if_true]
  split <;> omega
theorem life_last (l : List F) (st came : Int) (h1 : ¬ 0 ≤ (readC l).sm) (h2 : ¬ 0 ≤ (readC l).ma) (h3 : ¬ hasN l expiresN = true) : (if knownB st = false ∨ dateI l lastN came < 0 ∨ (madeF l came : Int) < dateI l lastN came then 0 else min 86400 (((madeF l came : Int) - dateI l lastN came) / 10)) = ((lifeF l st came : Nat) : Int) := by
 unfold lifeF dateI;rw [if_neg h1, if_neg h2, if_neg h3]
 cases momB l lastN came
 ·simp
 ·cases knownB st
  ·simp
  ·simp only [if_true, true_and, Bool.true_eq_false, false_or]
   by_cases h : momV l lastN came ≤ madeF l came
   ·rw [if_pos h, if_neg (by omega)];omega
   ·rw [if_neg h, if_pos (by omega)];rfl
end Go.Dr
namespace Go.Proofs.YtahapblgmehngaaGreatDoor
open Go.RowKit Go.Dr
theorem refKnown_any (st : Int) (w : World) : Calls Tryz.prog 78 #[.int .i64 st] w fun e w' => e = .returned (.bool (knownB st)) ∧ Below w.heap.size w w' := by
 have HH := Lib.hid (fun k hk h => known_hit st k hk h);have HM := Lib.hid (fun h => known_miss st h);generalize knownB st = kb at *;obtain ⟨w0, ew⟩ : ∃ w0 : World, w0 = w.alloc (.cells (knownN.map I8).toArray 3) := ⟨_, rfl⟩
 have hI : Is w0.heap.size w0 (.slice (some ⟨w.heap.size, 0, none⟩) 11 11) knownN := by
  rw [ew];exact (Rd.lit w 3 (knownN.map I8).toArray 1 11 rfl (by decide)).mono (by simp)
 have hb0 : Below w.heap.size w w0 := (by rw [ew];exact (Below.refl _ _).alloc (Nat.le_refl _) _);go_enter Tryz.func78, Tryz.ntmps78
 go_wp2
 change Code.wp _ _ _ _ (w.alloc (.cells (knownN.map I8).toArray 3))
 rw [← ew];clear ew
 go_loop [4] (fun i => ∃ k : Nat, i = .int .i64 k ∧ k ≤ 11 ∧ Hid (∀ j (hj : j < knownN.length), j < k → (knownN[j] : Int) ≠ st)) (fun i => 11 - (intOf i).toNat)
 case atStart => exact ⟨0, rfl, Nat.zero_le _, Lib.hid (fun j hj h => by omega)⟩
 case round =>
  obtain ⟨k, rfl, hk, HJ⟩ := hrel;by_cases hlt : k < 11
  ·have hk' : k < knownN.length := hlt
   obtain ⟨b, off, hbo, hbb, c0⟩ := hI.at k hk';simp only [Option.some.injEq, Addr.mk.injEq, and_true] at hbo;obtain ⟨rfl, rfl⟩ := hbo;rw [Nat.zero_add] at c0;obtain ⟨x, hx⟩ : ∃ x, knownN[k]'hk' = x := ⟨_, rfl⟩;rw [hx] at c0;have HX := Lib.hid hx;clear hx;by_cases he : (x : Int) = st
   ·have g : ((x : Int) == st) = true := by simp [he]
    have HR := Lib.hid (HH.out k hk' (by rw [HX.out];exact he));clear he;go_wp2;go_ret;exact ⟨ret_bool HR.out.symm, hb0⟩
   ·have g : ((x : Int) == st) = false := by simp [he]
    have HJ2 : Hid (∀ j (hj : j < knownN.length), j < k + 1 → (knownN[j] : Int) ≠ st) := Lib.hid (fun j hj h => by
     by_cases e : j = k
     ·subst e;rw [HX.out];exact he
     ·exact HJ.out j hj (by omega))
    clear he;go_wp2;go_round
    case rel => exact ⟨k + 1, by go_num, by omega, HJ2⟩
    case measure => simp [intOf];omega
  ·have HR := Lib.hid (HM.out (fun j hj => HJ.out j hj (by have : j < 11 := hj;omega)))
   go_wp2;go_ret;exact ⟨ret_bool HR.out.symm, hb0⟩
theorem refLifetime_any (q : En) (l : List F) (w : World) (h : Fs w.heap.size w q.vf l) (hl : fsum l ≤ 1099511627776) :
  Calls Tryz.prog 43 #[q.val] w fun e w' => e = .returned (.int .i64 (lifeF l q.st q.came : Nat)) ∧ Below w.heap.size w w' := by
 have hD1 := fun w h => refDate_any q l dateN w h hl (by decide)
 have hD2 := fun w h => refDate_any q l expiresN w h hl (by decide)
 have hD3 := fun w h => refDate_any q l lastN w h hl (by decide)
 obtain ⟨pf, cf, hfv, -⟩ := h.form;obtain ⟨key, vp, st, vf, body, asked, came⟩ := q;simp only at hfv h hD1 hD2 hD3 ⊢;subst hfv;simp only [En.val] at hD1 hD2 hD3 ⊢;have hV1 := momV_le l dateN came hl;have hV2 := momV_le l expiresN came hl;have hV3 := momV_le l lastN came hl;have kT := clampT_le came;have hdb1 : -1 ≤ dateI l dateN came ∧ dateI l dateN came ≤ 1000000000000 := (by unfold dateI;split <;> omega);have hdb2 : -1 ≤ dateI l expiresN came ∧ dateI l expiresN came ≤ 1000000000000 := (by unfold dateI;split <;> omega);have hdb3 : -1 ≤ dateI l lastN came ∧ dateI l lastN came ≤ 1000000000000 := (by unfold dateI;split <;> omega);have hmd : madeF l came ≤ 1099511627776 := (by unfold madeF;split <;> omega);have HMd := Lib.hid (made_date l came);have HE := Lib.hid (life_end l st came);have HLa := Lib.hid (life_last l st came);have HS : Hid (0 ≤ (readC l).sm → (readC l).sm = ((lifeF l st came : Nat) : Int)) := Lib.hid (fun h => by unfold lifeF;rw [if_pos h];omega);have HMa : Hid (¬ 0 ≤ (readC l).sm → 0 ≤ (readC l).ma → (readC l).ma = ((lifeF l st came : Nat) : Int)) := Lib.hid (fun h h' => by unfold lifeF;rw [if_neg h, if_pos h'];omega);have hC := readC_ok l;have HR := Lib.hid (fun w v h => refRead_any l v w h hl);have HH := Lib.hid (fun w v h => refHas_any l expiresN v w h hl (by decide));have HHN : Hid (hasB l expiresN = hasN l expiresN) := rfl;have HK := Lib.hid (fun w => refKnown_any st w);have HT := Lib.hid (fun w => refTime_any came w);have HD1 := Lib.hid hD1;have HD2 := Lib.hid hD2;have HD3 := Lib.hid hD3;clear hD1 hD2 hD3 hV1 hV2 hV3;generalize lifeF l st came = L at *;generalize madeF l came = md at *;generalize dateI l dateN came = d1 at *;generalize dateI l expiresN came = d2 at *;generalize dateI l lastN came = d3 at *;generalize hasN l expiresN = hE at *;generalize hasB l expiresN = hB at *;obtain rfl : hB = hE := HHN.out;generalize knownB st = kB at *;generalize clampT came = cc at *;generalize readC l = c at *;have hQ := Blk.new w 36 #[S key, vp, .int .i64 st, .slice pf l.length cf, S body, .int .i64 asked, .int .i64 came];have hbx : Below w.heap.size w (w.alloc (.cells #[S key, vp, .int .i64 st, .slice pf l.length cf, S body, .int .i64 asked, .int .i64 came] 36)) := (Below.refl _ _).alloc (Nat.le_refl _) _;have h1 := (h.below hbx).mono hbx.size;go_enter Tryz.func43, Tryz.ntmps43
 go_wp2_with fail;refine (HR.out _ _ h1).mono ?_;rintro e w1 ⟨rfl, hb1⟩;have hw1 := Bl.tr hbx hb1;have hf1 := (h1.below hb1).mono hb1.size;have hQ1 := hQ.on hb1;clear hQ h1 hbx h hb1;have hal : Below w1.heap.size w1 (w1.alloc (.cells c.cells 80)) := (Below.refl _ _).alloc (Nat.le_refl _) _;have hX2 := Blk.new w1 80 c.cells;have hw2 := Bl.tr hw1 hal;have hf2 := (hf1.below hal).mono hal.size;have hQ2 := hQ1.on hal;have hlt := hQ1.lt;obtain ⟨z0, z1, z2, z3, z4, z5, z6⟩ := hQ1.c7;go_wp2_with fail
 change Calls _ _ _ (w1.alloc (.cells c.cells 80)) _
 clear z0 z1 z2 z3 z4 z5 z6 hal hlt hQ1 hf1 hw1;generalize w1.alloc (.cells c.cells 80) = w2 at *;generalize w1.heap.size = bc at *;refine (HD1.out w2 hf2).mono ?_;rintro e w3 ⟨rfl, hb3⟩;have hw3 := Bl.tr hw2 hb3;have hf3 := (hf2.below hb3).mono hb3.size;have hQ3 := hQ2.on hb3;have hX3 := hX2.on hb3;clear hw2 hf2 hQ2 hX2 hb3 HD1 HR;have y6 : w3.cell? ⟨w.heap.size, 6, none⟩ = some (.int .i64 came) := hQ3.cell 6;go_upto_if 14 with fail
 go_cut [4] (fun s wx => s = .int .i64 (md : Nat) ∧ w3 = wx)
 case first =>
  by_cases g1 : d1 < 0
  ·have HX : Hid ((cc : Int) = (md : Nat)) := by show _ = _;rw [← HMd.out, if_pos g1]
   go_wp2_with fail;refine (HT.out _).mono ?_;rintro e w4 ⟨rfl, rfl⟩;go_wp2;go_meet
   exact ⟨congrArg (Value.int .i64) HX.out, rfl⟩
  ·have HX : Hid (d1 = (md : Nat)) := by show _ = _;rw [← HMd.out, if_neg g1]
   go_wp2;go_meet
   exact ⟨congrArg (Value.int .i64) HX.out, rfl⟩
 case rest =>
  obtain ⟨rfl, rfl⟩ := hcut;clear y6 HMd HT hdb1;have k8 := hX3.k8;have k9 := hX3.k9;by_cases g1 : 0 ≤ c.sm
  ·have HX := Lib.hid (HS.out g1)
   go_wp2;go_ret;exact ⟨ret_int HX.out, hw3⟩
  by_cases g2 : 0 ≤ c.ma
  ·have HX := Lib.hid (HMa.out (by omega) g2)
   go_wp2;go_ret;exact ⟨ret_int HX.out, hw3⟩
  have HEa := Lib.hid (HE.out (by omega) (by omega));have HLb := Lib.hid (HLa.out (by omega) (by omega));clear HS HMa HE HLa;have y3 : w3.cell? ⟨w.heap.size, 3, none⟩ = some (.slice pf l.length cf) := hQ3.cell 3;go_wp2_with fail;refine (HH.out w3 _ hf3).mono ?_;rintro e w4 ⟨rfl, hb4⟩;have hw4 := Bl.tr hw3 hb4;have hf4 := (hf3.below hb4).mono hb4.size;have hQ4 := hQ3.on hb4;clear hw3 hf3 hQ3 hb4 HH y3 k8 k9 hX3;obtain ⟨y0, y1, y2, y3, y4, y5, y6⟩ := hQ4.c7
  cases hB with
  | true =>
   have HEb : Hid ((if d2 < (md : Int) then 0 else d2 - (md : Int)) = ((L : Nat) : Int)) := Lib.hid (HEa.out (by first | rfl | trivial));clear HEa HLb;go_wp2_with fail;refine (HD2.out w4 hf4).mono ?_;rintro e w5 ⟨rfl, hb5⟩;have hw5 := Bl.tr hw4 hb5;by_cases g3 : d2 < (md : Int)
   ·have HX : Hid ((0 : Int) = (L : Nat)) := by show _ = _;rw [← HEb.out, if_pos g3]
    go_wp2;go_ret;exact ⟨ret_int HX.out, hw5⟩
   ·have HX : Hid (d2 - (md : Int) = (L : Nat)) := by show _ = _;rw [← HEb.out, if_neg g3]
    go_wp2;go_ret;exact ⟨ret_int HX.out, hw5⟩
  | false =>
   have HLc : Hid ((if kB = false ∨ d3 < 0 ∨ (md : Int) < d3 then 0 else min 86400 (((md : Int) - d3) / 10)) = ((L : Nat) : Int)) := Lib.hid (HLb.out (by simp));clear HEa HLb;go_wp2_with fail;refine (HD3.out w4 hf4).mono ?_;rintro e w5 ⟨rfl, hb5⟩;have hw5 := Bl.tr hw4 hb5;have hQ5 := hQ4.on hb5;clear y0 y1 y2 y3 y4 y5 y6;have y2 : w5.cell? ⟨w.heap.size, 2, none⟩ = some (.int .i64 st) := hQ5.cell 2;go_wp2_with fail;refine (HK.out w5).mono ?_;rintro e w6 ⟨rfl, hb6⟩;have hw6 := Bl.tr hw5 hb6
   cases kB with
   | false =>
    have HX : Hid ((0 : Int) = (L : Nat)) := (by show _ = _;rw [← HLc.out, if_pos (.inl rfl)]);go_wp2;go_ret;exact ⟨ret_int HX.out, hw6⟩
   | true =>
    by_cases g4 : d3 < 0
    ·have HX : Hid ((0 : Int) = (L : Nat)) := by show _ = _;rw [← HLc.out, if_pos (.inr (.inl g4))]
     go_wp2;go_ret;exact ⟨ret_int HX.out, hw6⟩
    by_cases g5 : (md : Int) < d3
    ·have HX : Hid ((0 : Int) = (L : Nat)) := by show _ = _;rw [← HLc.out, if_pos (.inr (.inr g5))]
     go_wp2;go_ret;exact ⟨ret_int HX.out, hw6⟩
    have HX : Hid (min 86400 (((md : Int) - d3) / 10) = (L : Nat)) := by
     show _ = _
     rw [← HLc.out, if_neg];rintro (e | e | e)
     ·cases e
     ·exact g4 e
     ·exact g5 e
    have hq : ((md : Int) - d3).tdiv 10 = ((md : Int) - d3) / 10 := Int.tdiv_eq_ediv_of_nonneg (by omega);by_cases g6 : 86400 < ((md : Int) - d3) / 10
    ·have HY : Hid ((86400 : Int) = (L : Nat)) := by show _ = _;rw [← HX.out];omega
     go_wp2;go_ret;exact ⟨ret_int HY.out, hw6⟩
    ·have HY : Hid (((md : Int) - d3) / 10 = (L : Nat)) := by show _ = _;rw [← HX.out];omega
     go_wp2;go_ret;exact ⟨ret_int HY.out, hw6⟩
end Go.Proofs.YtahapblgmehngaaGreatDoor
namespace Go.Dr
theorem app_date (l : List F) (came : Int) : (if 0 ≤ dateI l dateN came ∧ dateI l dateN came < (clampT came : Nat) then ((clampT came : Nat) : Int) - dateI l dateN came else 0) = (appF l came : Nat) := by
 unfold dateI appF
 cases momB l dateN came
 ·simp
 ·simp only [if_true]
  split <;> omega
theorem appF_le (l : List F) (came : Int) : appF l came ≤ 1099511627776 := by
 have := clampT_le came
 unfold appF;split <;> omega
theorem dateI_le (l : List F) (name : Bytes) (came : Int) (h : momV l name came ≤ 1000000000000) : -1 ≤ dateI l name came ∧ dateI l name came ≤ 1000000000000 := by
 unfold dateI;split <;> omega
theorem told_nil {l : List F} (h : values l ageN = []) : toldF l = 0 := by unfold toldF;rw [h]
theorem told_cons {l : List F} {x : Bytes} {r : List Bytes} (h : values l ageN = x :: r) : toldF l = if (number 10 x).2 = 11 then 1099511627776 else (number 10 x).1 := by unfold toldF;rw [h];rfl
end Go.Dr
namespace Go.Proofs.YtahapblgmehngaaGreatDoor
open Go.RowKit Go.Dr
theorem refAge_any (q : En) (l : List F) (now : Int) (w : World) (h : Fs w.heap.size w q.vf l) (hl : fsum l ≤ 1099511627776) :
  Calls Tryz.prog 44 #[q.val, .int .i64 now] w fun e w' => e = .returned (.int .i64 (ageF l q.asked q.came now : Nat)) ∧ Below w.heap.size w w' := by
 have hD := fun w h => refDate_any q l dateN w h hl (by decide)
 obtain ⟨pf, cf, hfv, -⟩ := h.form;obtain ⟨key, vp, st, vf, body, asked, came⟩ := q;simp only at hfv h hD ⊢;subst hfv;simp only [En.val] at hD ⊢;have HA : Hid (ageF l asked came now = min 1099511627776 (max (appF l came) (toldF l + (clampT came - clampT asked)) + (clampT now - clampT came))) := rfl;have HP := Lib.hid (app_date l came);have hv := dateI_le l dateN came (momV_le l dateN came hl);have ht := toldF_le l;have hap := appF_le l came;have k1 := clampT_le asked;have k2 := clampT_le came;have k3 := clampT_le now;have HT1 := Lib.hid (fun h => told_nil (l := l) h);have HT2 := Lib.hid (fun x r h => told_cons (l := l) (x := x) (r := r) h);have hSS := ssum_values l ageN;have C1 := Lib.hid (fun w => refTime_any asked w);have C2 := Lib.hid (fun w => refTime_any came w);have C3 := Lib.hid (fun w => refTime_any now w);have HD := Lib.hid hD;generalize dateI l dateN came = D at *;generalize toldF l = tl at *;generalize ageF l asked came now = A at *;generalize appF l came = ap at *;generalize clampT asked = ca at *;generalize clampT came = cc at *;generalize clampT now = cn at *;clear hD;have hQ := Blk.new w 36 #[S key, vp, .int .i64 st, .slice pf l.length cf, S body, .int .i64 asked, .int .i64 came];have hbx : Below w.heap.size w (w.alloc (.cells #[S key, vp, .int .i64 st, .slice pf l.length cf, S body, .int .i64 asked, .int .i64 came] 36)) := (Below.refl _ _).alloc (Nat.le_refl _) _;have h1 := (h.below hbx).mono hbx.size;go_enter Tryz.func44, Tryz.ntmps44
 go_wp2_with fail;refine (C1.out _).mono ?_;rintro e w1 ⟨rfl, rfl⟩;go_wp2_with fail;refine (C2.out _).mono ?_;rintro e w1 ⟨rfl, rfl⟩;go_wp2_with fail;refine (C3.out _).mono ?_;rintro e w1 ⟨rfl, rfl⟩;go_wp2_with fail;generalize w.alloc (.cells #[S key, vp, .int .i64 st, .slice pf l.length cf, S body, .int .i64 asked, .int .i64 came] 36) = w0 at *;refine (HD.out w0 h1).mono ?_;rintro e w3 ⟨rfl, hb3⟩;have h3 := (h1.below hb3).mono hb3.size;have hQ3 := hQ.on hb3;have hw3 := Bl.tr hbx hb3;clear h1 hQ hbx hb3 HD C1 C2 C3 h;go_upto_region 6 with fail
 go_cut [29] (fun s wx => s = .bool (decide (0 ≤ D ∧ D < (cc : Int))) ∧ w3 = wx)
 case first =>
  by_cases g1 : 0 ≤ D
  all_goals
   go_wp2;go_meet
   exact ⟨congrArg Value.bool (by first | (simp [g1];done) | (simp;intros;omega)), rfl⟩
 case rest =>
  obtain ⟨rfl, rfl⟩ := hcut;go_upto_if 29 with fail
  go_cut [8] (fun s wx => s = .int .i64 (ap : Nat) ∧ w3 = wx)
  case first =>
   by_cases g1 : 0 ≤ D ∧ D < (cc : Int)
   ·have HP1 : Hid ((cc : Int) - D = (ap : Nat)) := by show _ = _;rw [← HP.out, if_pos g1]
    have g2 : decide (0 ≤ D ∧ D < (cc : Int)) = true := (by rw [decide_eq_true_iff];exact g1);rw [g2];clear g2;go_wp2;go_meet
    exact ⟨congrArg (Value.int .i64) HP1.out, rfl⟩
   ·have HP1 : Hid ((0 : Int) = (ap : Nat)) := by show _ = _;rw [← HP.out, if_neg g1]
    have g2 : decide (0 ≤ D ∧ D < (cc : Int)) = false := (by rw [decide_eq_false_iff_not];exact g1);rw [g2];clear g1 g2;go_wp2;go_meet
    exact ⟨congrArg (Value.int .i64) HP1.out, rfl⟩
  case rest =>
   obtain ⟨rfl, rfl⟩ := hcut;clear HP hv;have c3 : w3.cell? ⟨w.heap.size, 3, none⟩ = some (.slice pf l.length cf) := hQ3.cell 3;go_wp2_with fail;refine (refValues_any l ageN _ _ h3 hl (by decide)).mono ?_;rintro e w4 ⟨vv, rfl, hvv, hb4⟩;have hr : Ss w4.heap.size w4 vv (values l ageN) := Ss.own hvv;generalize values l ageN = vs at *;obtain ⟨pa, cp, rfl, hm⟩ := hr.form;have hw4 := Bl.tr hw3 hb4;clear hvv h3 hQ3 hb4 hw3 c3;go_upto_if 38 with fail
   go_cut [9] (fun s wx => s = .int .i64 (tl : Nat) ∧ w4 = wx)
   case first =>
    match vs, hr, HT1, HT2, hm, hSS with
    | [], hr, HT1, HT2, hm, hSS =>
     have HX := Lib.hid (HT1.out rfl);go_wp2;go_meet
     exact ⟨congrArg (Value.int .i64) (by rw [HX.out];rfl), rfl⟩
    | x :: r, hr, HT1, HT2, hm, hSS =>
     obtain ⟨b, off, rfl, hbb, c0⟩ := hr.at 0 (by simp);simp at c0
     have hx : x.length ≤ maxLen := (by simp [ssum] at hSS;unfold maxLen;omega);have HX := Lib.hid (HT2.out x r rfl);have g : decide ((0 : Int) < ((x :: r).length : Int)) = true := (by rw [decide_eq_true_iff];simp);have g2 : decide (0 < (x :: r).length) = true := (by rw [decide_eq_true_iff];simp);have hn0 : 0 < (x :: r).length := (by simp);have CD := Lib.hid (fun w => refDecimal_any x w hx);have hle := number_le 10 x;unfold greatest at hle;clear hSS HT1 HT2;generalize (x :: r).length = n at *;generalize number 10 x = nr at *;go_wp2_with fail;refine (CD.out _).mono ?_;rintro e w' ⟨rfl, rfl⟩;by_cases h11 : nr.2 = 11
     ·have g3 : ((nr.2 : Int) == 11) = true := by rw [h11];rfl
      have HX : Hid (tl = 1099511627776) := (by show _ = _;rw [HX.out, if_pos h11]);clear h11;go_wp2;go_meet
      exact ⟨congrArg (Value.int .i64) (by rw [HX.out];rfl), rfl⟩
     ·have g3 : ((nr.2 : Int) == 11) = false := by rw [beq_eq_false_iff_ne];omega
      have HX : Hid (tl = nr.1) := (by show _ = _;rw [HX.out, if_neg h11]);clear h11;go_wp2;go_meet
      exact ⟨congrArg (Value.int .i64) (by rw [HX.out]), rfl⟩
   case rest =>
    obtain ⟨rfl, rfl⟩ := hcut;clear HT1 HT2 hSS hr;go_upto_if 51 with fail
    go_cut [9] (fun s wx => s = .int .i64 ((tl + (cc - ca) : Nat)) ∧ w4 = wx)
    case first =>
     by_cases g1 : ca < cc
     all_goals
      go_wp2;go_meet
      exact ⟨congrArg (Value.int .i64) (by omega), rfl⟩
    case rest =>
     obtain ⟨rfl, rfl⟩ := hcut;obtain ⟨s1, hs1⟩ : ∃ s1 : Nat, s1 = tl + (cc - ca) := ⟨_, rfl⟩;rw [← hs1];have hs1b : s1 ≤ 2199023255552 := (by omega);have HS1 := Lib.hid hs1;clear hs1;go_upto_if 59 with fail
     go_cut [8] (fun s wx => s = .int .i64 ((max ap s1 : Nat)) ∧ w4 = wx)
     case first =>
      by_cases g1 : ap < s1
      all_goals
       go_wp2;go_meet
       exact ⟨congrArg (Value.int .i64) (by omega), rfl⟩
     case rest =>
      obtain ⟨rfl, rfl⟩ := hcut;obtain ⟨s2, hs2⟩ : ∃ s2 : Nat, s2 = max ap s1 := ⟨_, rfl⟩;rw [← hs2];have hs2b : s2 ≤ 2199023255552 := (by omega);have HS2 := Lib.hid hs2;clear hs2;go_upto_if 63 with fail
      go_cut [8] (fun s wx => s = .int .i64 ((s2 + (cn - cc) : Nat)) ∧ w4 = wx)
      case first =>
       by_cases g1 : cc < cn
       all_goals
        go_wp2;go_meet
        exact ⟨congrArg (Value.int .i64) (by omega), rfl⟩
      case rest =>
       obtain ⟨rfl, rfl⟩ := hcut;obtain ⟨s3, hs3⟩ : ∃ s3 : Nat, s3 = s2 + (cn - cc) := ⟨_, rfl⟩;rw [← hs3];have HAx : Hid (A = min 1099511627776 s3) := (by show _ = _;rw [HA.out, hs3, HS2.out, HS1.out]);have hs3b : s3 ≤ 4398046511104 := (by omega);clear hs3 HA HS1 HS2;by_cases g1 : 1099511627776 < s3
       ·have g2 : decide ((1099511627776 : Int) < (s3 : Int)) = true := by rw [decide_eq_true_iff];omega
        have HAx : Hid ((1099511627776 : Int) = (A : Nat)) := (by show _ = _;rw [HAx.out];omega);clear g1;go_wp2;go_ret;exact ⟨ret_int HAx.out, hw4⟩
       ·have g2 : decide ((1099511627776 : Int) < (s3 : Int)) = false := by rw [decide_eq_false_iff_not];omega
        have HAx : Hid ((s3 : Int) = (A : Nat)) := (by show _ = _;rw [HAx.out];omega);clear g1;go_wp2;go_ret;exact ⟨ret_int HAx.out, hw4⟩
end Go.Proofs.YtahapblgmehngaaGreatDoor
namespace Go.Dr
theorem same_comm (a b : Bytes) : same a b = same b a := by unfold same;rw [Bool.eq_iff_iff];simp only [beq_iff_eq];exact eq_comm
theorem among_any (n : Bytes) (l : List Bytes) : among n l = l.any fun x => same x n := by
 unfold among
 congr 1
 funext x
 exact same_comm n x
end Go.Dr
namespace Go.Proofs.YtahapblgmehngaaGreatDoor
open Go.RowKit Go.Dr
theorem ret_rsays {W : World} {tmps : Array Value} {b : Nat} {c : Ctl} {R : Ending → World → Prop} (hs : tmps[2]? = some (.pointer (some ⟨b, 0, none⟩))) (h : Blk W b 80 c.cells) (hR : R (.returned c.val) W) :
  bodyPost Tryz.prog Tryz.f40 R .ret { tmps := tmps, defers := [] } W := by
 obtain ⟨g0, g1, g2, g3, g4, g5, g6, g7, g8, g9, g10, g11⟩ := h.c12;exact bodyPost_ret (v := c.val) (by simp [results, Tryz.results40, go_sem, hs, g0, g1, g2, g3, g4, g5, g6, g7, g8, g9, g10, g11]) rfl hR
theorem refSays18_any (r : Rq) (l : List F) (w : World) (h : Fs w.heap.size w r.v l) (hl : fsum l ≤ 1099511627776) :
  Calls Tryz.prog 40 #[r.val] w fun e w' => e = .returned (saysC l).val ∧ Below w.heap.size w w' := by
 obtain ⟨pr, cr, hrv, -⟩ := h.form;obtain ⟨rm, rs, ra, rp, rv⟩ := r;simp only at hrv h;subst hrv;simp only [Rq.val];have HP : Hid (pragB l = (!hasB l cacheControl && among noCache (allOf l pragmaT))) := Lib.hid (by rw [among_any];rfl);have HY := Lib.hid (fun h => says_yes (l := l) h);have HN := Lib.hid (fun h => says_no (l := l) h);generalize saysC l = C at *;generalize pragB l = pb at *;obtain ⟨w0, ew⟩ : ∃ w0 : World, w0 = (w.alloc (.cells #[S rm, S rs, S ra, S rp, .slice pr l.length cr] 28)).alloc (.cells #[.bool false, .bool false, .bool false, .bool false, .bool false, .bool false, .bool false, .bool false, .int .i64 0, .int .i64 0, .int .i64 0, .int .i64 0] 80) := ⟨_, rfl⟩;have hQ0 : Blk w0 w.heap.size 28 #[S rm, S rs, S ra, S rp, .slice pr l.length cr] := (by rw [ew];exact (Blk.new _ _ _).alloc _)
 have hZ0 : Blk w0 (w.heap.size + 1) 80 #[.bool false, .bool false, .bool false, .bool false, .bool false, .bool false, .bool false, .bool false, .int .i64 0, .int .i64 0, .int .i64 0, .int .i64 0] := by
  rw [ew];have := Blk.new (w.alloc (.cells #[S rm, S rs, S ra, S rp, .slice pr l.length cr] 28)) 80 #[.bool false, .bool false, .bool false, .bool false, .bool false, .bool false, .bool false, .bool false, .int .i64 0, .int .i64 0, .int .i64 0, .int .i64 0]
  rwa [show (w.alloc (.cells #[S rm, S rs, S ra, S rp, .slice pr l.length cr] 28)).heap.size = w.heap.size + 1 by simp] at this
 have hb0 : Below w.heap.size w w0 := (by rw [ew];exact ((Below.refl _ _).alloc (Nat.le_refl _) _).alloc (by simp) _);have h0 := (h.below hb0).mono hb0.size;have hz0 := hZ0.lt;go_enter Tryz.func40, Tryz.ntmps40
 go_wp2_with fail;rw [← ew];clear ew h;refine (refRead_any l _ w0 h0 hl).mono ?_;rintro e w1 ⟨rfl, hb1⟩;have hQ1 := hQ0.on hb1;have hZ1 := hZ0.on hb1;have h1 := (h0.below hb1).mono hb1.size;have hw1 := Bl.tr hb0 hb1;have hz1 : w.heap.size + 1 < w1.heap.size := Nat.lt_of_lt_of_le hz0 hb1.size;clear hQ0 hZ0 h0 hb0 hb1 hz0;generalize readC l = c at *;have hal : Below w1.heap.size w1 (w1.alloc (.cells #[.bool c.ns, .bool c.nc, .bool c.nt, .bool c.pu, .bool c.pr, .bool c.mr, .bool c.px, .bool c.oi, .int .i64 c.ma, .int .i64 c.sm, .int .i64 c.mf, .int .i64 c.ms] 80)) := (Below.refl _ _).alloc (Nat.le_refl _) _;have hX2 := Blk.new w1 80 c.cells;have hQ2 := hQ1.on hal;have hZ2 := hZ1.on hal;have h2 := (h1.below hal).mono hal.size;have hw2 := Bl.tr hw1 hal;have q4 : w1.cell? ⟨w.heap.size, 4, none⟩ = some (.slice pr l.length cr) := hQ1.cell 4;have hlt := hQ1.lt;go_wp2_with fail;clear hlt
 change Calls _ _ _ (w1.alloc (.cells c.cells 80)) _
 change Blk (w1.alloc (.cells c.cells 80)) w.heap.size _ _ at hQ2
 change Blk (w1.alloc (.cells c.cells 80)) (w.heap.size + 1) _ _ at hZ2
 change Fs (w1.alloc (.cells c.cells 80)).heap.size (w1.alloc (.cells c.cells 80)) _ _ at h2
 change Below w.heap.size w (w1.alloc (.cells c.cells 80)) at hw2
 clear hal;generalize w1.alloc (.cells c.cells 80) = w2 at *;clear hQ1 hZ1 h1 hw1 q4;generalize w1.heap.size = bc at *;refine (refHas_any l cacheControl _ w2 h2 hl (by decide)).mono ?_;rintro e w3 ⟨rfl, hb3⟩;have hQ3 := hQ2.on hb3;have hX3 := hX2.on hb3;have hZ3 := hZ2.on hb3;have h3 := (h2.below hb3).mono hb3.size;have hw3 := Bl.tr hw2 hb3;clear hQ2 hX2 hZ2 h2 hw2 hb3;have hsa := ssum_all l pragmaT;generalize hasB l cacheControl = hb at *;have q4 : w3.cell? ⟨w.heap.size, 4, none⟩ = some (.slice pr l.length cr) := hQ3.cell 4
 cases hb with
 | false =>
  go_wp2_with fail;refine (refAll_any l pragmaT _ w3 h3 hl (by decide)).mono ?_;rintro e wa ⟨vt, rfl, hvt, hba⟩;have hta := Ss.own hvt;have hXa := hX3.on hba;have hZa := hZ3.on hba;have hwa := Bl.tr hw3 hba;clear hvt hQ3 hX3 hZ3 h3 hw3 hba q4;generalize allOf l pragmaT = tags at *;go_wp2_with fail;refine (Among_any noCache tags _ wa hta (by decide) (by omega)).mono ?_;rintro e w4 ⟨rfl, hb4⟩;have hX4 := hXa.on hb4;have hZ4 := hZa.on hb4;have hw4 := Bl.tr hwa hb4;clear hXa hZa hwa hb4 hta;generalize among noCache tags = a at *;obtain ⟨x0, x1, x2, x3, x4, x5, x6, x7, x8, x9, x10, x11⟩ := hX4.c12;have fx := hX4.free 1;have fz := hZ4.free;obtain ⟨z0, z1, z2, z3, z4, z5, z6, z7, z8, z9, z10, z11⟩ := hZ4.c12
  cases a with
  | true =>
   have HC := Lib.hid (HY.out (by rw [HP.out];rfl));go_wp2_with fail;have hR := (hZ4.other (p := ⟨bc, 1, none⟩) (by show w.heap.size + 1 ≠ bc;omega) (.bool true)).set12 (.bool c.ns) (.bool true) (.bool c.nt) (.bool c.pu) (.bool c.pr) (.bool c.mr) (.bool c.px) (.bool c.oi) (.int .i64 c.ma) (.int .i64 c.sm) (.int .i64 c.mf) (.int .i64 c.ms);have hB := Bl.set12 (hw4.setCell (p := ⟨bc, 1, none⟩) (by show w.heap.size ≤ bc;omega) (.bool true)) (b := w.heap.size + 1) (by omega) (.bool c.ns) (.bool true) (.bool c.nt) (.bool c.pu) (.bool c.pr) (.bool c.mr) (.bool c.px) (.bool c.oi) (.int .i64 c.ma) (.int .i64 c.sm) (.int .i64 c.mf) (.int .i64 c.ms);exact ret_rsays (c := { c with nc := true }) rfl hR ⟨by rw [HC.out], hB⟩
  | false =>
   have HC := Lib.hid (HN.out (by rw [HP.out];rfl));go_wp2_with fail;have hR := hZ4.set12 (.bool c.ns) (.bool c.nc) (.bool c.nt) (.bool c.pu) (.bool c.pr) (.bool c.mr) (.bool c.px) (.bool c.oi) (.int .i64 c.ma) (.int .i64 c.sm) (.int .i64 c.mf) (.int .i64 c.ms);have hB := Bl.set12 hw4 (b := w.heap.size + 1) (by omega) (.bool c.ns) (.bool c.nc) (.bool c.nt) (.bool c.pu) (.bool c.pr) (.bool c.mr) (.bool c.px) (.bool c.oi) (.int .i64 c.ma) (.int .i64 c.sm) (.int .i64 c.mf) (.int .i64 c.ms);exact ret_rsays (c := c) rfl hR ⟨by rw [HC.out], hB⟩
 | true =>
  have HC := Lib.hid (HN.out (by rw [HP.out];rfl));clear hQ3;obtain ⟨x0, x1, x2, x3, x4, x5, x6, x7, x8, x9, x10, x11⟩ := hX3.c12;have fz := hZ3.free;obtain ⟨z0, z1, z2, z3, z4, z5, z6, z7, z8, z9, z10, z11⟩ := hZ3.c12;go_wp2_with fail;have hR := hZ3.set12 (.bool c.ns) (.bool c.nc) (.bool c.nt) (.bool c.pu) (.bool c.pr) (.bool c.mr) (.bool c.px) (.bool c.oi) (.int .i64 c.ma) (.int .i64 c.sm) (.int .i64 c.mf) (.int .i64 c.ms);have hB := Bl.set12 hw3 (b := w.heap.size + 1) (by omega) (.bool c.ns) (.bool c.nc) (.bool c.nt) (.bool c.pu) (.bool c.pr) (.bool c.mr) (.bool c.px) (.bool c.oi) (.int .i64 c.ma) (.int .i64 c.sm) (.int .i64 c.mf) (.int .i64 c.ms);exact ret_rsays (c := c) rfl hR ⟨by rw [HC.out], hB⟩
theorem refGood_any (r : Rq) (q : En) (lr lf : List F) (now : Int) (w : World) (hr : Fs w.heap.size w r.v lr) (hf : Fs w.heap.size w q.vf lf) (hl : fsum lr ≤ 1099511627776) (hl2 : fsum lf ≤ 1099511627776) :
    Calls Tryz.prog 14 #[r.val, q.val, .int .i64 now] w fun e w' => e = .returned (.bool (goodF lr lf q.st q.asked q.came now)) ∧ Below w.heap.size w w' := by
  have hS := fun w h => refSays18_any r lr w h hl
  have hLi := fun w h => refLifetime_any q lf w h hl2
  have hAg := fun w h => refAge_any q lf now w h hl2
  obtain ⟨pr, cr, hrv, -⟩ := hr.form;obtain ⟨pf, cf, hfv, -⟩ := hf.form;obtain ⟨rm, rs, ra, rp, rv⟩ := r;obtain ⟨key, vp, st, vf, body, asked, came⟩ := q;simp only at hrv hfv hr hf hS hLi hAg ⊢;subst hrv hfv;simp only [Rq.val, En.val] at hS hLi hAg ⊢;have HG : Hid (goodF lr lf st asked came now = goodB (saysC lr) (readC lf) (lifeF lf st came) (ageF lf asked came now)) := rfl;have hal := ageF_le lf asked came now;have hll := lifeF_le lf st came hl2;have oa := saysC_ok lr;have ob := readC_ok lf;have HR := Lib.hid (fun w h => refRead_any lf (.slice pf lf.length cf) w h hl2);have HS := Lib.hid hS;have HLi := Lib.hid hLi;have HAg := Lib.hid hAg;clear hS hLi hAg;generalize goodF lr lf st asked came now = G at *;generalize saysC lr = a at *;generalize readC lf = b at *;generalize lifeF lf st came = life at *;generalize ageF lf asked came now = age at *;obtain ⟨w0, ew⟩ : ∃ w0 : World, w0 = (w.alloc (.cells #[S rm, S rs, S ra, S rp, .slice pr lr.length cr] 28)).alloc (.cells #[S key, vp, .int .i64 st, .slice pf lf.length cf, S body, .int .i64 asked, .int .i64 came] 36) := ⟨_, rfl⟩;have hQ0 : Blk w0 w.heap.size 28 #[S rm, S rs, S ra, S rp, .slice pr lr.length cr] := (by rw [ew];exact (Blk.new _ _ _).alloc _)
  have hE0 : Blk w0 (w.heap.size + 1) 36 #[S key, vp, .int .i64 st, .slice pf lf.length cf, S body, .int .i64 asked, .int .i64 came] := by
    rw [ew];have := Blk.new (w.alloc (.cells #[S rm, S rs, S ra, S rp, .slice pr lr.length cr] 28)) 36 #[S key, vp, .int .i64 st, .slice pf lf.length cf, S body, .int .i64 asked, .int .i64 came]
    rwa [show (w.alloc (.cells #[S rm, S rs, S ra, S rp, .slice pr lr.length cr] 28)).heap.size = w.heap.size + 1 by simp] at this
  have hb0 : Below w.heap.size w w0 := (by rw [ew];exact ((Below.refl _ _).alloc (Nat.le_refl _) _).alloc (by simp) _);have hr0 := (hr.below hb0).mono hb0.size;have hf0 := (hf.below hb0).mono hb0.size;have hz0 := hE0.lt;go_enter Tryz.func14, Tryz.ntmps14
  go_wp2_with fail;rw [← ew];clear ew hr hf;obtain ⟨x0, x1, x2, x3, x4⟩ := hQ0.c5;obtain ⟨y0, y1, y2, y3, y4, y5, y6⟩ := hE0.c7;refine (HS.out w0 hr0).mono ?_;rintro e w1 ⟨rfl, hb1⟩;have hw1 := Bl.tr hb0 hb1;have hE1 := hE0.on hb1;have hf1 := (hf0.below hb1).mono hb1.size;have hal1 : Below w1.heap.size w1 (w1.alloc (.cells a.cells 80)) := (Below.refl _ _).alloc (Nat.le_refl _) _;have hA2 := Blk.new w1 80 a.cells;have hE2 := hE1.on hal1;have hf2 := (hf1.below hal1).mono hal1.size;have hw2 := Bl.tr hw1 hal1;have hlt := hE1.lt;clear x0 x1 x2 x3 x4 y0 y1 y2 y3 y4 y5 y6 hQ0 hr0 hf0 hE0 hb0 hz0 hb1 HS;obtain ⟨y0, y1, y2, y3, y4, y5, y6⟩ := hE1.c7;go_wp2_with fail
  change Calls _ _ _ (w1.alloc (.cells a.cells 80)) _
  clear y0 y1 y2 y3 y4 y5 y6 hlt hE1 hf1 hw1 hal1;generalize w1.alloc (.cells a.cells 80) = w2 at *;generalize w1.heap.size = b7 at *;refine (HR.out w2 hf2).mono ?_;rintro e w3 ⟨rfl, hb3⟩;have hw3 := Bl.tr hw2 hb3;have hE3 := hE2.on hb3;have hA3 := hA2.on hb3;have hf3 := (hf2.below hb3).mono hb3.size;have hal3 : Below w3.heap.size w3 (w3.alloc (.cells b.cells 80)) := (Below.refl _ _).alloc (Nat.le_refl _) _;have hB4 := Blk.new w3 80 b.cells;have hE4 := hE3.on hal3;have hA4 := hA3.on hal3;have hf4 := (hf3.below hal3).mono hal3.size;have hw4 := Bl.tr hw3 hal3;have hlt := hE3.lt;clear hE2 hA2 hf2 hw2 hb3 HR;obtain ⟨y0, y1, y2, y3, y4, y5, y6⟩ := hE3.c7;go_wp2_with fail
  change Calls _ _ _ (w3.alloc (.cells b.cells 80)) _
  clear y0 y1 y2 y3 y4 y5 y6 hlt hE3 hA3 hf3 hw3 hal3;generalize w3.alloc (.cells b.cells 80) = w4 at *;generalize w3.heap.size = b8 at *;refine (HLi.out w4 hf4).mono ?_;rintro e w5 ⟨rfl, hb5⟩;have hw5 := Bl.tr hw4 hb5;have hE5 := hE4.on hb5;have hA5 := hA4.on hb5;have hB5 := hB4.on hb5;have hf5 := (hf4.below hb5).mono hb5.size;clear hw4 hE4 hA4 hB4 hf4 hb5 HLi;obtain ⟨y0, y1, y2, y3, y4, y5, y6⟩ := hE5.c7;go_wp2_with fail;refine (HAg.out w5 hf5).mono ?_;rintro e w6 ⟨rfl, hb6⟩;have hw6 := Bl.tr hw5 hb6;have hA6 := hA5.on hb6;have hB6 := hB5.on hb6;clear y0 y1 y2 y3 y4 y5 y6 hw5 hE5 hA5 hB5 hf5 hb6 HAg;obtain ⟨ans, anc, ant, apu, apr, amr, apx, aoi, ama, asm', amf, ams⟩ := a;obtain ⟨bns, bnc, bnt, bpu, bpr, bmr, bpx, boi, bma, bsm, bmf, bms⟩ := b;obtain ⟨⟨oa1, oa2⟩, -, ⟨oa3, oa4⟩, oa5, oa6⟩ := oa;obtain ⟨-, ⟨ob1, ob2⟩, -⟩ := ob;simp only at oa1 oa2 oa3 oa4 oa5 oa6 ob1 ob2;have x1 := hA6.k1;have x8 := hA6.k8;have x10 := hA6.k10;have x11 := hA6.k11;have z1 := hB6.k1;have z5 := hB6.k5;have z6 := hB6.k6;have z9 := hB6.k9;clear hA6 hB6;have GT := fun h => good_no (a := ⟨ans, anc, ant, apu, apr, amr, apx, aoi, ama, asm', amf, ams⟩) (b := ⟨bns, bnc, bnt, bpu, bpr, bmr, bpx, boi, bma, bsm, bmf, bms⟩) (life := life) (age := age) h
  have GN := fun h h2 => good_new (a := ⟨ans, anc, ant, apu, apr, amr, apx, aoi, ama, asm', amf, ams⟩) (b := ⟨bns, bnc, bnt, bpu, bpr, bmr, bpx, boi, bma, bsm, bmf, bms⟩) (life := life) (age := age) h h2
  have GO := fun h h2 => good_old (a := ⟨ans, anc, ant, apu, apr, amr, apx, aoi, ama, asm', amf, ams⟩) (b := ⟨bns, bnc, bnt, bpu, bpr, bmr, bpx, boi, bma, bsm, bmf, bms⟩) (life := life) (age := age) h h2
  unfold GoodNo at GT GN GO;simp only at GT GN GO;have GT := Lib.hid GT;have GN := Lib.hid GN;have GO := Lib.hid GO;have no : ∀ x : Bool, G = x → x = G := fun _ h => h.symm
  clear no
  cases anc with
  | true =>
    have HX := Lib.hid (HG.out.trans (GT.out (.inl rfl)));go_wp2;go_ret;exact ⟨ret_bool HX.out.symm, hw6⟩
  | false =>
  cases bnc with
  | true =>
    have HX := Lib.hid (HG.out.trans (GT.out (.inr (.inl rfl))));go_wp2;go_ret;exact ⟨ret_bool HX.out.symm, hw6⟩
  | false =>
  by_cases h1 : 0 ≤ ama
  · by_cases h2 : ama < (age : Int)
    · have HX := Lib.hid (HG.out.trans (GT.out (.inr (.inr (.inl ⟨h1, h2⟩)))))
      go_wp2;go_ret;exact ⟨ret_bool HX.out.symm, hw6⟩
    · by_cases h3 : 0 ≤ amf
      · by_cases h4 : (life : Int) - age < amf
        · have HX := Lib.hid (HG.out.trans (GT.out (.inr (.inr (.inr ⟨h3, h4⟩)))))
          go_wp2;go_ret;exact ⟨ret_bool HX.out.symm, hw6⟩
        · have HNo : Hid (¬ (false = true ∨ false = true ∨ (0 ≤ ama ∧ ama < (age : Int)) ∨ (0 ≤ amf ∧ (life : Int) - age < amf))) := Lib.hid (by simp;omega)
          by_cases hn : age < life
          · have HX := Lib.hid (HG.out.trans (GN.out HNo.out hn))
            have g1 : decide (age < life) = true := (by simpa using hn);clear hn;go_wp2;go_ret;exact ⟨ret_bool HX.out.symm, hw6⟩
          · have HX := HG.out.trans (GO.out HNo.out hn)
            have g1 : decide (age < life) = false := (by simpa using hn);clear hn;by_cases h5 : 0 ≤ ams
            · by_cases h6 : (age : Int) - life ≤ ams
              · rw [decide_eq_true (p := 0 ≤ ams ∧ (age : Int) - life ≤ ams) ⟨h5, h6⟩] at HX
                have HXh := Lib.hid HX;clear HX
                cases bmr <;> cases bpx
                all_goals
                  go_wp2
                  all_goals go_ret
                  all_goals exact ⟨ret_bool (by rw [HXh.out];simp [*]), hw6⟩
              · first
                | (exfalso;rw [decide_eq_false_iff_not] at g1;omega)
                | (rw [decide_eq_false (p := 0 ≤ ams ∧ (age : Int) - life ≤ ams) (fun e => h6 e.2)] at HX
                   have HXh := Lib.hid HX;clear HX;go_wp2;go_ret
                   exact ⟨ret_bool (by rw [HXh.out];simp), hw6⟩)
            · rw [decide_eq_false (p := 0 ≤ ams ∧ (age : Int) - life ≤ ams) (fun e => h5 e.1)] at HX
              have HXh := Lib.hid HX;clear HX;go_wp2;go_ret;exact ⟨ret_bool (by rw [HXh.out];simp), hw6⟩
      · have HNo : Hid (¬ (false = true ∨ false = true ∨ (0 ≤ ama ∧ ama < (age : Int)) ∨ (0 ≤ amf ∧ (life : Int) - age < amf))) := Lib.hid (by simp;omega)
        by_cases hn : age < life
        · have HX := Lib.hid (HG.out.trans (GN.out HNo.out hn))
          have g1 : decide (age < life) = true := (by simpa using hn);clear hn;go_wp2;go_ret;exact ⟨ret_bool HX.out.symm, hw6⟩
        · have HX := HG.out.trans (GO.out HNo.out hn)
          have g1 : decide (age < life) = false := (by simpa using hn);clear hn;by_cases h5 : 0 ≤ ams
          · by_cases h6 : (age : Int) - life ≤ ams
            · rw [decide_eq_true (p := 0 ≤ ams ∧ (age : Int) - life ≤ ams) ⟨h5, h6⟩] at HX
              have HXh := Lib.hid HX;clear HX
              cases bmr <;> cases bpx
              all_goals
                go_wp2
                all_goals go_ret
                all_goals exact ⟨ret_bool (by rw [HXh.out];simp [*]), hw6⟩
            · first
              | (exfalso;rw [decide_eq_false_iff_not] at g1;omega)
              | (rw [decide_eq_false (p := 0 ≤ ams ∧ (age : Int) - life ≤ ams) (fun e => h6 e.2)] at HX
                 have HXh := Lib.hid HX;clear HX;go_wp2;go_ret
                 exact ⟨ret_bool (by rw [HXh.out];simp), hw6⟩)
          · rw [decide_eq_false (p := 0 ≤ ams ∧ (age : Int) - life ≤ ams) (fun e => h5 e.1)] at HX
            have HXh := Lib.hid HX;clear HX;go_wp2;go_ret;exact ⟨ret_bool (by rw [HXh.out];simp), hw6⟩
  · by_cases h3 : 0 ≤ amf
    · by_cases h4 : (life : Int) - age < amf
      · have HX := Lib.hid (HG.out.trans (GT.out (.inr (.inr (.inr ⟨h3, h4⟩)))))
        go_wp2;go_ret;exact ⟨ret_bool HX.out.symm, hw6⟩
      · have HNo : Hid (¬ (false = true ∨ false = true ∨ (0 ≤ ama ∧ ama < (age : Int)) ∨ (0 ≤ amf ∧ (life : Int) - age < amf))) := Lib.hid (by simp;omega)
        by_cases hn : age < life
        · have HX := Lib.hid (HG.out.trans (GN.out HNo.out hn))
          have g1 : decide (age < life) = true := (by simpa using hn);clear hn;go_wp2;go_ret;exact ⟨ret_bool HX.out.symm, hw6⟩
        · have HX := HG.out.trans (GO.out HNo.out hn)
          have g1 : decide (age < life) = false := (by simpa using hn);clear hn;by_cases h5 : 0 ≤ ams
          · by_cases h6 : (age : Int) - life ≤ ams
            · rw [decide_eq_true (p := 0 ≤ ams ∧ (age : Int) - life ≤ ams) ⟨h5, h6⟩] at HX
              have HXh := Lib.hid HX;clear HX
              cases bmr <;> cases bpx
              all_goals
                go_wp2
                all_goals go_ret
                all_goals exact ⟨ret_bool (by rw [HXh.out];simp [*]), hw6⟩
            · first
              | (exfalso;rw [decide_eq_false_iff_not] at g1;omega)
              | (rw [decide_eq_false (p := 0 ≤ ams ∧ (age : Int) - life ≤ ams) (fun e => h6 e.2)] at HX
                 have HXh := Lib.hid HX;clear HX;go_wp2;go_ret
                 exact ⟨ret_bool (by rw [HXh.out];simp), hw6⟩)
          · rw [decide_eq_false (p := 0 ≤ ams ∧ (age : Int) - life ≤ ams) (fun e => h5 e.1)] at HX
            have HXh := Lib.hid HX;clear HX;go_wp2;go_ret;exact ⟨ret_bool (by rw [HXh.out];simp), hw6⟩
    · have HNo : Hid (¬ (false = true ∨ false = true ∨ (0 ≤ ama ∧ ama < (age : Int)) ∨ (0 ≤ amf ∧ (life : Int) - age < amf))) := Lib.hid (by simp;omega)
      by_cases hn : age < life
      · have HX := Lib.hid (HG.out.trans (GN.out HNo.out hn))
        have g1 : decide (age < life) = true := (by simpa using hn);clear hn;go_wp2;go_ret;exact ⟨ret_bool HX.out.symm, hw6⟩
      · have HX := HG.out.trans (GO.out HNo.out hn)
        have g1 : decide (age < life) = false := (by simpa using hn);clear hn;by_cases h5 : 0 ≤ ams
        · by_cases h6 : (age : Int) - life ≤ ams
          · rw [decide_eq_true (p := 0 ≤ ams ∧ (age : Int) - life ≤ ams) ⟨h5, h6⟩] at HX
            have HXh := Lib.hid HX;clear HX
            cases bmr <;> cases bpx
            all_goals
              go_wp2
              all_goals go_ret
              all_goals exact ⟨ret_bool (by rw [HXh.out];simp [*]), hw6⟩
          · first
            | (exfalso;rw [decide_eq_false_iff_not] at g1;omega)
            | (rw [decide_eq_false (p := 0 ≤ ams ∧ (age : Int) - life ≤ ams) (fun e => h6 e.2)] at HX
               have HXh := Lib.hid HX;clear HX;go_wp2;go_ret
               exact ⟨ret_bool (by rw [HXh.out];simp), hw6⟩)
        · rw [decide_eq_false (p := 0 ≤ ams ∧ (age : Int) - life ≤ ams) (fun e => h5 e.1)] at HX
          have HXh := Lib.hid HX;clear HX;go_wp2;go_ret;exact ⟨ret_bool (by rw [HXh.out];simp), hw6⟩
end Go.Proofs.YtahapblgmehngaaGreatDoor
