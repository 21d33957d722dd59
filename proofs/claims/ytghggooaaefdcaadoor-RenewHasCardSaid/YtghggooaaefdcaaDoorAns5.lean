
/- The walks of layer 20: what is given of an entry, in general (printed by ansgen.py). -/
import Derived.Test.YtghggooaaefdcaaDoorAns3
namespace Go.Proofs.YtghggooaaefdcaaDoor
open Go.RowKit Go.Dr

set_option maxRecDepth 100000 in
set_option maxHeartbeats 8000000 in
theorem AnswerLen (r : Rq) (key body : Bytes) (vp vf : Value) (st asked came now : Int) (lr lf : List F) (who : Bytes) (hM : metF r.m st lr lf came = false) (hx : hasB (without lf [ageT]) lenT = false) (hst : st ≠ 204)
    (w : World) (hr : Fs w.heap.size w r.v lr) (hf : Fs w.heap.size w vf lf) (hl : fsum lr ≤ 1099511627776) (hl2 : fsum lf ≤ 549755813888) (hb : body.length ≤ 1099511627776) (hw : who.length ≤ 1000) :
    Calls Tryd.prog 35 #[r.val, .agg #[S key, vp, .int .i64 st, vf, S body, .int .i64 asked, .int .i64 came], .int .i64 now, S who] w (RetAns w st (outF st lf body.length ++ [ageFld (ageF lf asked came now)] ++ [viaF (viaT who)]) (bodyF r.m body)) := by
  obtain ⟨pr, cr, hrv, -⟩ := hr.form
  obtain ⟨pf, cf, rfl, -⟩ := hf.form
  have hmet := fun w h1 h2 => Met_any r ⟨key, vp, st, .slice pf lf.length cf, body, asked, came⟩ lr lf w h1 h2 hl (by omega)
  have hage := fun w h => Age_any ⟨key, vp, st, .slice pf lf.length cf, body, asked, came⟩ lf now w h (by omega)
  simp only at hmet hage
  rw [hM] at hmet
  obtain ⟨rm, rs, ra, rp, rv⟩ := r
  simp only at hrv hr hM hst ⊢
  subst hrv
  simp only [Rq.val, En.val] at hmet hage ⊢
  have hAl := ageF_le lf asked came now
  generalize ageF lf asked came now = A at *
  have hAs := ageFld_sum A hAl
  have HMet := Lib.hid hmet
  have HAge := Lib.hid hage
  clear hmet hage hM
  have hfl := fsum_filter lf toldB
  have hR := Blk.new w 67 #[S rm, S rs, S ra, S rp, .slice pr lr.length cr]
  have hbx : Below w.heap.size w (w.alloc (.cells #[S rm, S rs, S ra, S rp, .slice pr lr.length cr] 67)) := (Below.refl _ _).alloc (Nat.le_refl _) _
  have hQ := Blk.new (w.alloc (.cells #[S rm, S rs, S ra, S rp, .slice pr lr.length cr] 67)) 28 #[S key, vp, .int .i64 st, .slice pf lf.length cf, S body, .int .i64 asked, .int .i64 came]
  have hby := hbx.alloc hbx.size (.cells #[S key, vp, .int .i64 st, .slice pf lf.length cf, S body, .int .i64 asked, .int .i64 came] 28)
  have hsz : (w.alloc (.cells #[S rm, S rs, S ra, S rp, .slice pr lr.length cr] 67)).heap.size = w.heap.size + 1 := by simp
  rw [hsz] at hQ
  have hR2 := hR.alloc (.cells #[S key, vp, .int .i64 st, .slice pf lf.length cf, S body, .int .i64 asked, .int .i64 came] 28)
  have hr2 := (hr.below hby).mono hby.size
  have hf2 := (hf.below hby).mono hby.size
  clear hsz hR hbx hr hf
  go_enter Tryd.func35, Tryd.ntmps35
  go_wp2_with fail
  generalize ((w.alloc (.cells #[S rm, S rs, S ra, S rp, .slice pr lr.length cr] 67)).alloc (.cells #[S key, vp, .int .i64 st, .slice pf lf.length cf, S body, .int .i64 asked, .int .i64 came] 28)) = w2 at *
  refine (HAge.out w2 hf2).mono ?_
  rintro e w3 ⟨rfl, hb3⟩
  have hw3 := Bl.tr hby hb3
  replace hr2 := (hr2.below hb3).mono hb3.size
  replace hf2 := (hf2.below hb3).mono hb3.size
  replace hQ := hQ.on hb3
  replace hR2 := hR2.on hb3
  clear hby hb3 HAge
  go_wp2_with fail
  refine (Digits_any A w3 (by omega)).mono ?_
  rintro e w4 ⟨rfl, hb4⟩
  have hw4 := Bl.tr hw3 hb4
  replace hr2 := (hr2.below hb4).mono hb4.size
  replace hf2 := (hf2.below hb4).mono hb4.size
  replace hQ := hQ.on hb4
  replace hR2 := hR2.on hb4
  clear hw3 hb4
  have hal : Below w4.heap.size w4 (w4.alloc (.cells #[S ageT, S (digs A), .bool false] 45)) := (Below.refl _ _).alloc (Nat.le_refl _) _
  have hG := Blk.new w4 45 #[S ageT, S (digs A), .bool false]
  have hr5 := (hr2.below hal).mono hal.size
  have hf5 := (hf2.below hal).mono hal.size
  have hQ5 := hQ.on hal
  have hR5 := hR2.on hal
  have hw5 := Bl.tr hw4 hal
  have ql := hQ.lt
  have rl := hR2.lt
  (have q0 : w4.cell? ⟨w.heap.size + 1, 0, none⟩ = some (S key) := hQ.cell 0; have q1 : w4.cell? ⟨w.heap.size + 1, 1, none⟩ = some (vp) := hQ.cell 1; have q2 : w4.cell? ⟨w.heap.size + 1, 2, none⟩ = some (.int .i64 st) := hQ.cell 2; have q3 : w4.cell? ⟨w.heap.size + 1, 3, none⟩ = some (.slice pf lf.length cf) := hQ.cell 3; have q4 : w4.cell? ⟨w.heap.size + 1, 4, none⟩ = some (S body) := hQ.cell 4; have q5 : w4.cell? ⟨w.heap.size + 1, 5, none⟩ = some (.int .i64 asked) := hQ.cell 5; have q6 : w4.cell? ⟨w.heap.size + 1, 6, none⟩ = some (.int .i64 came) := hQ.cell 6)
  (have r0 : w4.cell? ⟨w.heap.size, 0, none⟩ = some (S rm) := hR2.cell 0; have r1 : w4.cell? ⟨w.heap.size, 1, none⟩ = some (S rs) := hR2.cell 1; have r2 : w4.cell? ⟨w.heap.size, 2, none⟩ = some (S ra) := hR2.cell 2; have r3 : w4.cell? ⟨w.heap.size, 3, none⟩ = some (S rp) := hR2.cell 3; have r4 : w4.cell? ⟨w.heap.size, 4, none⟩ = some (.slice pr lr.length cr) := hR2.cell 4)
  have hGlt := hG.lt
  have hne : w4.heap.size ≠ w.heap.size + 1 := Nat.ne_of_gt ql
  clear hal hr2 hf2 hQ hR2 hw4
  go_wp2_with fail
  change Calls _ _ _ (w4.alloc (.cells #[S ageT, S (digs A), .bool false] 45)) _
  clear q0 q1 q2 q3 q4 q5 q6 r0 r1 r2 r3 r4
  generalize w4.alloc (.cells #[S ageT, S (digs A), .bool false] 45) = w5 at *
  generalize w4.heap.size = bG at *
  refine (HMet.out w5 hr5 hf5).mono ?_
  rintro e w6 ⟨rfl, hb6⟩
  have hw6 := Bl.tr hw5 hb6
  have hf6 := (hf5.below hb6).mono hb6.size
  have hQ6 := hQ5.on hb6
  have hR6 := hR5.on hb6
  have hG6 := hG.on hb6
  clear hr5 hf5 hQ5 hR5 hG hb6 HMet ql hGlt rl
  have hGl := hG6.lt
  have hQl := hQ6.lt
  have hRl := hR6.lt
  have hcc : 4 + who.length ≤ 9223372036854775807 := by omega
  have hcl : (viaT who).length ≤ 9223372036854775807 := by simp [viaT]; omega
  have hcl2 : (viaT who).length ≤ 2000 := by simp [viaT]; omega
  have hadd : ∀ w' : World, (Op.stringOp .add ⟨#[49, 46, 49, 32]⟩ ⟨who.toArray⟩).run Tryd.prog w' = .ok (S (viaT who)) w' := fun w' => by
    have := run_string_add_sum (P := Tryd.prog) (w := w') ⟨#[49, 46, 49, 32]⟩ ⟨who.toArray⟩ (by simp [ByteArray.size]; omega)
    rw [this]
    rw [show (⟨#[49, 46, 49, 32]⟩ : ByteArray) = ⟨([49, 46, 49, 32] : Bytes).toArray⟩ from rfl, ba_append]
    rfl
  have hwo := fsum_filter lf (fun f => !among f.n [ageT])
  have hwd : without lf [ageT] = lf.filter (fun f => !among f.n [ageT]) := rfl
  rw [← hwd] at hwo
  clear hwd
  have g3 : w6.cell? ⟨w.heap.size + 1, 3, none⟩ = some (.slice pf lf.length cf) := hQ6.cell 3
  have hal : Below w6.heap.size w6 (w6.alloc (.cells #[S ageT] 9)) := (Below.refl _ _).alloc (Nat.le_refl _) _
  have hN : Ss (w6.alloc (.cells #[S ageT] 9)).heap.size (w6.alloc (.cells #[S ageT] 9)) (.slice (some ⟨w6.heap.size, 0, none⟩) 1 1) [ageT] := (Rd.lit w6 9 #[S ageT] 1 1 rfl (by decide)).mono (by simp)
  have hf7 := (hf6.below hal).mono hal.size
  go_wp2_with fail
  change Calls _ _ _ (w6.alloc (.cells #[S ageT] 9)) _
  refine (Without_any lf [ageT] _ _ _ hf7 hN (by omega) (by decide)).mono ?_
  rintro e w8 ⟨v8, rfl, ho8, hb8⟩
  have hb68 : Below w6.heap.size w6 w8 := Bl.tr hal hb8
  have ho8' := own_base ho8 hal.size
  have hw8 := Bl.tr hw6 hb68
  have hQ8 := hQ6.on hb68
  have hR8 := hR6.on hb68
  have hG8 := hG6.on hb68
  have hz8 := hb68.size
  have hF8 : Fs w8.heap.size w8 v8 (without lf [ageT]) := Fs.own ho8
  have hGQ : bG ≠ w.heap.size + 1 := hne
  clear ho8 hb8 hal hN hf7 g3 hf6 hQ6 hR6 hG6
  generalize hL0 : without lf [ageT] = L0 at *
  have HL0 := Lib.hid hL0
  clear hL0
  obtain ⟨p8, c8, rfl, hm8⟩ := hF8.form
  go_wp2_with fail
  refine (has_any L0 lenT _ _ hF8 (by omega) (by decide)).mono ?_
  rintro e w9 ⟨rfl, hb9⟩
  have ho9 := own_below ho8' hb9
  have hw9 := Bl.tr hw8 hb9
  have hQ9 := hQ8.on hb9
  have hR9 := hR8.on hb9
  have hG9 := hG8.on hb9
  have hz9 : w6.heap.size ≤ w9.heap.size := Nat.le_trans hz8 hb9.size
  have hE := outF.eq_1 st lf body.length
  rw [HL0.out] at hE
  have HE := Lib.hid hE
  clear hE
  clear HL0 hF8 ho8' hb9 hb68 hw8 hQ8 hR8 hG8 hz8
  rw [hx]
  have HLE : Hid (outF st lf body.length = L0 ++ [⟨lenT, digs body.length, false⟩]) := by show _ = _; rw [HE.out, if_pos ⟨hx, hst⟩]
  clear HE hx
  have hL0l := fsum_length L0
  have hdl := digs_length body.length 12 (by omega)
  have hsl := fsum_append L0 [⟨lenT, digs body.length, false⟩]
  have hsl2 : fsum [(⟨lenT, digs body.length, false⟩ : F)] ≤ 100 := by
    simp only [fsum, List.map_cons, List.map_nil, List.sum_cons, List.sum_nil, lenT]
    simp
    omega
  have k2 : w9.cell? ⟨w.heap.size + 1, 2, none⟩ = some (.int .i64 st) := hQ9.cell 2
  have k4 : w9.cell? ⟨w.heap.size + 1, 4, none⟩ = some (S body) := hQ9.cell 4
  have gs : (st != 204) = true := by simp [hst]
  clear hst
  go_wp2_with fail
  refine (Digits_any body.length w9 (by omega)).mono ?_
  rintro e w11 ⟨rfl, hb11⟩
  have ho11 := own_below ho9 hb11
  have hw11 := Bl.tr hw9 hb11
  have hQ11 := hQ9.on hb11
  have hR11 := hR9.on hb11
  have hG11 := hG9.on hb11
  have hz11 : w6.heap.size ≤ w11.heap.size := Nat.le_trans hz9 hb11.size
  clear k2 k4 gs ho9 hw9 hQ9 hR9 hG9 hb11
  cases hh : (rm == [72, 69, 65, 68]) with
  | false =>
    have HBD : Hid (bodyF rm body = body) := by show _ = _; unfold bodyF; rw [show headM = [72, 69, 65, 68] from rfl, hh]; rfl
    go_wp2_with (at_builtin; refine wpList_appF rfl _ _ 100 rfl w6.heap.size Tryd.underlying100 (by kernel_rfl) _ _ _ rfl ho11 rfl (by omega) hz11 rfl ?_; intro a12 c12 w12 hown12 hb12 hz12; have hRx := hR11.below hb12 hRl; have r0 : w12.cell? ⟨w.heap.size, 0, none⟩ = some (S rm) := hRx.cell 0)
    have hQx := hQ11.below hb12 hQl
    have hGx := hG11.below hb12 hGl
    have hWx := hw11.trans (hb12.mono hw6.size)
    have hzX : w6.heap.size ≤ w12.heap.size := Nat.le_trans hz11 hz12
    have hOx : w12.ownsRow w6.heap.size 45 3 (.slice a12 (L0 ++ [(⟨lenT, digs body.length, false⟩ : F)]).length c12) (L0 ++ [(⟨lenT, digs body.length, false⟩ : F)]).length (fcells (L0 ++ [(⟨lenT, digs body.length, false⟩ : F)])) := by
      rw [fcells_append, List.length_append]
      exact hown12
    rw [show L0.length + 1 = (L0 ++ [(⟨lenT, digs body.length, false⟩ : F)]).length by simp]
    generalize hL : L0 ++ [(⟨lenT, digs body.length, false⟩ : F)] = L at *
    have hLs : fsum L ≤ fsum lf + 100 := by omega
    have hLl := fsum_length L
    have g2 : w12.cell? ⟨w.heap.size + 1, 2, none⟩ = some (.int .i64 st) := hQx.cell 2
    have g4 : w12.cell? ⟨w.heap.size + 1, 4, none⟩ = some (S body) := hQx.cell 4
    have a0 : w12.cell? ⟨bG, 0, none⟩ = some (S ageT) := hGx.cell 0
    have a1 : w12.cell? ⟨bG, 1, none⟩ = some (S (digs A)) := hGx.cell 1
    have a2 : w12.cell? ⟨bG, 2, none⟩ = some (.bool false) := hGx.cell 2
    have hfw := fsum_append L [ageFld A]
    skip
    go_region_held3 (fun w' => w'.cell? ⟨w.heap.size + 1, 2, none⟩ = some (.int .i64 st) ∧ w'.cell? ⟨w.heap.size + 1, 4, none⟩ = some (S body) ∧ w'.cell? ⟨bG, 0, none⟩ = some (S ageT) ∧ w'.cell? ⟨bG, 1, none⟩ = some (S (digs A)) ∧ w'.cell? ⟨bG, 2, none⟩ = some (.bool false))
      (first | go_keep)
      ((first
        | (refine step_of ?_ (by rfl); refine wp_appG _ _ 100 rfl w6.heap.size 45 (.agg #[.string ByteArray.empty, .string ByteArray.empty, .bool false]) 3 40 Tryd.underlying100 (by kernel_rfl) rfl (by decide) _ _ _ rfl (by first | exact own_drew (World.ownsRow.alloc (w := (w12)) hOx _) | exact World.ownsRow.alloc (w := (w12).drew) hOx _) _ _ _ _ rfl (by first | exact (show Rd _ _ 3 _ 1 (fcells [ageFld A]) from Rd.drew (Rd.lit (w12) 45 #[S ageT, S (digs A), .bool false] 3 1 rfl (by decide))) | exact (show Rd _ _ 3 _ 1 (fcells [ageFld A]) from Rd.lit (w12).drew 45 #[S ageT, S (digs A), .bool false] 3 1 rfl (by decide))) (fcells_one _) (by unfold maxLen; omega) (by omega) (by first | omega | (simp; done) | (simp; omega)) ?_; intro aA cA wA hownA hbA hgA; have hbXA : Below w6.heap.size (w12) wA := (by first | exact (((Below.refl w6.heap.size (w12)).alloc hzX _).drew).trans hbA | exact ((Below.refl w6.heap.size (w12)).drew.alloc hzX _).trans hbA); have hQA := hQx.below hbXA hQl; have hGA := hGx.below hbXA hGl; have hFA : Fs wA.heap.size wA (.slice aA (L.length + 1) cA) (L ++ [ageFld A]) := (by have := Rd.own hownA; unfold Fs; rw [fcells_append, List.length_append]; exact this); have g2 : wA.cell? ⟨w.heap.size + 1, 2, none⟩ = some (.int .i64 st) := hQA.cell 2; have g4 : wA.cell? ⟨w.heap.size + 1, 4, none⟩ = some (S body) := hQA.cell 4; have a0 : wA.cell? ⟨bG, 0, none⟩ = some (S ageT) := hGA.cell 0; have a1 : wA.cell? ⟨bG, 1, none⟩ = some (S (digs A)) := hGA.cell 1; have a2 : wA.cell? ⟨bG, 2, none⟩ = some (.bool false) := hGA.cell 2)
        | (go_at_call 64; refine (Via_any (L ++ [ageFld A]) (viaT who) _ _ (by exact hFA) (by omega)).mono ?_; rintro e wB ⟨vB, rfl, hoB, hbB⟩; have hQB := hQA.on hbB; have hGB := hGA.on hbB; have g2 : wB.cell? ⟨w.heap.size + 1, 2, none⟩ = some (.int .i64 st) := hQB.cell 2; have g4 : wB.cell? ⟨w.heap.size + 1, 4, none⟩ = some (S body) := hQB.cell 4; have a0 : wB.cell? ⟨bG, 0, none⟩ = some (S ageT) := hGB.cell 0; have a1 : wB.cell? ⟨bG, 1, none⟩ = some (S (digs A)) := hGB.cell 1; have a2 : wB.cell? ⟨bG, 2, none⟩ = some (.bool false) := hGB.cell 2)))
    go_wp2
    go_ret3
    exact ⟨vB, by rw [HBD.out]; rfl, by rw [HLE.out]; exact Fs.own hoB, Bl.tr (hWx.trans (hbXA.mono hw6.size)) hbB⟩
  | true =>
    have HBD : Hid (bodyF rm body = []) := by show _ = _; unfold bodyF; rw [show headM = [72, 69, 65, 68] from rfl, hh]; rfl
    go_wp2_with (at_builtin; refine wpList_appF rfl _ _ 100 rfl w6.heap.size Tryd.underlying100 (by kernel_rfl) _ _ _ rfl ho11 rfl (by omega) hz11 rfl ?_; intro a12 c12 w12 hown12 hb12 hz12; have hRx := hR11.below hb12 hRl; have r0 : w12.cell? ⟨w.heap.size, 0, none⟩ = some (S rm) := hRx.cell 0; have hQy := hQ11.below hb12 hQl; have c4 : w12.cell? ⟨w.heap.size + 1, 4, none⟩ = some (S body) := hQy.cell 4; have f4 : w12.frozen? ⟨w.heap.size + 1, 4, none⟩ = false := hQy.free 4)
    have hQx := hQ11.below hb12 hQl
    have hGx := hG11.below hb12 hGl
    have hWx := hw11.trans (hb12.mono hw6.size)
    have hzX : w6.heap.size ≤ w12.heap.size := Nat.le_trans hz11 hz12
    have hOx : w12.ownsRow w6.heap.size 45 3 (.slice a12 (L0 ++ [(⟨lenT, digs body.length, false⟩ : F)]).length c12) (L0 ++ [(⟨lenT, digs body.length, false⟩ : F)]).length (fcells (L0 ++ [(⟨lenT, digs body.length, false⟩ : F)])) := by
      rw [fcells_append, List.length_append]
      exact hown12
    rw [show L0.length + 1 = (L0 ++ [(⟨lenT, digs body.length, false⟩ : F)]).length by simp]
    generalize hL : L0 ++ [(⟨lenT, digs body.length, false⟩ : F)] = L at *
    have hLs : fsum L ≤ fsum lf + 100 := by omega
    have hLl := fsum_length L
    have c4 : w12.cell? ⟨w.heap.size + 1, 4, none⟩ = some (S body) := hQx.cell 4
    have f4 : w12.frozen? ⟨w.heap.size + 1, 4, none⟩ = false := hQx.free 4
    have hQs : Blk (w12.setCell ⟨w.heap.size + 1, 4, none⟩ (S [])) (w.heap.size + 1) 28 #[S key, vp, .int .i64 st, .slice pf lf.length cf, S [], .int .i64 asked, .int .i64 came] := by have := hQx.set 4 (S []); simpa using this
    have hGs := hGx.other (p := ⟨w.heap.size + 1, 4, none⟩) (show bG ≠ w.heap.size + 1 by omega) (S [])
    have hOs := own_other hOx (p := ⟨w.heap.size + 1, 4, none⟩) hQl (S [])
    have hWs := hWx.setCell (p := ⟨w.heap.size + 1, 4, none⟩) (show w.heap.size ≤ w.heap.size + 1 by omega) (S [])
    have hzX : w6.heap.size ≤ (w12.setCell ⟨w.heap.size + 1, 4, none⟩ (S [])).heap.size := by simpa [World.setCell] using hzX
    clear c4 f4
    generalize w12.setCell ⟨w.heap.size + 1, 4, none⟩ (S []) = wS at *
    have g2 : wS.cell? ⟨w.heap.size + 1, 2, none⟩ = some (.int .i64 st) := hQs.cell 2
    have g4 : wS.cell? ⟨w.heap.size + 1, 4, none⟩ = some (S []) := hQs.cell 4
    have a0 : wS.cell? ⟨bG, 0, none⟩ = some (S ageT) := hGs.cell 0
    have a1 : wS.cell? ⟨bG, 1, none⟩ = some (S (digs A)) := hGs.cell 1
    have a2 : wS.cell? ⟨bG, 2, none⟩ = some (.bool false) := hGs.cell 2
    have hfw := fsum_append L [ageFld A]
    go_wp2_with fail
    go_region_held3 (fun w' => w'.cell? ⟨w.heap.size + 1, 2, none⟩ = some (.int .i64 st) ∧ w'.cell? ⟨w.heap.size + 1, 4, none⟩ = some (S []) ∧ w'.cell? ⟨bG, 0, none⟩ = some (S ageT) ∧ w'.cell? ⟨bG, 1, none⟩ = some (S (digs A)) ∧ w'.cell? ⟨bG, 2, none⟩ = some (.bool false))
      (first | go_keep)
      ((first
        | (refine step_of ?_ (by rfl); refine wp_appG _ _ 100 rfl w6.heap.size 45 (.agg #[.string ByteArray.empty, .string ByteArray.empty, .bool false]) 3 40 Tryd.underlying100 (by kernel_rfl) rfl (by decide) _ _ _ rfl (by first | exact own_drew (World.ownsRow.alloc (w := (wS)) hOs _) | exact World.ownsRow.alloc (w := (wS).drew) hOs _) _ _ _ _ rfl (by first | exact (show Rd _ _ 3 _ 1 (fcells [ageFld A]) from Rd.drew (Rd.lit (wS) 45 #[S ageT, S (digs A), .bool false] 3 1 rfl (by decide))) | exact (show Rd _ _ 3 _ 1 (fcells [ageFld A]) from Rd.lit (wS).drew 45 #[S ageT, S (digs A), .bool false] 3 1 rfl (by decide))) (fcells_one _) (by unfold maxLen; omega) (by omega) (by first | omega | (simp; done) | (simp; omega)) ?_; intro aA cA wA hownA hbA hgA; have hbXA : Below w6.heap.size (wS) wA := (by first | exact (((Below.refl w6.heap.size (wS)).alloc hzX _).drew).trans hbA | exact ((Below.refl w6.heap.size (wS)).drew.alloc hzX _).trans hbA); have hQA := hQs.below hbXA hQl; have hGA := hGs.below hbXA hGl; have hFA : Fs wA.heap.size wA (.slice aA (L.length + 1) cA) (L ++ [ageFld A]) := (by have := Rd.own hownA; unfold Fs; rw [fcells_append, List.length_append]; exact this); have g2 : wA.cell? ⟨w.heap.size + 1, 2, none⟩ = some (.int .i64 st) := hQA.cell 2; have g4 : wA.cell? ⟨w.heap.size + 1, 4, none⟩ = some (S []) := hQA.cell 4; have a0 : wA.cell? ⟨bG, 0, none⟩ = some (S ageT) := hGA.cell 0; have a1 : wA.cell? ⟨bG, 1, none⟩ = some (S (digs A)) := hGA.cell 1; have a2 : wA.cell? ⟨bG, 2, none⟩ = some (.bool false) := hGA.cell 2)
        | (go_at_call 64; refine (Via_any (L ++ [ageFld A]) (viaT who) _ _ (by exact hFA) (by omega)).mono ?_; rintro e wB ⟨vB, rfl, hoB, hbB⟩; have hQB := hQA.on hbB; have hGB := hGA.on hbB; have g2 : wB.cell? ⟨w.heap.size + 1, 2, none⟩ = some (.int .i64 st) := hQB.cell 2; have g4 : wB.cell? ⟨w.heap.size + 1, 4, none⟩ = some (S []) := hQB.cell 4; have a0 : wB.cell? ⟨bG, 0, none⟩ = some (S ageT) := hGB.cell 0; have a1 : wB.cell? ⟨bG, 1, none⟩ = some (S (digs A)) := hGB.cell 1; have a2 : wB.cell? ⟨bG, 2, none⟩ = some (.bool false) := hGB.cell 2)))
    go_wp2
    go_ret3
    exact ⟨vB, by rw [HBD.out]; rfl, by rw [HLE.out]; exact Fs.own hoB, Bl.tr (hWs.trans (hbXA.mono hw6.size)) hbB⟩
end Go.Proofs.YtghggooaaefdcaaDoor
