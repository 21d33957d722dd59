
/- The walk of layer 20's reference: what is given of an entry. -/
import Derived.Test.YtghggooaaefdcaaGreatDoorRf20
import Derived.Test.YtghggooaaefdcaaGreatDoorRf18b
import Derived.Test.YtghggooaaefdcaaGreatDoorAns6
import Derived.Deep.DeepCutAuto
namespace Go.Dr
theorem told_among (f : F) : among f.n toldNames = toldB f := by
  rw [← among_map, show toldNames.map low = toldNames by decide]; rfl
theorem ssum_told : ssum toldNames ≤ 1000 := by decide
end Go.Dr
namespace Go.Proofs.YtghggooaaefdcaaGreatDoor
open Go.RowKit Go.Dr

/-- What stands before the age is laid behind it. -/
def ansO (met : Bool) (st : Int) (lf : List F) (n : Nat) : List F := if met = true then lf.filter toldB else outF st lf n
theorem ansO_sum (met : Bool) (st : Int) (lf : List F) (n : Nat) (hn : n ≤ 1099511627776) : fsum (ansO met st lf n) ≤ fsum lf + 100 := by
  have h1 := fsum_filter lf toldB
  have h2 := fsum_filter lf (fun f => !among f.n [ageT])
  have hd := digs_length n 12 (by omega)
  unfold ansO
  split
  · omega
  · unfold outF
    split
    · rw [fsum_append]
      have : fsum [⟨lenT, digs n, false⟩] ≤ 100 := by simp [fsum, lenT]; omega
      unfold without
      omega
    · unfold without
      omega

set_option maxRecDepth 100000 in
set_option maxHeartbeats 16000000 in
theorem refAnswer_any (r : Rq) (key body : Bytes) (vp vf : Value) (st asked came now : Int) (lr lf : List F) (who : Bytes)
    (w : World) (hr : Fs w.heap.size w r.v lr) (hf : Fs w.heap.size w vf lf) (hl : fsum lr ≤ 1099511627776) (hl2 : fsum lf ≤ 549755813888) (hb : body.length ≤ 1099511627776) (hw : who.length ≤ 1000) :
    Calls Tryz.prog 13 #[r.val, .agg #[S key, vp, .int .i64 st, vf, S body, .int .i64 asked, .int .i64 came], .int .i64 now, S who] w (RetAns w (ansN (metF r.m st lr lf came) st) (ansL (metF r.m st lr lf came) st lf body.length (ageF lf asked came now) who) (ansB (metF r.m st lr lf came) r.m body)) := by
  have hMet := fun w h h' => refMet_any r ⟨key, vp, st, vf, body, asked, came⟩ lr lf w h h' hl (by omega)
  have hAge := fun w h => refAge_any ⟨key, vp, st, vf, body, asked, came⟩ lf now w h (by omega)
  obtain ⟨pr, cr, hrv, -⟩ := hr.form
  obtain ⟨pf, cf, hfv, -⟩ := hf.form
  obtain ⟨rm, rs, ra, rp, rv⟩ := r
  simp only at hrv hfv hr hf hMet hAge ⊢
  subst hrv hfv
  simp only [Rq.val, En.val] at hMet hAge ⊢
  have HMet := Lib.hid hMet
  have HAge := Lib.hid hAge
  clear hMet hAge
  have hAle := ageF_le lf asked came now
  generalize metF rm st lr lf came = met at *
  generalize ageF lf asked came now = A at *
  have hlen := fsum_length lf
  have hOs := ansO_sum met st lf body.length hb
  have hOl := fsum_length (ansO met st lf body.length)
  have hag := ageFld_sum A hAle
  have HL : Hid (ansL met st lf body.length A who = ansO met st lf body.length ++ [ageFld A] ++ [viaF (viaT who)]) := rfl
  generalize ansL met st lf body.length A who = L at *
  obtain ⟨w0, ew⟩ : ∃ w0 : World, w0 = (w.alloc (.cells #[S rm, S rs, S ra, S rp, .slice pr lr.length cr] 24)).alloc (.cells #[S key, vp, .int .i64 st, .slice pf lf.length cf, S body, .int .i64 asked, .int .i64 came] 27) := ⟨_, rfl⟩
  have hR : Blk w0 w.heap.size 24 #[S rm, S rs, S ra, S rp, .slice pr lr.length cr] := by rw [ew]; exact (Blk.new _ _ _).alloc _
  have hQ : Blk w0 (w.heap.size + 1) 27 #[S key, vp, .int .i64 st, .slice pf lf.length cf, S body, .int .i64 asked, .int .i64 came] := by
    rw [ew]
    have := Blk.new (w.alloc (.cells #[S rm, S rs, S ra, S rp, .slice pr lr.length cr] 24)) 27 #[S key, vp, .int .i64 st, .slice pf lf.length cf, S body, .int .i64 asked, .int .i64 came]
    rwa [show (w.alloc (.cells #[S rm, S rs, S ra, S rp, .slice pr lr.length cr] 24)).heap.size = w.heap.size + 1 by simp] at this
  have hb0 : Below w.heap.size w w0 := by rw [ew]; exact ((Below.refl _ _).alloc (Nat.le_refl _) _).alloc (by simp) _
  have hr0 := (hr.below hb0).mono hb0.size
  have hf0 := (hf.below hb0).mono hb0.size
  clear hr hf
  go_enter Tryz.func13, Tryz.ntmps13
  go_wp2_with fail
  rw [← ew]
  clear ew
  (have x0 : w0.cell? ⟨w.heap.size, 0, none⟩ = some (S rm) := hR.cell 0; have x1 : w0.cell? ⟨w.heap.size, 1, none⟩ = some (S rs) := hR.cell 1; have x2 : w0.cell? ⟨w.heap.size, 2, none⟩ = some (S ra) := hR.cell 2; have x3 : w0.cell? ⟨w.heap.size, 3, none⟩ = some (S rp) := hR.cell 3; have x4 : w0.cell? ⟨w.heap.size, 4, none⟩ = some (.slice pr lr.length cr) := hR.cell 4)
  (have y0 : w0.cell? ⟨w.heap.size + 1, 0, none⟩ = some (S key) := hQ.cell 0; have y1 : w0.cell? ⟨w.heap.size + 1, 1, none⟩ = some (vp) := hQ.cell 1; have y2 : w0.cell? ⟨w.heap.size + 1, 2, none⟩ = some (.int .i64 st) := hQ.cell 2; have y3 : w0.cell? ⟨w.heap.size + 1, 3, none⟩ = some (.slice pf lf.length cf) := hQ.cell 3; have y4 : w0.cell? ⟨w.heap.size + 1, 4, none⟩ = some (S body) := hQ.cell 4; have y5 : w0.cell? ⟨w.heap.size + 1, 5, none⟩ = some (.int .i64 asked) := hQ.cell 5; have y6 : w0.cell? ⟨w.heap.size + 1, 6, none⟩ = some (.int .i64 came) := hQ.cell 6)
  go_wp2_with fail
  refine (HMet.out w0 hr0 hf0).mono ?_
  rintro e w3 ⟨rfl, hb3⟩
  have hw3 := Bl.tr hb0 hb3
  have hf3 := (hf0.below hb3).mono hb3.size
  have hQ3 := hQ.on hb3
  have hR3 := hR.on hb3
  clear x0 x1 x2 x3 x4 y0 y1 y2 y3 y4 y5 y6 hr0 hf0 hb0 hb3 hQ hR HMet
  have hQlt := hQ3.lt
  go_upto_if 21 with fail
  go_cut [11, 12, 13] (fun o s b wx => ∃ a c, o = .slice a (ansO met st lf body.length).length c ∧ s = .int .i64 (ansN met st) ∧ b = S (if met = true then [] else body) ∧ wx.ownsRow w3.heap.size 37 3 o (ansO met st lf body.length).length (fcells (ansO met st lf body.length)) ∧ Below w3.heap.size w3 wx)
  case first =>
    cases met with
    | true =>
      have HO : Hid (ansO true st lf body.length = lf.filter toldB) := rfl
      generalize ansO true st lf body.length = O at *
      have y3 : w3.cell? ⟨w.heap.size + 1, 3, none⟩ = some (.slice pf lf.length cf) := hQ3.cell 3
      go_wp2_with fail
      clear y3
      go_loopw [11, 14] (fun v i wr => ∃ k : Nat, i = .int .i64 k ∧ k ≤ lf.length ∧ wr.ownsRow w3.heap.size 37 3 v ((lf.take k).filter toldB).length (fcells ((lf.take k).filter toldB)) ∧ Below w3.heap.size w3 wr) (fun _ i _ => lf.length - (intOf i).toNat)
      case atStart => exact ⟨0, rfl, Nat.zero_le _, World.ownsRow_nil _ _ _ _, Below.refl _ _⟩
      case round =>
        obtain ⟨k, rfl, hk, hown, hbel⟩ := hrel
        have hQr := hQ3.on hbel
        have y3 : wr.cell? ⟨w.heap.size + 1, 3, none⟩ = some (.slice pf lf.length cf) := hQr.cell 3
        by_cases hlt : k < lf.length
        · obtain ⟨b, off, hpf, hbb, c0, c1, c2⟩ := (hf3.below hbel).at k hlt
          subst hpf
          have hff := fsum_mem (List.getElem_mem hlt)
          have HV := Lib.hid (filter_snoc toldB lf k hlt)
          have hvl : ((lf.take k).filter toldB).length ≤ k := Nat.le_trans (List.length_filter_le _ _) (by simp; omega)
          have hbw : b < wr.heap.size := Nat.lt_of_lt_of_le hbb hbel.size
          have hqw : w.heap.size + 1 < wr.heap.size := hQr.lt
          have hal : Below wr.heap.size wr (wr.alloc (.cells (toldNames.map S).toArray 9)) := (Below.refl _ _).alloc (Nat.le_refl _) _
          have hnm : Ss (wr.alloc (.cells (toldNames.map S).toArray 9)).heap.size (wr.alloc (.cells (toldNames.map S).toArray 9)) (.slice (some ⟨wr.heap.size, 0, none⟩) 7 7) toldNames := (Rd.lit wr 9 (toldNames.map S).toArray 1 7 rfl (by decide)).mono (by simp)
          cases hs : toldB lf[k] with
          | false =>
            have HV : Hid ((lf.take (k + 1)).filter toldB = (lf.take k).filter toldB) := by show _ = _; rw [HV.out, if_neg (by simp [hs]), List.append_nil]
            have hta := told_among lf[k]
            rw [hs] at hta
            have HA := Lib.hid hta
            clear hs hta
            go_wp2_with fail
            refine (Among_at false lf[k].n toldNames HA.out _ _ hnm (by omega) (by decide)).mono ?_
            rintro e w1 ⟨rfl, hb1⟩
            have hwr1 : Below wr.heap.size wr w1 := Bl.tr hal hb1
            go_wp2
            go_roundw
            case rel => exact ⟨k + 1, by go_num, by omega, by rw [HV.out]; exact own_below hown hwr1, hbel.trans (hwr1.mono hbel.size)⟩
            case measure => simp [intOf]; omega
          | true =>
            have HV : Hid ((lf.take (k + 1)).filter toldB = (lf.take k).filter toldB ++ [lf[k]]) := by show _ = _; rw [HV.out, if_pos hs]
            have hta := told_among lf[k]
            rw [hs] at hta
            have HA := Lib.hid hta
            clear hs hta
            go_wp2_with fail
            refine (Among_at true lf[k].n toldNames HA.out _ _ hnm (by omega) (by decide)).mono ?_
            rintro e w1 ⟨rfl, hb1⟩
            have hwr1 : Below wr.heap.size wr w1 := Bl.tr hal hb1
            obtain ⟨hc1, hf1⟩ := bcell hwr1
            have c0 := (hc1 b (off + k * 3) hbw).trans c0
            have c1 := (hc1 b (off + k * 3 + 1) hbw).trans c1
            have c2 := (hc1 b (off + k * 3 + 2) hbw).trans c2
            have y3 := (hc1 (w.heap.size + 1) 3 hqw).trans y3
            have hz1 := hwr1.size
            clear hc1 hf1
            go_wp2_with (at_builtin; refine wpList_appF rfl _ _ 22 rfl w3.heap.size Tryz.underlying22 (by kernel_rfl) _ _ _ rfl (own_below hown hwr1) rfl (by omega) (by have := hbel.size; omega) rfl ?_; intro a' c' w2 hown2 hb2 hz2)
            go_roundw
            case rel => exact ⟨k + 1, by go_num, by omega, by rw [HV.out, fcells_append, List.length_append]; exact hown2, (hbel.trans (hwr1.mono hbel.size)).trans hb2⟩
            case measure => simp [intOf]; omega
        · have hk' : k = lf.length := by omega
          subst hk'
          rw [List.take_length] at hown
          rw [← HO.out] at hown
          have hfo := hown
          obtain ⟨ao, co, rfl, -⟩ := (Fs.own hown).form
          go_wp2_with fail
          go_meet
          exact ⟨ao, co, rfl, rfl, rfl, hown, hbel⟩
    | false =>
      have y3 : w3.cell? ⟨w.heap.size + 1, 3, none⟩ = some (.slice pf lf.length cf) := hQ3.cell 3
      have hal : Below w3.heap.size w3 (w3.alloc (.cells #[S ageT] 9)) := (Below.refl _ _).alloc (Nat.le_refl _) _
      have hN : Ss (w3.alloc (.cells #[S ageT] 9)).heap.size (w3.alloc (.cells #[S ageT] 9)) (.slice (some ⟨w3.heap.size, 0, none⟩) 1 1) [ageT] := (Rd.lit w3 9 #[S ageT] 1 1 rfl (by decide)).mono (by simp)
      have hf4 := (hf3.below hal).mono hal.size
      go_wp2_with fail
      change Calls _ _ _ (w3.alloc (.cells #[S ageT] 9)) _
      refine (refWithout_any lf [ageT] _ _ _ hf4 hN (by omega) (by decide)).mono ?_
      rintro e w5 ⟨v5, rfl, ho5, hb5⟩
      have hb35 : Below w3.heap.size w3 w5 := Bl.tr hal hb5
      have ho5' := own_base ho5 hal.size
      have hF5 : Fs w5.heap.size w5 v5 (without lf [ageT]) := Fs.own ho5
      have hwo := fsum_filter lf (fun f => !among f.n [ageT])
      have hwd : without lf [ageT] = lf.filter (fun f => !among f.n [ageT]) := rfl
      rw [← hwd] at hwo
      clear hwd
      have hwl := fsum_length (without lf [ageT])
      clear y3 hf4 hN hal hb5 ho5
      have HO : Hid (ansO false st lf body.length = if hasB (without lf [ageT]) lenT = false ∧ st ≠ 204 then without lf [ageT] ++ [⟨lenT, digs body.length, false⟩] else without lf [ageT]) := rfl
      generalize ansO false st lf body.length = O at *
      generalize without lf [ageT] = W at *
      go_wp2_with fail
      refine (refHas_any W lenT _ w5 hF5 (by omega) (by decide)).mono ?_
      rintro e w6 ⟨rfl, hb6⟩
      have hb36 := Bl.tr hb35 hb6
      have ho6 := own_below ho5' hb6
      clear hF5 hb35 ho5' hb6
      cases hx : hasB W lenT with
      | true =>
        have HO : Hid (O = W) := by show _ = _; rw [HO.out, if_neg (by simp [hx])]
        clear hx
        rw [← HO.out] at ho6
        obtain ⟨ao, co, rfl, -⟩ := (Fs.own ho6).form
        go_wp2_with fail
        go_meet
        exact ⟨ao, co, rfl, rfl, rfl, ho6, hb36⟩
      | false =>
        by_cases hst : st = 204
        · have g : (st != 204) = false := by simp [hst]
          have HO : Hid (O = W) := by show _ = _; rw [HO.out, if_neg (by simp [hst])]
          clear hx hst
          rw [← HO.out] at ho6
          obtain ⟨ao, co, rfl, -⟩ := (Fs.own ho6).form
          go_wp2_with fail
          go_meet
          exact ⟨ao, co, rfl, rfl, rfl, ho6, hb36⟩
        · have g : (st != 204) = true := by simp [hst]
          have HO : Hid (O = W ++ [⟨lenT, digs body.length, false⟩]) := by show _ = _; rw [HO.out, if_pos ⟨hx, hst⟩]
          clear hx hst
          have DG := Lib.hid (fun w => refDigits_any body.length w (by omega))
          generalize digs body.length = db at *
          go_wp2_with fail
          refine (DG.out _).mono ?_
          rintro e w7 ⟨rfl, hb7⟩
          have hb37 := Bl.tr hb36 hb7
          have ho7 := own_below ho6 hb7
          have hz7 := hb37.size
          obtain ⟨ao, co, rfl, -⟩ := (Fs.own ho7).form
          go_wp2_with (at_builtin; refine wpList_appF rfl _ _ 22 rfl w3.heap.size Tryz.underlying22 (by kernel_rfl) _ _ _ rfl ho7 rfl (by omega) (by omega) rfl ?_; intro a' c' w8 hown8 hb8 hz8)
          go_meet
          refine ⟨a', c', by rw [HO.out, List.length_append]; rfl, rfl, rfl, ?_, hb37.trans hb8⟩
          rw [HO.out, fcells_append, List.length_append]
          exact hown8
  case rest =>
    obtain ⟨ao, co, rfl, rfl, rfl, hown, hb34⟩ := hcut
    have hw4 := Bl.tr hw3 hb34
    have hz3 := hw3.size
    have hf4 := (hf3.below hb34).mono hb34.size
    have hQ4 := hQ3.on hb34
    have hR4 := hR3.on hb34
    have HB : Hid (ansB met rm body = if (rm == headM) = true then [] else (if met = true then [] else body)) := by
      show _ = _
      unfold ansB bodyF
      cases met <;> simp
    generalize ansB met rm body = AB at *
    generalize (if met = true then [] else body) = bd at *
    generalize ansN met st = an at *
    generalize ansO met st lf body.length = O at *
    clear hw3 hf3 hQ3 hR3
    have x0 : wc.cell? ⟨w.heap.size, 0, none⟩ = some (S rm) := hR4.cell 0
    have g : ∃ b : Bool, (rm == [72, 69, 65, 68]) = b := ⟨_, rfl⟩
    obtain ⟨b, hbq⟩ := g
    have HB : Hid (AB = if b = true then [] else bd) := by show _ = _; rw [HB.out, ← hbq]; rfl
    go_upto_if 65 with fail
    go_cut [13] (fun s wx => s = S AB ∧ wc = wx)
    case first =>
      cases b
      all_goals
        go_wp2
        go_meet
        exact ⟨by rw [HB.out]; rfl, rfl⟩
    case rest =>
      obtain ⟨rfl, rfl⟩ := hcut
      clear x0 hbq HB b
      (have y0 : wc.cell? ⟨w.heap.size + 1, 0, none⟩ = some (S key) := hQ4.cell 0; have y1 : wc.cell? ⟨w.heap.size + 1, 1, none⟩ = some (vp) := hQ4.cell 1; have y2 : wc.cell? ⟨w.heap.size + 1, 2, none⟩ = some (.int .i64 st) := hQ4.cell 2; have y3 : wc.cell? ⟨w.heap.size + 1, 3, none⟩ = some (.slice pf lf.length cf) := hQ4.cell 3; have y4 : wc.cell? ⟨w.heap.size + 1, 4, none⟩ = some (S body) := hQ4.cell 4; have y5 : wc.cell? ⟨w.heap.size + 1, 5, none⟩ = some (.int .i64 asked) := hQ4.cell 5; have y6 : wc.cell? ⟨w.heap.size + 1, 6, none⟩ = some (.int .i64 came) := hQ4.cell 6)
      go_wp2_with fail
      refine (HAge.out _ hf4).mono ?_
      rintro e w5 ⟨rfl, hb5⟩
      have hw5 := Bl.tr hw4 hb5
      have ho5 := own_below hown hb5
      clear y0 y1 y2 y3 y4 y5 y6 hf4 hQ4 hR4
      go_wp2_with fail
      refine (refDigits_any A _ (by omega)).mono ?_
      rintro e w6 ⟨rfl, hb6⟩
      have hw6 := Bl.tr hw5 hb6
      have ho6 := own_below ho5 hb6
      have hz6 := hb6.size
      have hz5 := hb5.size
      have hz4 := hb34.size
      have hzw := hw6.size
      have hcl : (viaT who).length ≤ 2000 := by simp [viaT]; omega
      have hadd : ∀ w' : World, (Op.stringOp .add ⟨#[49, 46, 49, 32]⟩ ⟨who.toArray⟩).run Tryz.prog w' = .ok (S (viaT who)) w' := fun w' => by
        have := run_string_add_sum (P := Tryz.prog) (w := w') ⟨#[49, 46, 49, 32]⟩ ⟨who.toArray⟩ (by simp [ByteArray.size]; omega)
        rw [this]
        rw [show (⟨#[49, 46, 49, 32]⟩ : ByteArray) = ⟨([49, 46, 49, 32] : Bytes).toArray⟩ from rfl, ba_append]
        rfl
      have HD : Hid (ageFld A = ⟨ageT, digs A, false⟩) := rfl
      generalize hdg : digs A = dA at *
      go_wp2_with (first | (at_builtin; refine wpList_appFG rfl _ _ 22 rfl w3.heap.size Tryz.underlying22 (by kernel_rfl) _ _ _ rfl ho6 rfl (by omega) (by omega) rfl ?_; intro a' c' w8 hown8 hb8 hz8 hg8))
      have hw8 : Below w.heap.size w w8 := hw6.trans (hb8.mono hz3)
      have hF8 : Fs w8.heap.size w8 (.slice a' (O.length + 1) c') (O ++ [⟨ageT, dA, false⟩]) := by
        have := Rd.own hown8
        unfold Fs
        rw [fcells_append, List.length_append]
        exact this
      have hOA : fsum (O ++ [⟨ageT, dA, false⟩]) ≤ 1099511627776 := by rw [fsum_append, ← HD.out]; omega
      refine (refVia_any (O ++ [⟨ageT, dA, false⟩]) (viaT who) _ w8 hF8 hOA).mono ?_
      rintro e w9 ⟨v9, rfl, ho9, hb9⟩
      have hF9 := Fs.own ho9
      go_wp2
      go_ret3
      exact ⟨v9, rfl, by rw [HL.out, HD.out]; exact hF9, Bl.tr hw8 hb9⟩
end Go.Proofs.YtghggooaaefdcaaGreatDoor
