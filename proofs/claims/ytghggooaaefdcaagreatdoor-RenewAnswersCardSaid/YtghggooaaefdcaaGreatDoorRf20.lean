
/- The walks of layer 20's reference: the moment of a name's one value, whether a client has the answer already. -/
import Derived.Test.YtghggooaaefdcaaGreatDoorRdt9
import Derived.Test.YtghggooaaefdcaaGreatDoorAns
namespace Go.Dr
/-- The moment of a name's one value; -1: none. -/
def moI (l : List F) (name : Bytes) (came : Int) : Int := if moB l name came = true then (moV l name came : Nat) else -1
theorem parseF_max (x : Bytes) (came : Int) : parseF x (max came 0) = parseF x came := by
  unfold parseF
  rw [show clampD (max came 0) = clampD came by unfold clampD; omega]
theorem parseB_max (x : Bytes) (came : Int) : parseB x (max came 0) = parseB x came := by unfold parseB; rw [parseF_max]
theorem moI_no {l : List F} {name : Bytes} {came : Int} (h : oneB (values l name) = false) : moI l name came = -1 := by
  unfold moI; rw [(mo_no h).2, if_neg (by simp)]
theorem moI_one {l : List F} {name : Bytes} {came : Int} (h : oneB (values l name) = true) : moI l name came = if parseB (oneV (values l name)) came = true then ((parseF (oneV (values l name)) came).1 : Int) else -1 := by
  unfold moI; rw [(mo_one h).1, (mo_one h).2, parseB_max, parseF_max]
theorem metS_of (lr lf : List F) (came : Int) (b : Bool) (h : (decide (0 ≤ moI lr ifSinceT came) && (decide (0 ≤ moI lf (datName lf) came) && decide (moI lf (datName lf) came ≤ moI lr ifSinceT came))) = b) : metS lr lf came = b := by
  subst h
  unfold metS moI
  cases moB lr ifSinceT came
  · simp
  · cases moB lf (datName lf) came
    · simp
    · simp
end Go.Dr
namespace Go.Proofs.YtghggooaaefdcaaGreatDoor
open Go.RowKit Go.Dr

set_option maxRecDepth 100000 in
set_option maxHeartbeats 1000000 in
theorem refMoment_any (q : En) (l : List F) (v : Value) (name : Bytes) (w : World) (h : Fs w.heap.size w v l) (hl : fsum l ≤ 1099511627776) (hn : name.length ≤ 1099511627776) :
    Calls Tryz.prog 37 #[q.val, v, S name] w fun e w' => e = .returned (.int .i64 (moI l name q.came)) ∧ Below w.heap.size w w' := by
  obtain ⟨key, vp, st, vf, body, asked, came⟩ := q
  simp only
  have hQ := Blk.new w 27 (En.cells ⟨key, vp, st, vf, body, asked, came⟩)
  have hbx : Below w.heap.size w (w.alloc (.cells (En.cells ⟨key, vp, st, vf, body, asked, came⟩) 27)) := (Below.refl _ _).alloc (Nat.le_refl _) _
  have h1 := (h.below hbx).mono hbx.size
  have hO := oneV_length (values l name)
  have HS := ssum_values l name
  have hN := @moI_no l name came
  have hY := @moI_one l name came
  have HI := fun x => Lib.hid (parseB_int x came)
  have HP := fun x h => Lib.hid (fun w => refParse_any x came w h)
  have hle := fun x h => parseF_le x came h
  generalize moI l name came = D at *
  have HN := Lib.hid hN
  have HY := Lib.hid hY
  clear hN hY
  unfold En.val
  go_enter Tryz.func37, Tryz.ntmps37
  go_wp2_with fail
  refine (refOne_any l name _ _ h1 hl hn).mono ?_
  rintro e w1 ⟨rfl, hb1⟩
  have hw1 := Bl.tr hbx hb1
  have hQ1 := hQ.on hb1
  clear h1 hQ hbx hb1 h
  generalize oneV (values l name) = x at *
  cases hb : oneB (values l name) with
  | false =>
    have H1 := Lib.hid (HN.out hb)
    clear hb HN HY HP HI hle
    go_wp2
    go_ret
    exact ⟨ret_int H1.out.symm, hw1⟩
  | true =>
    have H1 := Lib.hid (HY.out hb)
    have C := HP x (by omega)
    have hpl := hle x (by omega)
    have HI := HI x
    clear hb HN HY HP hle
    generalize parseB x came = pb at *
    generalize parseF x came = pr at *
    have c6 : w1.cell? ⟨w.heap.size, 6, none⟩ = some (.int .i64 came) := hQ1.cell 6
    go_wp2_with fail
    refine (C.out _).mono ?_
    rintro e w2 ⟨rfl, hb2⟩
    have hw2 := Bl.tr hw1 hb2
    cases pb with
    | true =>
      have g : ((pr.2 : Int) != 0) = false := by rw [bne, HI.out]; rfl
      have HV : Hid (D = (pr.1 : Int)) := by show _ = _; rw [H1.out, if_pos rfl]
      go_wp2
      go_ret
      exact ⟨ret_int HV.out.symm, hw2⟩
    | false =>
      have g : ((pr.2 : Int) != 0) = true := by rw [bne, HI.out]; rfl
      have HV : Hid (D = -1) := by show _ = _; rw [H1.out, if_neg (by simp)]
      go_wp2
      go_ret
      exact ⟨ret_int HV.out.symm, hw2⟩

set_option maxRecDepth 100000 in
set_option maxHeartbeats 4000000 in
theorem refMetNo_any (r : Rq) (q : En) (lr lf : List F) (hm : ¬ ((r.m = getM ∨ r.m = headM) ∧ q.st = 200)) (w : World) (hr : Fs w.heap.size w r.v lr) (hf : Fs w.heap.size w q.vf lf) :
    Calls Tryz.prog 11 #[r.val, q.val] w fun e w' => e = .returned (.bool false) ∧ Below w.heap.size w w' := by
  obtain ⟨pr, cr, hrv, -⟩ := hr.form
  obtain ⟨pf, cf, hfv, -⟩ := hf.form
  obtain ⟨rm, rs, ra, rp, rv⟩ := r
  obtain ⟨key, vp, st, vf, body, asked, came⟩ := q
  simp only at hrv hfv hr hf hm
  subst hrv hfv
  have hbx : Below w.heap.size w (w.alloc (.cells #[S rm, S rs, S ra, S rp, .slice pr lr.length cr] 24)) := (Below.refl _ _).alloc (Nat.le_refl _) _
  have hby := hbx.alloc hbx.size (.cells #[S key, vp, .int .i64 st, .slice pf lf.length cf, S body, .int .i64 asked, .int .i64 came] 27)
  simp only [Rq.val, En.val]
  by_cases hst : st = 200
  · subst hst
    have h1 : (!rm == [71, 69, 84]) = true := by simp; exact fun e => hm ⟨.inl e, rfl⟩
    have h2 : (!rm == [72, 69, 65, 68]) = true := by simp; exact fun e => hm ⟨.inr e, rfl⟩
    clear hm
    go_enter Tryz.func11, Tryz.ntmps11
    go_wp2
    go_ret
    exact ⟨rfl, hby⟩
  · have g : (st != 200) = true := by simp [hst]
    clear hm hst
    go_enter Tryz.func11, Tryz.ntmps11
    go_wp2
    go_ret
    exact ⟨rfl, hby⟩

set_option maxRecDepth 100000 in
set_option maxHeartbeats 8000000 in
theorem refMetTag_any (r : Rq) (q : En) (lr lf : List F) (hm : r.m = [71, 69, 84] ∨ r.m = [72, 69, 65, 68]) (hst : q.st = 200) (hi : hasB lr ifNoneT = true) (w : World) (hr : Fs w.heap.size w r.v lr) (hf : Fs w.heap.size w q.vf lf) (hl : fsum lr ≤ 1099511627776) (hl2 : fsum lf ≤ 1099511627776) :
    Calls Tryz.prog 11 #[r.val, q.val] w fun e w' => e = .returned (.bool (metT (allOf lr ifNoneT) (oneB (values lf etagT)) (oneV (values lf etagT)))) ∧ Below w.heap.size w w' := by
  obtain ⟨pr, cr, hrv, -⟩ := hr.form
  obtain ⟨pf, cf, hfv, -⟩ := hf.form
  obtain ⟨rm, rs, ra, rp, rv⟩ := r
  obtain ⟨key, vp, st, vf, body, asked, came⟩ := q
  simp only at hrv hfv hr hf hm hst
  subst hrv hfv hst
  have hQ := Blk.new (w.alloc (.cells #[S rm, S rs, S ra, S rp, .slice pr lr.length cr] 24)) 27 #[S key, vp, .int .i64 200, .slice pf lf.length cf, S body, .int .i64 asked, .int .i64 came]
  have hR := (Blk.new w 24 #[S rm, S rs, S ra, S rp, .slice pr lr.length cr]).alloc (.cells #[S key, vp, .int .i64 200, .slice pf lf.length cf, S body, .int .i64 asked, .int .i64 came] 27)
  have hsz : (w.alloc (.cells #[S rm, S rs, S ra, S rp, .slice pr lr.length cr] 24)).heap.size = w.heap.size + 1 := by simp
  rw [hsz] at hQ
  have hbx : Below w.heap.size w (w.alloc (.cells #[S rm, S rs, S ra, S rp, .slice pr lr.length cr] 24)) := (Below.refl _ _).alloc (Nat.le_refl _) _
  have hby := hbx.alloc hbx.size (.cells #[S key, vp, .int .i64 200, .slice pf lf.length cf, S body, .int .i64 asked, .int .i64 came] 27)
  have hr1 := (hr.below hby).mono hby.size
  have hf1 := (hf.below hby).mono hby.size
  have HI := Lib.hid hi
  have HT := ssum_all lr ifNoneT
  have HO := oneV_length (values lf etagT)
  have HV := ssum_values lf etagT
  clear hi hr hf hbx hsz
  simp only [Rq.val, En.val]
  have hme : ∃ b : Bool, (!rm == [71, 69, 84]) = b ∧ (b = true → (!rm == [72, 69, 65, 68]) = false) := by
    rcases hm with e | e
    · exact ⟨false, by simp [e], by simp⟩
    · exact ⟨true, by simp [e], fun _ => by simp [e]⟩
  obtain ⟨bm, hb1, hb2⟩ := hme
  clear hm
  cases bm
  all_goals
    first | have hb3 := hb2 rfl | skip
    clear hb2
    go_enter Tryz.func11, Tryz.ntmps11
    go_wp2_with fail
    generalize (w.alloc (.cells #[S rm, S rs, S ra, S rp, .slice pr lr.length cr] 24)).alloc (.cells #[S key, vp, .int .i64 200, .slice pf lf.length cf, S body, .int .i64 asked, .int .i64 came] 27) = w2 at *
    refine (refHas_any lr ifNoneT _ _ hr1 hl (by decide)).mono ?_
    rintro e w3 ⟨rfl, hb3⟩
    rw [HI.out]
    have hw3 := Bl.tr hby hb3
    have hr3 := (hr1.below hb3).mono hb3.size
    have hf3 := (hf1.below hb3).mono hb3.size
    have hQ3 := hQ.on hb3
    have hR3 := hR.on hb3
    clear hr1 hf1 hby hb3 hQ hR
    have q4 : w3.cell? ⟨w.heap.size, 4, none⟩ = some (.slice pr lr.length cr) := hR3.cell 4
    go_wp2_with fail
    refine (refAll_any lr ifNoneT _ _ hr3 hl (by decide)).mono ?_
    rintro e w4 ⟨vt, rfl, hvt, hb4⟩
    have hw4 := Bl.tr hw3 hb4
    have ht4 := Ss.own hvt
    have hf4 := (hf3.below hb4).mono hb4.size
    have hQ4 := hQ3.on hb4
    generalize htags : allOf lr ifNoneT = tags at *
    have Htags := Lib.hid htags
    clear hw3 hr3 hf3 hb4 hvt htags q4 hQ3 hR3
    obtain ⟨pt, ct, rfl, hmt⟩ := ht4.form
    have q3 : w4.cell? ⟨w.heap.size + 1, 3, none⟩ = some (.slice pf lf.length cf) := hQ4.cell 3
    go_wp2_with fail
    refine (refOne_any lf etagT _ _ hf4 hl2 (by decide)).mono ?_
    rintro e w5 ⟨rfl, hb5⟩
    have hw5 := Bl.tr hw4 hb5
    have ht5 := (ht4.below hb5).mono hb5.size
    generalize htag : oneV (values lf etagT) = tag at *
    generalize hok : oneB (values lf etagT) = ok at *
    have Htag := Lib.hid htag
    have Hok := Lib.hid hok
    clear htag hok hw4 hf4 hb5 ht4 q3 hQ4
    go_wp2
    go_loop [8] (fun i => ∃ k : Nat, i = .int .i64 k ∧ k ≤ tags.length ∧ Hid (NoMet tags ok tag k)) (fun i => tags.length - (intOf i).toNat)
    case atStart => exact ⟨0, rfl, Nat.zero_le _, NoMet.zero _ _ _⟩
    case round =>
      obtain ⟨k, rfl, hk, HN⟩ := hrel
      by_cases hlt : k < tags.length
      · obtain ⟨b, off, rfl, hbb, c0⟩ := ht5.at k hlt
        have hf := ssum_mem (List.getElem_mem hlt)
        have hx9 : tags[k].length ≤ maxLen := by unfold maxLen; omega
        have ht9 : tag.length ≤ maxLen := by unfold maxLen; omega
        have B1 := Lib.hid (fun w => refBare_any tags[k] w hx9)
        have B2 := Lib.hid (fun w => refBare_any tag w ht9)
        clear hx9 ht9
        by_cases hs : tags[k] = [42]
        · have HT := Lib.hid (metT_at (ok := ok) (tag := tag) hlt (by simp [hs]))
          have g : (tags[k] == [42]) = true := by simp [hs]
          clear hs
          go_wp2
          go_ret
          exact ⟨ret_bool (by rw [Htags.out, Htag.out, Hok.out]; exact HT.out.symm), hw5⟩
        · have g : (tags[k] == [42]) = false := by simp [hs]
          cases ok with
          | false =>
            have HN2 := Lib.hid (HN.out.succ hlt (by simp [hs]))
            clear hs
            go_wp2
            go_round
            case rel => exact ⟨k + 1, by go_num, by omega, HN2⟩
            case measure => simp [intOf]; omega
          | true =>
            have HA : Hid (alikeB tags[k] tag = (bareT tags[k] == bareT tag)) := rfl
            generalize hbx : bareT tags[k] = x1 at *
            generalize hby : bareT tag = x2 at *
            clear hbx hby
            cases ha : x1 == x2 with
            | true =>
              have HT := Lib.hid (metT_at (ok := true) (tag := tag) hlt (by simp [HA.out, ha]))
              clear hs
              go_wp2_with fail
              refine (B1.out _).mono ?_
              rintro e w6 ⟨rfl, rfl⟩
              go_wp2_with fail
              refine (B2.out _).mono ?_
              rintro e w7 ⟨rfl, rfl⟩
              go_wp2
              go_ret
              exact ⟨ret_bool (by rw [Htags.out, Htag.out, Hok.out]; exact HT.out.symm), hw5⟩
            | false =>
              have HN2 := Lib.hid (HN.out.succ hlt (by simp [hs, HA.out, ha]))
              clear hs
              go_wp2_with fail
              refine (B1.out _).mono ?_
              rintro e w6 ⟨rfl, rfl⟩
              go_wp2_with fail
              refine (B2.out _).mono ?_
              rintro e w7 ⟨rfl, rfl⟩
              go_wp2
              go_round
              case rel => exact ⟨k + 1, by go_num, by omega, HN2⟩
              case measure => simp [intOf]; omega
      · obtain rfl : k = tags.length := by omega
        have HT := Lib.hid HN.out.all
        go_wp2
        go_ret
        exact ⟨ret_bool (by rw [Htags.out, Htag.out, Hok.out]; exact HT.out.symm), hw5⟩

set_option maxRecDepth 100000 in
set_option maxHeartbeats 8000000 in
theorem refMetSince_any (r : Rq) (q : En) (lr lf : List F) (hm : r.m = getM ∨ r.m = headM) (hst : q.st = 200) (hi : hasB lr ifNoneT = false) (w : World) (hr : Fs w.heap.size w r.v lr) (hf : Fs w.heap.size w q.vf lf) (hl : fsum lr ≤ 1099511627776) (hl2 : fsum lf ≤ 1099511627776) :
    Calls Tryz.prog 11 #[r.val, q.val] w fun e w' => e = .returned (.bool (metS lr lf q.came)) ∧ Below w.heap.size w w' := by
  have hMo1 := fun w h => refMoment_any q lr r.v ifSinceT w h hl (by decide)
  have hMo2 := fun w h => refMoment_any q lf q.vf lastT w h hl2 (by decide)
  have hMo3 := fun w h => refMoment_any q lf q.vf dateT w h hl2 (by decide)
  obtain ⟨pr, cr, hrv, -⟩ := hr.form
  obtain ⟨pf, cf, hfv, -⟩ := hf.form
  obtain ⟨rm, rs, ra, rp, rv⟩ := r
  obtain ⟨key, vp, st, vf, body, asked, came⟩ := q
  simp only at hrv hfv hr hf hm hst hMo1 hMo2 hMo3 ⊢
  subst hrv hfv hst
  simp only [Rq.val, En.val] at hMo1 hMo2 hMo3 ⊢
  have HMo1 := Lib.hid hMo1
  have HMo2 := Lib.hid hMo2
  have HMo3 := Lib.hid hMo3
  clear hMo1 hMo2 hMo3
  have HMS := Lib.hid (metS_of lr lf came)
  have HON : Hid (datName lf = if hasB lf lastT = true then lastT else dateT) := rfl
  generalize metS lr lf came = ms at *
  have hQ := Blk.new (w.alloc (.cells #[S rm, S rs, S ra, S rp, .slice pr lr.length cr] 24)) 27 #[S key, vp, .int .i64 200, .slice pf lf.length cf, S body, .int .i64 asked, .int .i64 came]
  have hR := (Blk.new w 24 #[S rm, S rs, S ra, S rp, .slice pr lr.length cr]).alloc (.cells #[S key, vp, .int .i64 200, .slice pf lf.length cf, S body, .int .i64 asked, .int .i64 came] 27)
  have hsz : (w.alloc (.cells #[S rm, S rs, S ra, S rp, .slice pr lr.length cr] 24)).heap.size = w.heap.size + 1 := by simp
  rw [hsz] at hQ
  have hbx : Below w.heap.size w (w.alloc (.cells #[S rm, S rs, S ra, S rp, .slice pr lr.length cr] 24)) := (Below.refl _ _).alloc (Nat.le_refl _) _
  have hby := hbx.alloc hbx.size (.cells #[S key, vp, .int .i64 200, .slice pf lf.length cf, S body, .int .i64 asked, .int .i64 came] 27)
  have hr1 := (hr.below hby).mono hby.size
  have hf1 := (hf.below hby).mono hby.size
  have HI := Lib.hid hi
  clear hi hr hf hbx hsz
  have hme : ∃ b : Bool, (!rm == [71, 69, 84]) = b ∧ (b = true → (!rm == [72, 69, 65, 68]) = false) := by
    rcases hm with e | e
    · exact ⟨false, by simp [e, getM], by simp⟩
    · exact ⟨true, by simp [e, headM], fun _ => by simp [e, headM]⟩
  obtain ⟨bm, hb1, hb2⟩ := hme
  clear hm
  cases bm
  all_goals
    first | have hb3 := hb2 rfl | skip
    clear hb2
    go_enter Tryz.func11, Tryz.ntmps11
    go_wp2_with fail
    generalize (w.alloc (.cells #[S rm, S rs, S ra, S rp, .slice pr lr.length cr] 24)).alloc (.cells #[S key, vp, .int .i64 200, .slice pf lf.length cf, S body, .int .i64 asked, .int .i64 came] 27) = w2 at *
    refine (refHas_any lr ifNoneT _ _ hr1 hl (by decide)).mono ?_
    rintro e w3 ⟨rfl, hb3⟩
    rw [HI.out]
    have hw3 := Bl.tr hby hb3
    have hr3 := (hr1.below hb3).mono hb3.size
    have hf3 := (hf1.below hb3).mono hb3.size
    have hQ3 := hQ.on hb3
    have hR3 := hR.on hb3
    clear hr1 hf1 hby hb3 hQ hR
    have q4 : w3.cell? ⟨w.heap.size, 4, none⟩ = some (.slice pr lr.length cr) := hR3.cell 4
    (have c0 : w3.cell? ⟨w.heap.size + 1, 0, none⟩ = some (S key) := hQ3.cell 0; have c1 : w3.cell? ⟨w.heap.size + 1, 1, none⟩ = some (vp) := hQ3.cell 1; have c2 : w3.cell? ⟨w.heap.size + 1, 2, none⟩ = some (.int .i64 200) := hQ3.cell 2; have c3 : w3.cell? ⟨w.heap.size + 1, 3, none⟩ = some (.slice pf lf.length cf) := hQ3.cell 3; have c4 : w3.cell? ⟨w.heap.size + 1, 4, none⟩ = some (S body) := hQ3.cell 4; have c5 : w3.cell? ⟨w.heap.size + 1, 5, none⟩ = some (.int .i64 asked) := hQ3.cell 5; have c6 : w3.cell? ⟨w.heap.size + 1, 6, none⟩ = some (.int .i64 came) := hQ3.cell 6)
    go_wp2_with fail
    refine (HMo1.out _ hr3).mono ?_
    rintro e w4 ⟨rfl, hb4⟩
    have hw4 := Bl.tr hw3 hb4
    have hf4 := (hf3.below hb4).mono hb4.size
    have hQ4 := hQ3.on hb4
    clear hw3 hr3 hf3 hQ3 hb4 c0 c1 c2 c3 c4 c5 c6 q4 hR3
    generalize moI lr ifSinceT came = v1 at *
    (have c0 : w4.cell? ⟨w.heap.size + 1, 0, none⟩ = some (S key) := hQ4.cell 0; have c1 : w4.cell? ⟨w.heap.size + 1, 1, none⟩ = some (vp) := hQ4.cell 1; have c2 : w4.cell? ⟨w.heap.size + 1, 2, none⟩ = some (.int .i64 200) := hQ4.cell 2; have c3 : w4.cell? ⟨w.heap.size + 1, 3, none⟩ = some (.slice pf lf.length cf) := hQ4.cell 3; have c4 : w4.cell? ⟨w.heap.size + 1, 4, none⟩ = some (S body) := hQ4.cell 4; have c5 : w4.cell? ⟨w.heap.size + 1, 5, none⟩ = some (.int .i64 asked) := hQ4.cell 5; have c6 : w4.cell? ⟨w.heap.size + 1, 6, none⟩ = some (.int .i64 came) := hQ4.cell 6)
    go_wp2_with fail
    refine (HMo2.out _ hf4).mono ?_
    rintro e w5 ⟨rfl, hb5⟩
    have hw5 := Bl.tr hw4 hb5
    have hf5 := (hf4.below hb5).mono hb5.size
    have hQ5 := hQ4.on hb5
    clear hw4 hf4 hQ4 hb5 c0 c1 c2 c3 c4 c5 c6
    (have c0 : w5.cell? ⟨w.heap.size + 1, 0, none⟩ = some (S key) := hQ5.cell 0; have c1 : w5.cell? ⟨w.heap.size + 1, 1, none⟩ = some (vp) := hQ5.cell 1; have c2 : w5.cell? ⟨w.heap.size + 1, 2, none⟩ = some (.int .i64 200) := hQ5.cell 2; have c3 : w5.cell? ⟨w.heap.size + 1, 3, none⟩ = some (.slice pf lf.length cf) := hQ5.cell 3; have c4 : w5.cell? ⟨w.heap.size + 1, 4, none⟩ = some (S body) := hQ5.cell 4; have c5 : w5.cell? ⟨w.heap.size + 1, 5, none⟩ = some (.int .i64 asked) := hQ5.cell 5; have c6 : w5.cell? ⟨w.heap.size + 1, 6, none⟩ = some (.int .i64 came) := hQ5.cell 6)
    go_wp2_with fail
    refine (refHas_any lf lastT _ _ hf5 hl2 (by decide)).mono ?_
    rintro e w6 ⟨rfl, hb6⟩
    have hw6 := Bl.tr hw5 hb6
    have hf6 := (hf5.below hb6).mono hb6.size
    have hQ6 := hQ5.on hb6
    clear hw5 hf5 hQ5 hb6 c0 c1 c2 c3 c4 c5 c6
    cases hh : hasB lf lastT with
    | true =>
      have HMSa : Hid (∀ b : Bool, (decide (0 ≤ v1) && (decide (0 ≤ moI lf lastT came) && decide (moI lf lastT came ≤ v1))) = b → ms = b) := by
        have hd : datName lf = lastT := by rw [HON.out, hh]; rfl
        have := HMS.out
        rw [hd] at this
        exact this
      clear hh HMS HON
      generalize moI lf lastT came = v2 at *
      by_cases g1 : 0 ≤ v1
      · by_cases g2 : 0 ≤ v2
        · have HR := Lib.hid (HMSa.out (decide (v2 ≤ v1)) (by simp [g1, g2]))
          clear HMSa
          go_wp2
          go_ret
          exact ⟨ret_bool HR.out.symm, hw6⟩
        · have HR := Lib.hid (HMSa.out false (by simp [g2]))
          clear HMSa
          go_wp2
          go_ret
          exact ⟨ret_bool HR.out.symm, hw6⟩
      · have HR := Lib.hid (HMSa.out false (by simp [g1]))
        clear HMSa
        go_wp2
        go_ret
        exact ⟨ret_bool HR.out.symm, hw6⟩
    | false =>
      have HMSa : Hid (∀ b : Bool, (decide (0 ≤ v1) && (decide (0 ≤ moI lf dateT came) && decide (moI lf dateT came ≤ v1))) = b → ms = b) := by
        have hd : datName lf = dateT := by rw [HON.out, hh]; rfl
        have := HMS.out
        rw [hd] at this
        exact this
      clear hh HMS HON
      generalize moI lf lastT came = v0 at *
      (have c0 : w6.cell? ⟨w.heap.size + 1, 0, none⟩ = some (S key) := hQ6.cell 0; have c1 : w6.cell? ⟨w.heap.size + 1, 1, none⟩ = some (vp) := hQ6.cell 1; have c2 : w6.cell? ⟨w.heap.size + 1, 2, none⟩ = some (.int .i64 200) := hQ6.cell 2; have c3 : w6.cell? ⟨w.heap.size + 1, 3, none⟩ = some (.slice pf lf.length cf) := hQ6.cell 3; have c4 : w6.cell? ⟨w.heap.size + 1, 4, none⟩ = some (S body) := hQ6.cell 4; have c5 : w6.cell? ⟨w.heap.size + 1, 5, none⟩ = some (.int .i64 asked) := hQ6.cell 5; have c6 : w6.cell? ⟨w.heap.size + 1, 6, none⟩ = some (.int .i64 came) := hQ6.cell 6)
      go_wp2_with fail
      refine (HMo3.out _ hf6).mono ?_
      rintro e w7 ⟨rfl, hb7⟩
      have hw7 := Bl.tr hw6 hb7
      generalize moI lf dateT came = v2 at *
      by_cases g1 : 0 ≤ v1
      · by_cases g2 : 0 ≤ v2
        · have HR := Lib.hid (HMSa.out (decide (v2 ≤ v1)) (by simp [g1, g2]))
          clear HMSa
          go_wp2
          go_ret
          exact ⟨ret_bool HR.out.symm, hw7⟩
        · have HR := Lib.hid (HMSa.out false (by simp [g2]))
          clear HMSa
          go_wp2
          go_ret
          exact ⟨ret_bool HR.out.symm, hw7⟩
      · have HR := Lib.hid (HMSa.out false (by simp [g1]))
        clear HMSa
        go_wp2
        go_ret
        exact ⟨ret_bool HR.out.symm, hw7⟩

theorem refMet_any (r : Rq) (q : En) (lr lf : List F) (w : World) (hr : Fs w.heap.size w r.v lr) (hf : Fs w.heap.size w q.vf lf) (hl : fsum lr ≤ 1099511627776) (hl2 : fsum lf ≤ 1099511627776) :
    Calls Tryz.prog 11 #[r.val, q.val] w fun e w' => e = .returned (.bool (metF r.m q.st lr lf q.came)) ∧ Below w.heap.size w w' := by
  by_cases h : (r.m = getM ∨ r.m = headM) ∧ q.st = 200
  · by_cases hi : hasB lr ifNoneT = true
    · have := refMetTag_any r q lr lf h.1 h.2 hi w hr hf hl hl2
      unfold metF
      rw [if_pos h, if_pos hi]
      exact this
    · have := refMetSince_any r q lr lf h.1 h.2 (by simpa using hi) w hr hf hl hl2
      unfold metF
      rw [if_pos h, if_neg hi]
      exact this
  · have := refMetNo_any r q lr lf h w hr hf
    unfold metF
    rw [if_neg h]
    exact this
end Go.Proofs.YtghggooaaefdcaaGreatDoor
