/- Parts of the proof of DealAsks_holds: the texts Law21d CardDAsks. -/
import Derived.Test.YtahapblgmehngaaGreatDoorA25
import Derived.Test.YtahapblgmehngaaGreatDoorA46
import Derived.Test.YtahapblgmehngaaGreatDoorA47
import Derived.Test.YtahapblgmehngaaGreatDoorCards
import Derived.Test.YtahapblgmehngaaGreatDoorA3
import Derived.Test.YtahapblgmehngaaGreatDoorTie
set_option linter.unusedSimpArgs false
set_option linter.unusedVariables false
set_option linter.unnecessarySimpa false
namespace Go.Proofs.YtahapblgmehngaaGreatDoor
open Go.RowKit Go.Dr

theorem nil_ks (w : World) : Ks w.heap.size w (.slice none 0 0) [] := ⟨Rd.nil _ _ _, by simp⟩
set_option maxRecDepth 100000 in
set_option maxHeartbeats 4000000 in
theorem asks21_law (r : Rq) (lr : List F) (st : Int) (w : World) (hr : Fs w.heap.size w r.v lr) (hro : FOk lr) :
    Calls Tryz.prog 7 #[r.val, .int .i64 st] w fun e w' => e = .returned (.bool true) ∧ Below w.heap.size w w' := by
  obtain ⟨pr, cr, hrv, -⟩ := hr.form
  obtain ⟨rm, rs, ra, rp, rv⟩ := r
  simp only at hrv hr
  subst hrv
  simp only [Rq.val]
  obtain ⟨w0, ew⟩ : ∃ w0 : World, w0 = w.alloc (.cells #[S rm, S rs, S ra, S rp, .slice pr lr.length cr] 28) := ⟨_, rfl⟩
  obtain ⟨G, eG⟩ : ∃ G, G = w.heap.size := ⟨_, rfl⟩
  have hQ0 : Blk w0 G 28 #[S rm, S rs, S ra, S rp, .slice pr lr.length cr] := by rw [ew, eG]; exact Blk.new _ _ _
  have hb0 : Below w.heap.size w w0 := by rw [ew]; exact (Below.refl _ _).alloc (Nat.le_refl _) _
  have hr0 := (hr.below hb0).mono hb0.size
  have HG := Lib.hid eG
  have HW := Lib.hid ew
  have HRO := Lib.hid hro
  clear eG ew hr hro
  go_enter Tryz.func7, Tryz.ntmps7
  go_upto_region 1 with fail
  rw [← HG.out, ← HW.out]
  go_wp2_with fail
  refine (awake21_any w0).mono ?_
  rintro e w1 ⟨rfl, hb1⟩
  have hQ1 := hQ0.on hb1
  have hr1 := (hr0.below hb1).mono hb1.size
  have hw1 := Bl.tr hb0 hb1
  clear hQ0 hr0 hb0 hb1
  have hF := few21_any [] (.slice none 0 0) ⟨rm, rs, ra, rp, .slice pr lr.length cr⟩ lr w1 (nil_ks w1) (by simp) hr1 HRO.out
  simp only [Rq.val] at hF
  have x0 : w1.cell? ⟨G, 0, none⟩ = some (S rm) := hQ1.cell 0; have x1 : w1.cell? ⟨G, 1, none⟩ = some (S rs) := hQ1.cell 1; have x2 : w1.cell? ⟨G, 2, none⟩ = some (S ra) := hQ1.cell 2; have x3 : w1.cell? ⟨G, 3, none⟩ = some (S rp) := hQ1.cell 3; have x4 : w1.cell? ⟨G, 4, none⟩ = some (.slice pr lr.length cr) := hQ1.cell 4
  go_wp2_with fail
  refine hF.mono ?_
  rintro e w2 ⟨b, rfl, hsm, hb2⟩
  have hQ2 := hQ1.on hb2
  have hr2 := (hr1.below hb2).mono hb2.size
  have hw2 := Bl.tr hw1 hb2
  have HSM := Lib.hid hsm
  clear hF hQ1 hr1 hw1 hb2 hsm x0 x1 x2 x3 x4
  cases b with
  | false =>
    go_wp2
    go_ret
    exact ⟨rfl, hw2⟩
  | true =>
    have hl : fsum lr ≤ 1099511627776 := by
      have := (HSM.out rfl).1
      omega
    have H1 := Lib.hid (fun w h => Spoils_any ⟨rm, rs, ra, rp, .slice pr lr.length cr⟩ lr st w h)
    have H2 := Lib.hid (fun w h => refSpoils_any ⟨rm, rs, ra, rp, .slice pr lr.length cr⟩ lr st w h)
    have H3 := Lib.hid (fun w h => Shares_any ⟨rm, rs, ra, rp, .slice pr lr.length cr⟩ lr w h hl)
    have H4 := Lib.hid (fun w h => refShares_any ⟨rm, rs, ra, rp, .slice pr lr.length cr⟩ lr w h hl)
    simp only [Rq.val] at H1 H2 H3 H4
    generalize spoilsB rm st = sp at H1 H2
    generalize sharesB rm lr = sh at H3 H4
    clear hl HSM
    cases sp <;> cases sh
    all_goals
      go_wp2_with fail
      refine wp_region_held_drew (S := (fun wx => wx.cell? ⟨G, 0, none⟩ = some (S rm) ∧ wx.cell? ⟨G, 1, none⟩ = some (S rs) ∧ wx.cell? ⟨G, 2, none⟩ = some (S ra) ∧ wx.cell? ⟨G, 3, none⟩ = some (S rp) ∧ wx.cell? ⟨G, 4, none⟩ = some (.slice pr lr.length cr))) (by kernel_rfl) ⟨hQ2.cell 0, hQ2.cell 1, hQ2.cell 2, hQ2.cell 3, hQ2.cell 4⟩ (fun hHeld => ?_)
      refine wpAnyH_take (i := 0) (v := ?_) (by rfl) (by kernel_rfl) (by kernel_rfl) (by kernel_rfl) (by exact fun _ _ _ h => h) (Or.inl ⟨by rfl, ?_⟩) hHeld ?_
      rotate_left
      · (intro w hSw; (try dsimp only at hSw); go_simp; try with_reducible rfl)
      simp only [Act.put, List.getElem_toArray, List.getElem_cons_succ, List.getElem_cons_zero, List.setIfInBounds_toArray, List.set_cons_zero, List.set_cons_succ]
      refine wpAnyH_take (i := 1) (v := ?_) (by rfl) (by kernel_rfl) (by kernel_rfl) (by kernel_rfl) (by exact fun _ _ _ h => h) (Or.inl ⟨by rfl, ?_⟩) hHeld ?_
      rotate_left
      · (intro w hSw; (try dsimp only at hSw); go_simp; try with_reducible rfl)
      simp only [Act.put, List.getElem_toArray, List.getElem_cons_succ, List.getElem_cons_zero, List.setIfInBounds_toArray, List.set_cons_zero, List.set_cons_succ]
      refine wpAnyH_take (i := 3) (v := ?_) (by rfl) (by kernel_rfl) (by kernel_rfl) (by kernel_rfl) (by exact fun _ _ _ h => h) (Or.inl ⟨by rfl, ?_⟩) hHeld ?_
      rotate_left
      · (intro w hSw; (try dsimp only at hSw); go_simp; try with_reducible rfl)
      simp only [Act.put, List.getElem_toArray, List.getElem_cons_succ, List.getElem_cons_zero, List.setIfInBounds_toArray, List.set_cons_zero, List.set_cons_succ]
      refine wpAnyH_take (i := 4) (v := ?_) (by rfl) (by kernel_rfl) (by kernel_rfl) (by kernel_rfl) (by exact fun _ _ _ h => h) (Or.inl ⟨by rfl, ?_⟩) hHeld ?_
      rotate_left
      · (intro w hSw; (try dsimp only at hSw); go_simp; try with_reducible rfl)
      simp only [Act.put, List.getElem_toArray, List.getElem_cons_succ, List.getElem_cons_zero, List.setIfInBounds_toArray, List.set_cons_zero, List.set_cons_succ]
      refine wpAnyH_ready (rs := [2]) (by kernel_rfl) (by simp) ?_
      refine AllReadyH.cons (by rfl) (fun K hK => ?_) AllReadyH.nil
      go_simp
      (with_reducible refine (H1.out w2.drew (show Fs w2.drew.heap.size w2.drew _ lr from hr2.drew)).mono ?_); rintro e w3 ⟨rfl, hb3⟩; replace hb3 := Bl.undrew hb3; have hQ3 := hQ2.on hb3; have hr3 := (hr2.below hb3).mono hb3.size; have hw3 := Bl.tr hw2 hb3
      refine hK.out _ _ ⟨hQ3.cell 0, hQ3.cell 1, hQ3.cell 2, hQ3.cell 3, hQ3.cell 4⟩ (fun hHeld => ?_)
      clear hK K
      try simp only [Act.put, List.getElem_toArray, List.getElem_cons_succ, List.getElem_cons_zero, List.setIfInBounds_toArray, List.set_cons_zero, List.set_cons_succ]
      refine wpAnyH_ready (rs := [5]) (by kernel_rfl) (by simp) ?_
      refine AllReadyH.cons (by rfl) (fun K hK => ?_) AllReadyH.nil
      go_simp
      (with_reducible refine (H2.out w3 (hr3)).mono ?_); rintro e w4 ⟨rfl, hb4⟩; have hQ4 := hQ3.on hb4; have hr4 := (hr3.below hb4).mono hb4.size; have hw4 := Bl.tr hw3 hb4
      refine hK.out _ _ ⟨hQ4.cell 0, hQ4.cell 1, hQ4.cell 2, hQ4.cell 3, hQ4.cell 4⟩ (fun hHeld => ?_)
      clear hK K
      try simp only [Act.put, List.getElem_toArray, List.getElem_cons_succ, List.getElem_cons_zero, List.setIfInBounds_toArray, List.set_cons_zero, List.set_cons_succ]
      refine wpAnyH_take (i := 6) (v := ?_) (by rfl) (by kernel_rfl) (by kernel_rfl) (by kernel_rfl) (by exact fun _ _ _ h => h) (Or.inl ⟨by rfl, ?_⟩) hHeld ?_
      rotate_left
      · (intro w hSw; (try dsimp only at hSw); go_simp; try with_reducible rfl)
      simp only [Act.put, List.getElem_toArray, List.getElem_cons_succ, List.getElem_cons_zero, List.setIfInBounds_toArray, List.set_cons_zero, List.set_cons_succ]
      refine wpAnyH_take (i := 7) (v := ?_) (by rfl) (by kernel_rfl) (by kernel_rfl) (by kernel_rfl) (by exact fun _ _ _ h => h) (Or.inl ⟨by rfl, ?_⟩) hHeld ?_
      rotate_left
      · (intro w hSw; (try dsimp only at hSw); go_simp; try with_reducible rfl)
      simp only [Act.put, List.getElem_toArray, List.getElem_cons_succ, List.getElem_cons_zero, List.setIfInBounds_toArray, List.set_cons_zero, List.set_cons_succ]
      refine wpAnyH_take (i := 8) (v := ?_) (by rfl) (by kernel_rfl) (by kernel_rfl) (by kernel_rfl) (by exact fun _ _ _ h => h) (Or.inl ⟨by rfl, ?_⟩) hHeld ?_
      rotate_left
      · (intro w hSw; (try dsimp only at hSw); go_simp; try with_reducible rfl)
      simp only [Act.put, List.getElem_toArray, List.getElem_cons_succ, List.getElem_cons_zero, List.setIfInBounds_toArray, List.set_cons_zero, List.set_cons_succ]
      refine wpAnyH_take (i := 10) (v := ?_) (by rfl) (by kernel_rfl) (by kernel_rfl) (by kernel_rfl) (by exact fun _ _ _ h => h) (Or.inl ⟨by rfl, ?_⟩) hHeld ?_
      rotate_left
      · (intro w hSw; (try dsimp only at hSw); go_simp; try with_reducible rfl)
      simp only [Act.put, List.getElem_toArray, List.getElem_cons_succ, List.getElem_cons_zero, List.setIfInBounds_toArray, List.set_cons_zero, List.set_cons_succ]
      refine wpAnyH_ready (rs := [9]) (by kernel_rfl) (by simp) ?_
      refine AllReadyH.cons (by rfl) (fun K hK => ?_) AllReadyH.nil
      go_simp
      (with_reducible refine (H3.out w4 (hr4)).mono ?_); rintro e w5 ⟨rfl, hb5⟩; have hQ5 := hQ4.on hb5; have hr5 := (hr4.below hb5).mono hb5.size; have hw5 := Bl.tr hw4 hb5
      refine hK.out _ _ ⟨hQ5.cell 0, hQ5.cell 1, hQ5.cell 2, hQ5.cell 3, hQ5.cell 4⟩ (fun hHeld => ?_)
      clear hK K
      try simp only [Act.put, List.getElem_toArray, List.getElem_cons_succ, List.getElem_cons_zero, List.setIfInBounds_toArray, List.set_cons_zero, List.set_cons_succ]
      refine wpAnyH_ready (rs := [11]) (by kernel_rfl) (by simp) ?_
      refine AllReadyH.cons (by rfl) (fun K hK => ?_) AllReadyH.nil
      go_simp
      (with_reducible refine (H4.out w5 (hr5)).mono ?_); rintro e w6 ⟨rfl, hb6⟩; have hQ6 := hQ5.on hb6; have hr6 := (hr5.below hb6).mono hb6.size; have hw6 := Bl.tr hw5 hb6
      refine hK.out _ _ ⟨hQ6.cell 0, hQ6.cell 1, hQ6.cell 2, hQ6.cell 3, hQ6.cell 4⟩ (fun hHeld => ?_)
      clear hK K
      try simp only [Act.put, List.getElem_toArray, List.getElem_cons_succ, List.getElem_cons_zero, List.setIfInBounds_toArray, List.set_cons_zero, List.set_cons_succ]
      refine wpAnyH_take (i := 12) (v := ?_) (by rfl) (by kernel_rfl) (by kernel_rfl) (by kernel_rfl) (by exact fun _ _ _ h => h) (Or.inl ⟨by rfl, ?_⟩) hHeld ?_
      rotate_left
      · (intro w hSw; (try dsimp only at hSw); go_simp; try with_reducible rfl)
      simp only [Act.put, List.getElem_toArray, List.getElem_cons_succ, List.getElem_cons_zero, List.setIfInBounds_toArray, List.set_cons_zero, List.set_cons_succ]
      refine wpAnyH_take (i := 13) (v := ?_) (by rfl) (by kernel_rfl) (by kernel_rfl) (by kernel_rfl) (by exact fun _ _ _ h => h) (Or.inl ⟨by rfl, ?_⟩) hHeld ?_
      rotate_left
      · (intro w hSw; (try dsimp only at hSw); go_simp; try with_reducible rfl)
      simp only [Act.put, List.getElem_toArray, List.getElem_cons_succ, List.getElem_cons_zero, List.setIfInBounds_toArray, List.set_cons_zero, List.set_cons_succ]
      refine wpAnyH_take (i := 14) (v := ?_) (by rfl) (by kernel_rfl) (by kernel_rfl) (by kernel_rfl) (by exact fun _ _ _ h => h) (Or.inl ⟨by rfl, ?_⟩) hHeld ?_
      rotate_left
      · (intro w hSw; (try dsimp only at hSw); go_simp; try with_reducible rfl)
      simp only [Act.put, List.getElem_toArray, List.getElem_cons_succ, List.getElem_cons_zero, List.setIfInBounds_toArray, List.set_cons_zero, List.set_cons_succ]
      try simp only [Act.put, List.getElem_toArray, List.getElem_cons_succ, List.getElem_cons_zero, List.setIfInBounds_toArray, List.set_cons_zero, List.set_cons_succ]
      refine wpAnyH_done (by kernel_rfl) ?_ _
      go_wp2
      go_ret
      exact ⟨rfl, hw6⟩
end Go.Proofs.YtahapblgmehngaaGreatDoor

namespace Go.Proofs.YtahapblgmehngaaGreatDoor.cDealAsks
open Go.ChangeShapes Go.WideShapes Go.ChangeAt Go.RowKit Go.Dr Go.ChangeMaps

theorem own : ownKnob Tryz.prog.godebug = none := by kernel_rfl
theorem laidOut : laidOutB Tryz.prog = true := by kernel_rfl
theorem readable : (Tryz.f7.params.toList.all fun t => Tryz.prog.readableRec t && decide (t < Tryz.prog.types.size)) = true := by kernel_rfl
set_option maxRecDepth 100000 in
theorem contract (H : Type) (enc : TypeId × Value → H) (W : World) (base : Nat) (args : Array Value) (ds gs : List (DataW H)) (before : List MemPlace)
    (hval : ∀ (j : Nat) t v, Tryz.f7.params[j]? = some t → args[j]? = some v → Value.okWide Tryz.prog W .any base t v)
    (hW : DataW.Whole enc Tryz.prog Tryz.f7.params.toList Rows.dealAsksSpec.vars false W args.toList ds gs before)
    (hw : (DataW.weightsEach Tryz.prog (Tryz.f7.params.toList ++ (OpenSpec.ofChange Rows.dealAsksSpec).bare.plain.varTypes Tryz.prog) (ds ++ gs)).all (· ≤ reachBytes) = true) :
    Calls Tryz.prog 7 args W fun e W' => ∃ v, e = .returned v ∧ Rows.dealAsksSpec.post enc Tryz.prog Tryz.f7 false true false false W args v W' := by
  have hW' := hW
  obtain ⟨p, q, hA, hV, rfl, -, -⟩ := hW
  rw [Tryz.params7] at hA hval hw
  obtain ⟨v0, vs0, d0, ds0, p0, q0, hargs, rfl, rfl, h0, r0⟩ := trodAll_cons hA
  obtain ⟨v1, vs1, d1, ds1, p1, q1, rfl, rfl, rfl, h1, r1⟩ := trodAll_cons r0
  obtain ⟨rfl, rfl, rfl⟩ := trodAll_nil r1
  obtain rfl : args = #[v0, v1] := by cases args; simp_all
  obtain ⟨rfl, rfl⟩ := trodVars_none hV
  have hvt : (OpenSpec.ofChange Rows.dealAsksSpec).bare.plain.varTypes Tryz.prog = [] := rfl
  rw [hvt] at hw
  simp only [List.cons_append, List.nil_append, List.append_nil, DataW.weightsEach, List.all_append, Bool.and_eq_true] at hw
  obtain ⟨q0, l0, rfl, k0, s0, b0⟩ := open_R Tryz.underlying28 (by kernel_rfl) (by kernel_rfl) ⟨rfl, rfl, rfl, rfl, rfl⟩ ftF (hval 0 28 v0 rfl rfl) h0 hw.1
  obtain ⟨n1, rfl, -, -, wf1⟩ := open_int Tryz.underlying3 (hval 1 3 v1 rfl rfl) h1
  have b1 := wf_int wf1
  refine (asks21_law q0 l0 n1 _ s0 b0).mono fun e W' ⟨he, hb⟩ => ?_
  subst he
  exact ⟨_, rfl, law_post hW' rfl rfl rfl Tryz.underlying4 laidOut readable hb⟩

theorem laid_met (os : Os) : laidMetH Tryz.prog Rows.dealAsksRow.laid ((World.laidAll Tryz.prog os Rows.dealAsksRow.laid).forCall (fun _ _ => 0) ⟨#[], #[.agg #[.string ByteArray.empty, .string ByteArray.empty, .string ByteArray.empty, .string ByteArray.empty, .slice none 0 0], .int .i64 0], []⟩).memory := by
  rw [MakeChecks.laidMetH_plain _ _ _ (by kernel_rfl)]
  exact laidMet_laidAll _ (by kernel_rfl) (by kernel_rfl)
theorem reads (os : Os) {H : Type} (enc : TypeId × Value → H) : ∃ places, DataW.whole enc Tryz.prog ((World.laidAll Tryz.prog os Rows.dealAsksRow.laid).forCall (fun _ _ => 0) ⟨#[], #[.agg #[.string ByteArray.empty, .string ByteArray.empty, .string ByteArray.empty, .string ByteArray.empty, .slice none 0 0], .int .i64 0], []⟩).memory Tryz.f7.params.toList Rows.dealAsksSpec.vars false (#[.agg #[.string ByteArray.empty, .string ByteArray.empty, .string ByteArray.empty, .string ByteArray.empty, .slice none 0 0], .int .i64 0] : Array Value).toList 8 = some ([.agg [.lit (.string []), .lit (.string []), .lit (.string []), .lit (.string []), .nil], .lit (.int .i64 0)], [], places) :=
  ⟨[], by kernel_rfl⟩

set_option maxRecDepth 100000 in
theorem lifted (os : Os) (started : os.Started) (H : Type) (enc : TypeId × Value → H) (F : Stop.Interp) :
    ReturnsInHanded {} Tryz.checked os 7 .any ((OpenSpec.ofChange Rows.dealAsksSpec).preRow enc Tryz.prog Tryz.f7 Rows.dealAsksRow.domain false Rows.dealAsksRow.laid) (((OpenSpec.ofChange Rows.dealAsksSpec).at F).post enc Tryz.prog Tryz.f7 false true false false) := by
  obtain ⟨places, hx⟩ := reads os enc
  refine returnsInHanded_of_row (C := Tryz.checked) (s := OpenSpec.ofChange Rows.dealAsksSpec) own started (by kernel_rfl) Tryz.func7
    (witness_row_at (enc := enc) (C := Tryz.checked) false (World.laidAll Tryz.prog os Rows.dealAsksRow.laid) #[.agg #[.string ByteArray.empty, .string ByteArray.empty, .string ByteArray.empty, .string ByteArray.empty, .slice none 0 0], .int .i64 0] (World.laidAll_os _ _ _) (by kernel_rfl) (by kernel_rfl) (by kernel_rfl)
      (OpenSpec.preRow_of_cond 8 hx (by kernel_rfl) (fun k hk => by cases hk) (by kernel_rfl) (laid_met os))) ?_
  intro W base args ds gs before hval hW _ _ hw _ _ _
  exact contract H enc W base args ds gs before hval hW hw

theorem said : Rows.DealAsksSaid :=
  OpenClaim.holds_of_cond 7 Tryz.f7 rfl rfl rfl rfl rfl rfl rfl ⟨rfl, rfl, rfl, rfl, rfl⟩ rfl rfl rfl rfl rfl (by kernel_rfl) Tryz.func7 (by kernel_rfl)
    (of_decide_eq_true (by kernel_rfl)) (by unfold Func.isWrapper; first | (rw [if_pos (by decide +kernel)]; kernel_rfl) | (rw [if_neg (by decide +kernel)]; exact ⟨rfl, rfl⟩))
    (fun os started H enc _ F => by rw [OpenClaim.pre_eq_preRow]; exact lifted os started H enc F)

theorem plain (f : FuncId) (fn : Func) (hf : Tryz.pinned.checked.prog.funcNamed Rows.dealAsksRow.func = some f) (hfn : Tryz.pinned.checked.prog.funcs[f]? = some fn) :
    false = Tryz.pinned.checked.prog.looks [] ∧ ∀ (j : Nat) t, fn.params[j]? = some t → Tryz.pinned.checked.prog.wantsStandIn t = false := by
  obtain rfl : f = 7 := Option.some.inj ((show Tryz.prog.funcNamed Rows.dealAsksRow.func = some 7 by kernel_rfl).symm.trans hf) |>.symm
  obtain rfl : fn = Tryz.f7 := (Option.some.inj (Tryz.func7.symm.trans hfn)).symm
  refine ⟨by kernel_rfl, fun j t ht => ?_⟩
  have hall : (Tryz.f7.params.toList.all fun u => !Tryz.prog.wantsStandIn u) = true := by kernel_rfl
  have hm : t ∈ Tryz.f7.params.toList := by simpa using Array.mem_of_getElem? ht
  exact (show Tryz.prog.wantsStandIn t = false by simpa using List.all_eq_true.1 hall t hm)
end Go.Proofs.YtahapblgmehngaaGreatDoor.cDealAsks
namespace Go.Proofs.YtahapblgmehngaaGreatDoor
/-- THE CARD. -/
theorem DealAsks_holds : Rows.DealAsksCardSaid :=
  Claim7.holds_tied_plain_at .later [] _ _ _ _ cDealAsks.said (fun _ h => by cases h) (by kernel_rfl) (fun _ h => by cases h) dealAsks_row_tie rfl ⟨rfl, rfl⟩ (by kernel_rfl) rfl cDealAsks.plain (by kernel_rfl)
end Go.Proofs.YtahapblgmehngaaGreatDoor


