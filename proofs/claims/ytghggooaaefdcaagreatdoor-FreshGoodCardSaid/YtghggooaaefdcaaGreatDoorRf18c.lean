
/- The walks of layer 18's reference: which statuses are known, how long an answer is fresh. -/
import Derived.Test.YtghggooaaefdcaaGreatDoorRf18
import Derived.Test.YtghggooaaefdcaaGreatDoorRf13c
import Derived.Test.YtghggooaaefdcaaGreatDoorRen1
import Derived.Deep.DeepCutAuto
namespace Go.Dr
def knownN : List Nat := [200, 203, 204, 300, 301, 308, 404, 405, 410, 414, 501]
theorem known_hit (st : Int) (k : Nat) (hk : k < knownN.length) (h : (knownN[k] : Int) = st) : knownB st = true := by
  subst h
  have : k < 11 := hk
  match k, this with
  | 0, _ | 1, _ | 2, _ | 3, _ | 4, _ | 5, _ | 6, _ | 7, _ | 8, _ | 9, _ | 10, _ => rfl
theorem known_miss (st : Int) (h : ∀ j (hj : j < knownN.length), (knownN[j] : Int) ≠ st) : knownB st = false := by
  have h0 := h 0 (by decide); have h1 := h 1 (by decide); have h2 := h 2 (by decide); have h3 := h 3 (by decide)
  have h4 := h 4 (by decide); have h5 := h 5 (by decide); have h6 := h 6 (by decide); have h7 := h 7 (by decide)
  have h8 := h 8 (by decide); have h9 := h 9 (by decide); have h10 := h 10 (by decide)
  simp [knownN] at h0 h1 h2 h3 h4 h5 h6 h7 h8 h9 h10
  simp [knownB, knownL]
  omega
theorem made_date (l : List F) (came : Int) : (if dateI l dateN came < 0 then ((clampT came : Nat) : Int) else dateI l dateN came) = (madeF l came : Nat) := by
  unfold dateI madeF
  cases momB l dateN came
  · simp
  · simp only [if_true]
    rw [if_neg (by omega)]
theorem life_end (l : List F) (st came : Int) (h1 : ¬ 0 ≤ (readC l).sm) (h2 : ¬ 0 ≤ (readC l).ma) (h3 : hasN l expiresN = true) : (if dateI l expiresN came < (madeF l came : Nat) then 0 else dateI l expiresN came - (madeF l came : Nat)) = ((lifeF l st came : Nat) : Int) := by
  unfold lifeF dateI
  rw [if_neg h1, if_neg h2, if_pos h3]
  cases momB l expiresN came
  · simp; intro h; omega
  · simp only [if_true]
    split <;> omega
theorem life_last (l : List F) (st came : Int) (h1 : ¬ 0 ≤ (readC l).sm) (h2 : ¬ 0 ≤ (readC l).ma) (h3 : ¬ hasN l expiresN = true) : (if knownB st = false ∨ dateI l lastN came < 0 ∨ (madeF l came : Int) < dateI l lastN came then 0 else min 86400 (((madeF l came : Int) - dateI l lastN came) / 10)) = ((lifeF l st came : Nat) : Int) := by
  unfold lifeF dateI
  rw [if_neg h1, if_neg h2, if_neg h3]
  cases momB l lastN came
  · simp
  · cases knownB st
    · simp
    · simp only [if_true, true_and, Bool.true_eq_false, false_or]
      by_cases h : momV l lastN came ≤ madeF l came
      · rw [if_pos h, if_neg (by omega)]; omega
      · rw [if_neg h, if_pos (by omega)]; rfl
end Go.Dr
namespace Go.Proofs.YtghggooaaefdcaaGreatDoor
open Go.RowKit Go.Dr

set_option maxRecDepth 100000 in
set_option maxHeartbeats 1000000 in
theorem refKnown_any (st : Int) (w : World) : Calls Tryz.prog 56 #[.int .i64 st] w fun e w' => e = .returned (.bool (knownB st)) ∧ Below w.heap.size w w' := by
  have HH := Lib.hid (fun k hk h => known_hit st k hk h)
  have HM := Lib.hid (fun h => known_miss st h)
  generalize knownB st = kb at *
  obtain ⟨w0, ew⟩ : ∃ w0 : World, w0 = w.alloc (.cells (knownN.map I8).toArray 3) := ⟨_, rfl⟩
  have hI : Is w0.heap.size w0 (.slice (some ⟨w.heap.size, 0, none⟩) 11 11) knownN := by
    rw [ew]
    exact (Rd.lit w 3 (knownN.map I8).toArray 1 11 rfl (by decide)).mono (by simp)
  have hb0 : Below w.heap.size w w0 := by rw [ew]; exact (Below.refl _ _).alloc (Nat.le_refl _) _
  go_enter Tryz.func56, Tryz.ntmps56
  go_wp2
  change Code.wp _ _ _ _ (w.alloc (.cells (knownN.map I8).toArray 3))
  rw [← ew]
  clear ew
  go_loop [4] (fun i => ∃ k : Nat, i = .int .i64 k ∧ k ≤ 11 ∧ Hid (∀ j (hj : j < knownN.length), j < k → (knownN[j] : Int) ≠ st)) (fun i => 11 - (intOf i).toNat)
  case atStart => exact ⟨0, rfl, Nat.zero_le _, Lib.hid (fun j hj h => by omega)⟩
  case round =>
    obtain ⟨k, rfl, hk, HJ⟩ := hrel
    by_cases hlt : k < 11
    · have hk' : k < knownN.length := hlt
      obtain ⟨b, off, hbo, hbb, c0⟩ := hI.at k hk'
      simp only [Option.some.injEq, Addr.mk.injEq, and_true] at hbo
      obtain ⟨rfl, rfl⟩ := hbo
      rw [Nat.zero_add] at c0
      obtain ⟨x, hx⟩ : ∃ x, knownN[k]'hk' = x := ⟨_, rfl⟩
      rw [hx] at c0
      have HX := Lib.hid hx
      clear hx
      by_cases he : (x : Int) = st
      · have g : ((x : Int) == st) = true := by simp [he]
        have HR := Lib.hid (HH.out k hk' (by rw [HX.out]; exact he))
        clear he
        go_wp2
        go_ret
        exact ⟨ret_bool HR.out.symm, hb0⟩
      · have g : ((x : Int) == st) = false := by simp [he]
        have HJ2 : Hid (∀ j (hj : j < knownN.length), j < k + 1 → (knownN[j] : Int) ≠ st) := Lib.hid (fun j hj h => by
          by_cases e : j = k
          · subst e; rw [HX.out]; exact he
          · exact HJ.out j hj (by omega))
        clear he
        go_wp2
        go_round
        case rel => exact ⟨k + 1, by go_num, by omega, HJ2⟩
        case measure => simp [intOf]; omega
    · have HR := Lib.hid (HM.out (fun j hj => HJ.out j hj (by have : j < 11 := hj; omega)))
      go_wp2
      go_ret
      exact ⟨ret_bool HR.out.symm, hb0⟩

set_option maxRecDepth 100000 in
set_option maxHeartbeats 8000000 in
theorem refLifetime_any (q : En) (l : List F) (w : World) (h : Fs w.heap.size w q.vf l) (hl : fsum l ≤ 1099511627776) :
    Calls Tryz.prog 22 #[q.val] w fun e w' => e = .returned (.int .i64 (lifeF l q.st q.came : Nat)) ∧ Below w.heap.size w w' := by
  have hD1 := fun w h => refDate_any q l dateN w h hl (by decide)
  have hD2 := fun w h => refDate_any q l expiresN w h hl (by decide)
  have hD3 := fun w h => refDate_any q l lastN w h hl (by decide)
  obtain ⟨pf, cf, hfv, -⟩ := h.form
  obtain ⟨key, vp, st, vf, body, asked, came⟩ := q
  simp only at hfv h hD1 hD2 hD3 ⊢
  subst hfv
  simp only [En.val] at hD1 hD2 hD3 ⊢
  have hV1 := momV_le l dateN came hl
  have hV2 := momV_le l expiresN came hl
  have hV3 := momV_le l lastN came hl
  have kT := clampT_le came
  have hdb1 : -1 ≤ dateI l dateN came ∧ dateI l dateN came ≤ 1000000000000 := by unfold dateI; split <;> omega
  have hdb2 : -1 ≤ dateI l expiresN came ∧ dateI l expiresN came ≤ 1000000000000 := by unfold dateI; split <;> omega
  have hdb3 : -1 ≤ dateI l lastN came ∧ dateI l lastN came ≤ 1000000000000 := by unfold dateI; split <;> omega
  have hmd : madeF l came ≤ 1099511627776 := by unfold madeF; split <;> omega
  have HMd := Lib.hid (made_date l came)
  have HE := Lib.hid (life_end l st came)
  have HLa := Lib.hid (life_last l st came)
  have HS : Hid (0 ≤ (readC l).sm → (readC l).sm = ((lifeF l st came : Nat) : Int)) := Lib.hid (fun h => by unfold lifeF; rw [if_pos h]; omega)
  have HMa : Hid (¬ 0 ≤ (readC l).sm → 0 ≤ (readC l).ma → (readC l).ma = ((lifeF l st came : Nat) : Int)) := Lib.hid (fun h h' => by unfold lifeF; rw [if_neg h, if_pos h']; omega)
  have hC := readC_ok l
  have HR := Lib.hid (fun w v h => refRead_any l v w h hl)
  have HH := Lib.hid (fun w v h => refHas_any l expiresN v w h hl (by decide))
  have HHN : Hid (hasB l expiresN = hasN l expiresN) := rfl
  have HK := Lib.hid (fun w => refKnown_any st w)
  have HT := Lib.hid (fun w => refTime_any came w)
  have HD1 := Lib.hid hD1
  have HD2 := Lib.hid hD2
  have HD3 := Lib.hid hD3
  clear hD1 hD2 hD3 hV1 hV2 hV3
  generalize lifeF l st came = L at *
  generalize madeF l came = md at *
  generalize dateI l dateN came = d1 at *
  generalize dateI l expiresN came = d2 at *
  generalize dateI l lastN came = d3 at *
  generalize hasN l expiresN = hE at *
  generalize hasB l expiresN = hB at *
  obtain rfl : hB = hE := HHN.out
  generalize knownB st = kB at *
  generalize clampT came = cc at *
  generalize readC l = c at *
  have hQ := Blk.new w 27 #[S key, vp, .int .i64 st, .slice pf l.length cf, S body, .int .i64 asked, .int .i64 came]
  have hbx : Below w.heap.size w (w.alloc (.cells #[S key, vp, .int .i64 st, .slice pf l.length cf, S body, .int .i64 asked, .int .i64 came] 27)) := (Below.refl _ _).alloc (Nat.le_refl _) _
  have h1 := (h.below hbx).mono hbx.size
  go_enter Tryz.func22, Tryz.ntmps22
  go_wp2_with fail
  refine (HR.out _ _ h1).mono ?_
  rintro e w1 ⟨rfl, hb1⟩
  have hw1 := Bl.tr hbx hb1
  have hf1 := (h1.below hb1).mono hb1.size
  have hQ1 := hQ.on hb1
  clear hQ h1 hbx h hb1
  have hal : Below w1.heap.size w1 (w1.alloc (.cells c.cells 71)) := (Below.refl _ _).alloc (Nat.le_refl _) _
  have hX2 := Blk.new w1 71 c.cells
  have hw2 := Bl.tr hw1 hal
  have hf2 := (hf1.below hal).mono hal.size
  have hQ2 := hQ1.on hal
  have hlt := hQ1.lt
  (have z0 : w1.cell? ⟨w.heap.size, 0, none⟩ = some (S key) := hQ1.cell 0; have z1 : w1.cell? ⟨w.heap.size, 1, none⟩ = some (vp) := hQ1.cell 1; have z2 : w1.cell? ⟨w.heap.size, 2, none⟩ = some (.int .i64 st) := hQ1.cell 2; have z3 : w1.cell? ⟨w.heap.size, 3, none⟩ = some (.slice pf l.length cf) := hQ1.cell 3; have z4 : w1.cell? ⟨w.heap.size, 4, none⟩ = some (S body) := hQ1.cell 4; have z5 : w1.cell? ⟨w.heap.size, 5, none⟩ = some (.int .i64 asked) := hQ1.cell 5; have z6 : w1.cell? ⟨w.heap.size, 6, none⟩ = some (.int .i64 came) := hQ1.cell 6)
  go_wp2_with fail
  change Calls _ _ _ (w1.alloc (.cells c.cells 71)) _
  clear z0 z1 z2 z3 z4 z5 z6 hal hlt hQ1 hf1 hw1
  generalize w1.alloc (.cells c.cells 71) = w2 at *
  generalize w1.heap.size = bc at *
  refine (HD1.out w2 hf2).mono ?_
  rintro e w3 ⟨rfl, hb3⟩
  have hw3 := Bl.tr hw2 hb3
  have hf3 := (hf2.below hb3).mono hb3.size
  have hQ3 := hQ2.on hb3
  have hX3 := hX2.on hb3
  clear hw2 hf2 hQ2 hX2 hb3 HD1 HR
  have y6 : w3.cell? ⟨w.heap.size, 6, none⟩ = some (.int .i64 came) := hQ3.cell 6
  go_upto_if 14 with fail
  go_cut [4] (fun s wx => s = .int .i64 (md : Nat) ∧ w3 = wx)
  case first =>
    by_cases g1 : d1 < 0
    · have HX : Hid ((cc : Int) = (md : Nat)) := by show _ = _; rw [← HMd.out, if_pos g1]
      go_wp2_with fail
      refine (HT.out _).mono ?_
      rintro e w4 ⟨rfl, rfl⟩
      go_wp2
      go_meet
      exact ⟨congrArg (Value.int .i64) HX.out, rfl⟩
    · have HX : Hid (d1 = (md : Nat)) := by show _ = _; rw [← HMd.out, if_neg g1]
      go_wp2
      go_meet
      exact ⟨congrArg (Value.int .i64) HX.out, rfl⟩
  case rest =>
    obtain ⟨rfl, rfl⟩ := hcut
    clear y6 HMd HT hdb1
    have k8 : w3.cell? ⟨bc, 8, none⟩ = some (.int .i64 c.ma) := hX3.cell 8
    have k9 : w3.cell? ⟨bc, 9, none⟩ = some (.int .i64 c.sm) := hX3.cell 9
    by_cases g1 : 0 ≤ c.sm
    · have HX := Lib.hid (HS.out g1)
      go_wp2
      go_ret
      exact ⟨ret_int HX.out, hw3⟩
    by_cases g2 : 0 ≤ c.ma
    · have HX := Lib.hid (HMa.out (by omega) g2)
      go_wp2
      go_ret
      exact ⟨ret_int HX.out, hw3⟩
    have HEa := Lib.hid (HE.out (by omega) (by omega))
    have HLb := Lib.hid (HLa.out (by omega) (by omega))
    clear HS HMa HE HLa
    have y3 : w3.cell? ⟨w.heap.size, 3, none⟩ = some (.slice pf l.length cf) := hQ3.cell 3
    go_wp2_with fail
    refine (HH.out w3 _ hf3).mono ?_
    rintro e w4 ⟨rfl, hb4⟩
    have hw4 := Bl.tr hw3 hb4
    have hf4 := (hf3.below hb4).mono hb4.size
    have hQ4 := hQ3.on hb4
    clear hw3 hf3 hQ3 hb4 HH y3 k8 k9 hX3
    (have y0 : w4.cell? ⟨w.heap.size, 0, none⟩ = some (S key) := hQ4.cell 0; have y1 : w4.cell? ⟨w.heap.size, 1, none⟩ = some (vp) := hQ4.cell 1; have y2 : w4.cell? ⟨w.heap.size, 2, none⟩ = some (.int .i64 st) := hQ4.cell 2; have y3 : w4.cell? ⟨w.heap.size, 3, none⟩ = some (.slice pf l.length cf) := hQ4.cell 3; have y4 : w4.cell? ⟨w.heap.size, 4, none⟩ = some (S body) := hQ4.cell 4; have y5 : w4.cell? ⟨w.heap.size, 5, none⟩ = some (.int .i64 asked) := hQ4.cell 5; have y6 : w4.cell? ⟨w.heap.size, 6, none⟩ = some (.int .i64 came) := hQ4.cell 6)
    cases hB with
    | true =>
      have HEb : Hid ((if d2 < (md : Int) then 0 else d2 - (md : Int)) = ((L : Nat) : Int)) := Lib.hid (HEa.out (by first | rfl | trivial))
      clear HEa HLb
      go_wp2_with fail
      refine (HD2.out w4 hf4).mono ?_
      rintro e w5 ⟨rfl, hb5⟩
      have hw5 := Bl.tr hw4 hb5
      by_cases g3 : d2 < (md : Int)
      · have HX : Hid ((0 : Int) = (L : Nat)) := by show _ = _; rw [← HEb.out, if_pos g3]
        go_wp2
        go_ret
        exact ⟨ret_int HX.out, hw5⟩
      · have HX : Hid (d2 - (md : Int) = (L : Nat)) := by show _ = _; rw [← HEb.out, if_neg g3]
        go_wp2
        go_ret
        exact ⟨ret_int HX.out, hw5⟩
    | false =>
      have HLc : Hid ((if kB = false ∨ d3 < 0 ∨ (md : Int) < d3 then 0 else min 86400 (((md : Int) - d3) / 10)) = ((L : Nat) : Int)) := Lib.hid (HLb.out (by simp))
      clear HEa HLb
      go_wp2_with fail
      refine (HD3.out w4 hf4).mono ?_
      rintro e w5 ⟨rfl, hb5⟩
      have hw5 := Bl.tr hw4 hb5
      have hQ5 := hQ4.on hb5
      clear y0 y1 y2 y3 y4 y5 y6
      have y2 : w5.cell? ⟨w.heap.size, 2, none⟩ = some (.int .i64 st) := hQ5.cell 2
      go_wp2_with fail
      refine (HK.out w5).mono ?_
      rintro e w6 ⟨rfl, hb6⟩
      have hw6 := Bl.tr hw5 hb6
      cases kB with
      | false =>
        have HX : Hid ((0 : Int) = (L : Nat)) := by show _ = _; rw [← HLc.out, if_pos (.inl rfl)]
        go_wp2
        go_ret
        exact ⟨ret_int HX.out, hw6⟩
      | true =>
        by_cases g4 : d3 < 0
        · have HX : Hid ((0 : Int) = (L : Nat)) := by show _ = _; rw [← HLc.out, if_pos (.inr (.inl g4))]
          go_wp2
          go_ret
          exact ⟨ret_int HX.out, hw6⟩
        by_cases g5 : (md : Int) < d3
        · have HX : Hid ((0 : Int) = (L : Nat)) := by show _ = _; rw [← HLc.out, if_pos (.inr (.inr g5))]
          go_wp2
          go_ret
          exact ⟨ret_int HX.out, hw6⟩
        have HX : Hid (min 86400 (((md : Int) - d3) / 10) = (L : Nat)) := by
          show _ = _
          rw [← HLc.out, if_neg]
          rintro (e | e | e)
          · cases e
          · exact g4 e
          · exact g5 e
        have hq : ((md : Int) - d3).tdiv 10 = ((md : Int) - d3) / 10 := Int.tdiv_eq_ediv_of_nonneg (by omega)
        by_cases g6 : 86400 < ((md : Int) - d3) / 10
        · have HY : Hid ((86400 : Int) = (L : Nat)) := by show _ = _; rw [← HX.out]; omega
          go_wp2
          go_ret
          exact ⟨ret_int HY.out, hw6⟩
        · have HY : Hid (((md : Int) - d3) / 10 = (L : Nat)) := by show _ = _; rw [← HX.out]; omega
          go_wp2
          go_ret
          exact ⟨ret_int HY.out, hw6⟩
end Go.Proofs.YtghggooaaefdcaaGreatDoor
