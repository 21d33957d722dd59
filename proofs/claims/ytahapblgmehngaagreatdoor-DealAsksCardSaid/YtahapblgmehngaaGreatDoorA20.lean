/- Parts of the proof of DealAsks_holds: the texts Rf13. -/
import Derived.Test.YtahapblgmehngaaGreatDoorA11
import Derived.Test.YtahapblgmehngaaGreatDoorA18
import Derived.Test.YtahapblgmehngaaGreatDoorA19
set_option linter.unusedSimpArgs false
set_option linter.unusedVariables false
set_option linter.unnecessarySimpa false
namespace Go.Dr
theorem isMark_iff (c : UInt8) : isMark c = true ↔ ((c.toNat : Int) = 33 ∨ (c.toNat : Int) = 35 ∨ (c.toNat : Int) = 36 ∨ (c.toNat : Int) = 37 ∨ (c.toNat : Int) = 38 ∨ (c.toNat : Int) = 39 ∨ (c.toNat : Int) = 42 ∨ (c.toNat : Int) = 43 ∨ (c.toNat : Int) = 45 ∨ (c.toNat : Int) = 46 ∨ (c.toNat : Int) = 94 ∨ (c.toNat : Int) = 95 ∨ (c.toNat : Int) = 96 ∨ (c.toNat : Int) = 124 ∨ (c.toNat : Int) = 126) := by
  simp only [isMark, tokMarks, List.contains_cons, List.contains_nil, Bool.or_false, Bool.or_eq_true, beq_iff_eq, ← UInt8.toNat_inj]
  simp only [UInt8.reduceToNat]
  omega
theorem mark_yes (c : UInt8) (h : (c.toNat : Int) = 33 ∨ (c.toNat : Int) = 35 ∨ (c.toNat : Int) = 36 ∨ (c.toNat : Int) = 37 ∨ (c.toNat : Int) = 38 ∨ (c.toNat : Int) = 39 ∨ (c.toNat : Int) = 42 ∨ (c.toNat : Int) = 43 ∨ (c.toNat : Int) = 45 ∨ (c.toNat : Int) = 46 ∨ (c.toNat : Int) = 94 ∨ (c.toNat : Int) = 95 ∨ (c.toNat : Int) = 96 ∨ (c.toNat : Int) = 124 ∨ (c.toNat : Int) = 126) : true = isMark c := ((isMark_iff c).2 h).symm
theorem mark_last (c : UInt8) (h : ¬ ((c.toNat : Int) = 33 ∨ (c.toNat : Int) = 35 ∨ (c.toNat : Int) = 36 ∨ (c.toNat : Int) = 37 ∨ (c.toNat : Int) = 38 ∨ (c.toNat : Int) = 39 ∨ (c.toNat : Int) = 42 ∨ (c.toNat : Int) = 43 ∨ (c.toNat : Int) = 45 ∨ (c.toNat : Int) = 46 ∨ (c.toNat : Int) = 94 ∨ (c.toNat : Int) = 95 ∨ (c.toNat : Int) = 96 ∨ (c.toNat : Int) = 124)) : ((c.toNat : Int) == 126) = isMark c := by
  rw [Bool.eq_iff_iff, isMark_iff, beq_iff_eq]; omega
theorem mark_no (c : UInt8) (h : ¬ ((c.toNat : Int) = 33 ∨ (c.toNat : Int) = 35 ∨ (c.toNat : Int) = 36 ∨ (c.toNat : Int) = 37 ∨ (c.toNat : Int) = 38 ∨ (c.toNat : Int) = 39 ∨ (c.toNat : Int) = 42 ∨ (c.toNat : Int) = 43 ∨ (c.toNat : Int) = 45 ∨ (c.toNat : Int) = 46 ∨ (c.toNat : Int) = 94 ∨ (c.toNat : Int) = 95 ∨ (c.toNat : Int) = 96 ∨ (c.toNat : Int) = 124 ∨ (c.toNat : Int) = 126)) : false = isMark c := by
  symm; rw [Bool.eq_false_iff]; intro e; exact h ((isMark_iff c).1 e)
theorem mark_all (c : UInt8) : (((c.toNat : Int) == 33) || ((c.toNat : Int) == 35) || ((c.toNat : Int) == 36) || ((c.toNat : Int) == 37) || ((c.toNat : Int) == 38) || ((c.toNat : Int) == 39) || ((c.toNat : Int) == 42) || ((c.toNat : Int) == 43) || ((c.toNat : Int) == 45) || ((c.toNat : Int) == 46) || ((c.toNat : Int) == 94) || ((c.toNat : Int) == 95) || ((c.toNat : Int) == 96) || ((c.toNat : Int) == 124) || ((c.toNat : Int) == 126)) = isMark c := by
  rw [Bool.eq_iff_iff, isMark_iff]
  simp only [Bool.or_eq_true, beq_iff_eq, or_assoc]
theorem tok_dig (c : UInt8) (h : isDig c = true) : true = tokB c := by
  simp only [isDig, decide_eq_true_iff] at h
  unfold tokB
  have e : (decide (48 ≤ c.toNat ∧ c.toNat ≤ 57) || decide (97 ≤ c.toNat ∧ c.toNat ≤ 122) || decide (65 ≤ c.toNat ∧ c.toNat ≤ 90)) = true := by
    simp only [Bool.or_eq_true, decide_eq_true_iff]; omega
  rw [e]; rfl
theorem tok_mark (c : UInt8) (h : isDig c = false) (h2 : ¬ ((97 ≤ (c.toNat : Int) ∧ (c.toNat : Int) ≤ 122) ∨ (65 ≤ (c.toNat : Int) ∧ (c.toNat : Int) ≤ 90))) : tokB c = isMark c := by
  simp only [isDig, decide_eq_false_iff_not] at h
  unfold tokB
  have e : (decide (48 ≤ c.toNat ∧ c.toNat ≤ 57) || decide (97 ≤ c.toNat ∧ c.toNat ≤ 122) || decide (65 ≤ c.toNat ∧ c.toNat ≤ 90)) = false := by
    simp only [Bool.or_eq_false_iff, decide_eq_false_iff_not]; omega
  rw [e]; rfl
theorem directive_bad {s : Bytes} (h : token (eqName s) = false) : directive s = ([], [], false) := by unfold directive; rw [h]; rfl
theorem directive_plain {s : Bytes} (h : token (eqName s) = true) (h2 : Lib.hasPrefix (eqArg s) [34] = false) : directive s = (low (eqName s), eqArg s, true) := by unfold directive; rw [h, h2]; rfl
theorem directive_quoted {s : Bytes} (h : token (eqName s) = true) (h2 : Lib.hasPrefix (eqArg s) [34] = true) (x : Bytes) (b : Bool) (hu : unq [] ((eqArg s).drop 1) = (x, b)) : directive s = if b = true then (low (eqName s), x, true) else ([], [], false) := by
  unfold directive unquote; rw [h, h2, hu]; rfl
theorem eqName_at (l : Bytes) (k : Nat) (hk : k < l.length) (h : l[k] = 61) (hno : ∀ j (hj : j < l.length), j < k → l[j] ≠ 61) : eqName l = l.take k ∧ eqArg l = l.drop (k + 1) := by
  induction l generalizing k with
  | nil => simp at hk
  | cons c r ih =>
    match k with
    | 0 =>
      simp only [List.getElem_cons_zero] at h
      subst h
      exact ⟨by simp [eqName], by simp [eqArg]⟩
    | k + 1 =>
      have hc : c ≠ 61 := hno 0 (by simp) (by omega)
      obtain ⟨h1, h2⟩ := ih k (by simpa using hk) (by simpa using h) (fun j hj hjk => hno (j + 1) (by simpa using hj) (by omega))
      exact ⟨by simp [eqName, hc] at h1 ⊢; exact h1, by simp [eqArg, hc] at h2 ⊢; exact h2⟩
theorem eqName_none (l : Bytes) (hno : ∀ j (hj : j < l.length), l[j] ≠ 61) : eqName l = l ∧ eqArg l = [] := by
  induction l with
  | nil => exact ⟨rfl, rfl⟩
  | cons c r ih =>
    have hc : c ≠ 61 := hno 0 (by simp)
    obtain ⟨h1, h2⟩ := ih (fun j hj => hno (j + 1) (by simpa using hj))
    exact ⟨by simp [eqName, hc] at h1 ⊢; exact h1, by simp [eqArg, hc] at h2 ⊢; exact h2⟩
end Go.Dr
namespace Go.Proofs.YtahapblgmehngaaGreatDoor
open Go.RowKit Go.Dr

set_option maxRecDepth 100000 in
set_option maxHeartbeats 4000000 in
theorem refTokB_any (c : UInt8) (w : World) : Calls Tryz.prog 150 #[B8 c] w fun e w' => e = .returned (.bool (tokB c)) ∧ w = w' := by
  have D := Lib.hid (fun w => refDigit_any c w)
  have hc := c.toNat_lt
  have HY := Lib.hid (fun h => tokB_yes c h)
  have HM := Lib.hid (fun h => mark_yes c h)
  have HL := Lib.hid (fun h => mark_last c h)
  have HF := Lib.hid (fun h => mark_no c h)
  have HAl := Lib.hid (mark_all c)
  cases hd : isDig c with
  | true =>
    have H := Lib.hid (tok_dig c hd)
    rw [hd] at D
    clear hd
    generalize tokB c = t at *
    go_enter Tryz.func150, Tryz.ntmps150
    go_wp2_with fail
    refine (D.out _).mono ?_
    rintro e w1 ⟨rfl, rfl⟩
    go_wp2
    go_ret
    exact ⟨ret_bool H.out, rfl⟩
  | false =>
    by_cases ha : 97 ≤ (c.toNat : Int) ∧ (c.toNat : Int) ≤ 122
    · have H := Lib.hid (HY.out (.inr (.inl ha)))
      rw [hd] at D
      clear hd
      obtain ⟨ha1, ha2⟩ := ha
      generalize tokB c = t at *
      go_enter Tryz.func150, Tryz.ntmps150
      go_wp2_with fail
      refine (D.out _).mono ?_
      rintro e w1 ⟨rfl, rfl⟩
      go_wp2
      go_ret
      exact ⟨ret_bool H.out, rfl⟩
    by_cases hb : 65 ≤ (c.toNat : Int) ∧ (c.toNat : Int) ≤ 90
    · have H := Lib.hid (HY.out (.inr (.inr hb)))
      have g1 : decide ((97 : Int) ≤ (c.toNat : Int)) = false := by rw [decide_eq_false_iff_not]; omega
      rw [hd] at D
      clear hd ha
      obtain ⟨hb1, hb2⟩ := hb
      generalize tokB c = t at *
      go_enter Tryz.func150, Tryz.ntmps150
      go_wp2_with fail
      refine (D.out _).mono ?_
      rintro e w1 ⟨rfl, rfl⟩
      go_wp2
      go_ret
      exact ⟨ret_bool H.out, rfl⟩
    have H := Lib.hid (tok_mark c hd (by omega))
    rw [hd] at D
    clear hd HY
    generalize tokB c = t at *
    generalize isMark c = im at *
    go_enter Tryz.func150, Tryz.ntmps150
    go_wp2_with fail
    refine (D.out _).mono ?_
    rintro e w1 ⟨rfl, rfl⟩
    go_wp2
    all_goals go_ret
    all_goals exact ⟨ret_bool (by rw [H.out]; first | exact HAl.out | exact HL.out (by omega) | exact HM.out (by omega) | exact HF.out (by omega) | (exfalso; omega)), rfl⟩

set_option maxHeartbeats 400000 in
theorem refToken_any (l : Bytes) (w : World) (hl : l.length ≤ maxLen) : Calls Tryz.prog 130 #[S l] w fun e w' => e = .returned (.bool (token l)) ∧ w = w' := by
  unfold maxLen at hl
  go_enter Tryz.func130, Tryz.ntmps130
  go_wp2
  go_loop [3] (fun i => ∃ k : Nat, i = .int .i64 k ∧ k ≤ l.length ∧ Hid ((l.take k).all tokB = true)) (fun i => l.length - (intOf i).toNat)
  case atStart => exact ⟨0, rfl, Nat.zero_le _, rfl⟩
  case round =>
    obtain ⟨k, rfl, hk, HN⟩ := hrel
    by_cases hlt : k < l.length
    · by_cases hs : tokB l[k] = true
      · have HY := Lib.hid (all_take_succ tokB l k hlt HN.out hs)
        go_wp2_with (go_at_call 150; refine (refTokB_any _ _).mono ?_; rintro e w' ⟨rfl, rfl⟩)
        go_round
        case rel => exact ⟨k + 1, by go_num, by omega, HY⟩
        case measure => simp [intOf]; omega
      · have hs' : tokB l[k] = false := by simpa using hs
        clear hs
        have HY := Lib.hid (all_miss tokB l k hlt hs')
        go_wp2_with (go_at_call 150; refine (refTokB_any _ _).mono ?_; rintro e w' ⟨rfl, rfl⟩)
        go_ret
        exact ⟨ret_bool (by rw [token, HY.out]; rfl), rfl⟩
    · have hk' : k = l.length := by omega
      subst hk'
      have HE : Hid (token l = decide (0 < l.length)) := by
        show _ = _
        have := HN.out
        rw [List.take_length] at this
        rw [token, this, Bool.true_and, Bool.eq_iff_iff]
        simp [List.length_pos_iff]
      go_wp2
      go_ret
      exact ⟨ret_bool HE.out.symm, rfl⟩
end Go.Proofs.YtahapblgmehngaaGreatDoor

