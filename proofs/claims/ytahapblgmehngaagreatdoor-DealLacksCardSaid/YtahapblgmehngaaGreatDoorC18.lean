/- Parts of the proof of DealLacks_holds: the texts Rf13 Rf13b. -/
import Derived.Test.YtahapblgmehngaaGreatDoorC10
import Derived.Test.YtahapblgmehngaaGreatDoorC17
set_option linter.unusedSimpArgs false
set_option linter.unusedVariables false
set_option linter.unnecessarySimpa false
namespace Go.Dr
theorem isMark_iff (c : UInt8) : isMark c = true ↔ ((c.toNat : Int) = 33 ∨ (c.toNat : Int) = 35 ∨ (c.toNat : Int) = 36 ∨ (c.toNat : Int) = 37 ∨ (c.toNat : Int) = 38 ∨ (c.toNat : Int) = 39 ∨ (c.toNat : Int) = 42 ∨ (c.toNat : Int) = 43 ∨ (c.toNat : Int) = 45 ∨ (c.toNat : Int) = 46 ∨ (c.toNat : Int) = 94 ∨ (c.toNat : Int) = 95 ∨ (c.toNat : Int) = 96 ∨ (c.toNat : Int) = 124 ∨ (c.toNat : Int) = 126) := by
  simp only [isMark, tokMarks, List.contains_cons, List.contains_nil, Bool.or_false, Bool.or_eq_true, beq_iff_eq, ← UInt8.toNat_inj]
  simp only [UInt8.reduceToNat]
  omega
theorem mark_yes (c : UInt8) (h : (c.toNat : Int) = 33 ∨ (c.toNat : Int) = 35 ∨ (c.toNat : Int) = 36 ∨ (c.toNat : Int) = 37 ∨ (c.toNat : Int) = 38 ∨ (c.toNat : Int) = 39 ∨ (c.toNat : Int) = 42 ∨ (c.toNat : Int) = 43 ∨ (c.toNat : Int) = 45 ∨ (c.toNat : Int) = 46 ∨ (c.toNat : Int) = 94 ∨ (c.toNat : Int) = 95 ∨ (c.toNat : Int) = 96 ∨ (c.toNat : Int) = 124 ∨ (c.toNat : Int) = 126) : true = isMark c := ((isMark_iff c).2 h).symm
theorem mark_last (c : UInt8) (h : ¬ ((c.toNat : Int) = 33 ∨ (c.toNat : Int) = 35 ∨ (c.toNat : Int) = 36 ∨ (c.toNat : Int) = 37 ∨ (c.toNat : Int) = 38 ∨ (c.toNat : Int) = 39 ∨ (c.toNat : Int) = 42 ∨ (c.toNat : Int) = 43 ∨ (c.toNat : Int) = 45 ∨ (c.toNat : Int) = 46 ∨ (c.toNat : Int) = 94 ∨ (c.toNat : Int) = 95 ∨ (c.toNat : Int) = 96 ∨ (c.toNat : Int) = 124)) : ((c.toNat : Int) == 126) = isMark c := by
  rw [Bool.eq_iff_iff, isMark_iff, beq_iff_eq]; omega
theorem mark_no (c : UInt8) (h : ¬ ((c.toNat : Int) = 33 ∨ (c.toNat : Int) = 35 ∨ (c.toNat : Int) = 36 ∨ (c.toNat : Int) = 37 ∨ (c.toNat : Int) = 38 ∨ (c.toNat : Int) = 39 ∨ (c.toNat : Int) = 42 ∨ (c.toNat : Int) = 43 ∨ (c.toNat : Int) = 45 ∨ (c.toNat : Int) = 46 ∨ (c.toNat : Int) = 94 ∨ (c.toNat : Int) = 95 ∨ (c.toNat : Int) = 96 ∨ (c.toNat : Int) = 124 ∨ (c.toNat : Int) = 126)) : false = isMark c := by
  symm; rw [Bool.eq_false_iff]; intro e; exact h ((isMark_iff c).1 e)
theorem mark_all (c : UInt8) : (((c.toNat : Int) == 33) || ((c.toNat : Int) == 35) || ((c.toNat : Int) == 36) || ((c.toNat : Int) == 37) || ((c.toNat : Int) == 38) || ((c.toNat : Int) == 39) || ((c.toNat : Int) == 42) || ((c.toNat : Int) == 43) || ((c.toNat : Int) == 45) || ((c.toNat : Int) == 46) || ((c.toNat : Int) == 94) || ((c.toNat : Int) == 95) || ((c.toNat : Int) == 96) || ((c.toNat : Int) == 124) || ((c.toNat : Int) == 126)) = isMark c := by
  rw [Bool.eq_iff_iff, isMark_iff]
  simp only [Bool.or_eq_true, beq_iff_eq, or_assoc]
theorem tok_dig (c : UInt8) (h : isDig c = true) : true = tokB c := by
  simp only [isDig, decide_eq_true_iff] at h
  unfold tokB
  have e : (decide (48 ≤ c.toNat ∧ c.toNat ≤ 57) || decide (97 ≤ c.toNat ∧ c.toNat ≤ 122) || decide (65 ≤ c.toNat ∧ c.toNat ≤ 90)) = true := by
    simp only [Bool.or_eq_true, decide_eq_true_iff]; omega
  rw [e]; rfl
theorem tok_mark (c : UInt8) (h : isDig c = false) (h2 : ¬ ((97 ≤ (c.toNat : Int) ∧ (c.toNat : Int) ≤ 122) ∨ (65 ≤ (c.toNat : Int) ∧ (c.toNat : Int) ≤ 90))) : tokB c = isMark c := by
  simp only [isDig, decide_eq_false_iff_not] at h
  unfold tokB
  have e : (decide (48 ≤ c.toNat ∧ c.toNat ≤ 57) || decide (97 ≤ c.toNat ∧ c.toNat ≤ 122) || decide (65 ≤ c.toNat ∧ c.toNat ≤ 90)) = false := by
    simp only [Bool.or_eq_false_iff, decide_eq_false_iff_not]; omega
  rw [e]; rfl
theorem directive_bad {s : Bytes} (h : token (eqName s) = false) : directive s = ([], [], false) := by unfold directive; rw [h]; rfl
theorem directive_plain {s : Bytes} (h : token (eqName s) = true) (h2 : Lib.hasPrefix (eqArg s) [34] = false) : directive s = (low (eqName s), eqArg s, true) := by unfold directive; rw [h, h2]; rfl
theorem directive_quoted {s : Bytes} (h : token (eqName s) = true) (h2 : Lib.hasPrefix (eqArg s) [34] = true) (x : Bytes) (b : Bool) (hu : unq [] ((eqArg s).drop 1) = (x, b)) : directive s = if b = true then (low (eqName s), x, true) else ([], [], false) := by
  unfold directive unquote; rw [h, h2, hu]; rfl
theorem eqName_at (l : Bytes) (k : Nat) (hk : k < l.length) (h : l[k] = 61) (hno : ∀ j (hj : j < l.length), j < k → l[j] ≠ 61) : eqName l = l.take k ∧ eqArg l = l.drop (k + 1) := by
  induction l generalizing k with
  | nil => simp at hk
  | cons c r ih =>
    match k with
    | 0 =>
      simp only [List.getElem_cons_zero] at h
      subst h
      exact ⟨by simp [eqName], by simp [eqArg]⟩
    | k + 1 =>
      have hc : c ≠ 61 := hno 0 (by simp) (by omega)
      obtain ⟨h1, h2⟩ := ih k (by simpa using hk) (by simpa using h) (fun j hj hjk => hno (j + 1) (by simpa using hj) (by omega))
      exact ⟨by simp [eqName, hc] at h1 ⊢; exact h1, by simp [eqArg, hc] at h2 ⊢; exact h2⟩
theorem eqName_none (l : Bytes) (hno : ∀ j (hj : j < l.length), l[j] ≠ 61) : eqName l = l ∧ eqArg l = [] := by
  induction l with
  | nil => exact ⟨rfl, rfl⟩
  | cons c r ih =>
    have hc : c ≠ 61 := hno 0 (by simp)
    obtain ⟨h1, h2⟩ := ih (fun j hj => hno (j + 1) (by simpa using hj))
    exact ⟨by simp [eqName, hc] at h1 ⊢; exact h1, by simp [eqArg, hc] at h2 ⊢; exact h2⟩
end Go.Dr
namespace Go.Proofs.YtahapblgmehngaaGreatDoor
open Go.RowKit Go.Dr

set_option maxRecDepth 100000 in
set_option maxHeartbeats 4000000 in
theorem refTokB_any (c : UInt8) (w : World) : Calls Tryz.prog 150 #[B8 c] w fun e w' => e = .returned (.bool (tokB c)) ∧ w = w' := by
  have D := Lib.hid (fun w => refDigit_any c w)
  have hc := c.toNat_lt
  have HY := Lib.hid (fun h => tokB_yes c h)
  have HM := Lib.hid (fun h => mark_yes c h)
  have HL := Lib.hid (fun h => mark_last c h)
  have HF := Lib.hid (fun h => mark_no c h)
  have HAl := Lib.hid (mark_all c)
  cases hd : isDig c with
  | true =>
    have H := Lib.hid (tok_dig c hd)
    rw [hd] at D
    clear hd
    generalize tokB c = t at *
    go_enter Tryz.func150, Tryz.ntmps150
    go_wp2_with fail
    refine (D.out _).mono ?_
    rintro e w1 ⟨rfl, rfl⟩
    go_wp2
    go_ret
    exact ⟨ret_bool H.out, rfl⟩
  | false =>
    by_cases ha : 97 ≤ (c.toNat : Int) ∧ (c.toNat : Int) ≤ 122
    · have H := Lib.hid (HY.out (.inr (.inl ha)))
      rw [hd] at D
      clear hd
      obtain ⟨ha1, ha2⟩ := ha
      generalize tokB c = t at *
      go_enter Tryz.func150, Tryz.ntmps150
      go_wp2_with fail
      refine (D.out _).mono ?_
      rintro e w1 ⟨rfl, rfl⟩
      go_wp2
      go_ret
      exact ⟨ret_bool H.out, rfl⟩
    by_cases hb : 65 ≤ (c.toNat : Int) ∧ (c.toNat : Int) ≤ 90
    · have H := Lib.hid (HY.out (.inr (.inr hb)))
      have g1 : decide ((97 : Int) ≤ (c.toNat : Int)) = false := by rw [decide_eq_false_iff_not]; omega
      rw [hd] at D
      clear hd ha
      obtain ⟨hb1, hb2⟩ := hb
      generalize tokB c = t at *
      go_enter Tryz.func150, Tryz.ntmps150
      go_wp2_with fail
      refine (D.out _).mono ?_
      rintro e w1 ⟨rfl, rfl⟩
      go_wp2
      go_ret
      exact ⟨ret_bool H.out, rfl⟩
    have H := Lib.hid (tok_mark c hd (by omega))
    rw [hd] at D
    clear hd HY
    generalize tokB c = t at *
    generalize isMark c = im at *
    go_enter Tryz.func150, Tryz.ntmps150
    go_wp2_with fail
    refine (D.out _).mono ?_
    rintro e w1 ⟨rfl, rfl⟩
    go_wp2
    all_goals go_ret
    all_goals exact ⟨ret_bool (by rw [H.out]; first | exact HAl.out | exact HL.out (by omega) | exact HM.out (by omega) | exact HF.out (by omega) | (exfalso; omega)), rfl⟩

set_option maxHeartbeats 400000 in
theorem refToken_any (l : Bytes) (w : World) (hl : l.length ≤ maxLen) : Calls Tryz.prog 130 #[S l] w fun e w' => e = .returned (.bool (token l)) ∧ w = w' := by
  unfold maxLen at hl
  go_enter Tryz.func130, Tryz.ntmps130
  go_wp2
  go_loop [3] (fun i => ∃ k : Nat, i = .int .i64 k ∧ k ≤ l.length ∧ Hid ((l.take k).all tokB = true)) (fun i => l.length - (intOf i).toNat)
  case atStart => exact ⟨0, rfl, Nat.zero_le _, rfl⟩
  case round =>
    obtain ⟨k, rfl, hk, HN⟩ := hrel
    by_cases hlt : k < l.length
    · by_cases hs : tokB l[k] = true
      · have HY := Lib.hid (all_take_succ tokB l k hlt HN.out hs)
        go_wp2_with (go_at_call 150; refine (refTokB_any _ _).mono ?_; rintro e w' ⟨rfl, rfl⟩)
        go_round
        case rel => exact ⟨k + 1, by go_num, by omega, HY⟩
        case measure => simp [intOf]; omega
      · have hs' : tokB l[k] = false := by simpa using hs
        clear hs
        have HY := Lib.hid (all_miss tokB l k hlt hs')
        go_wp2_with (go_at_call 150; refine (refTokB_any _ _).mono ?_; rintro e w' ⟨rfl, rfl⟩)
        go_ret
        exact ⟨ret_bool (by rw [token, HY.out]; rfl), rfl⟩
    · have hk' : k = l.length := by omega
      subst hk'
      have HE : Hid (token l = decide (0 < l.length)) := by
        show _ = _
        have := HN.out
        rw [List.take_length] at this
        rw [token, this, Bool.true_and, Bool.eq_iff_iff]
        simp [List.length_pos_iff]
      go_wp2
      go_ret
      exact ⟨ret_bool HE.out.symm, rfl⟩
end Go.Proofs.YtahapblgmehngaaGreatDoor

namespace Go.Proofs.YtahapblgmehngaaGreatDoor
open Go.RowKit Go.Dr

theorem hp34 (c : UInt8) (r : Bytes) : Lib.hasPrefix (c :: r) [34] = (c == 34) := by
  by_cases h : c = 34
  · subst h; simp [Lib.hasPrefix]
  · have h2 : ¬ (34 : UInt8) = c := fun e => h e.symm
    have e1 : ((34 : UInt8) == c) = false := by simpa using h2
    have e2 : (c == 34) = false := by simpa using h
    simp [Lib.hasPrefix, List.isPrefixOf, e1, e2]
theorem hp_at (A : Bytes) (h : 0 < A.length) : Lib.hasPrefix A [34] = (A[0] == 34) := by
  cases A with
  | nil => simp at h
  | cons c r => exact hp34 c r
theorem slice_to (l : Bytes) (k : Nat) (h : k ≤ l.length) : ∀ w' : World, (Instr.slice 9 (S l) none (some (.int .i64 (k : Int))) none).run Tryz.prog w' = .ok (S (l.take k)) w' := fun w' => by
  rw [run_slice_string_h w' 9 ⟨l.toArray⟩ Tryz.underlying9 .i64 (k : Int) (by omega) (by simp [ByteArray.size]; omega), ba_extract, Int.toNat_natCast]
  rfl
theorem slice_to' (l : Bytes) (k : Nat) (h : k ≤ l.length) : ∀ w' : World, (Instr.sliceAt 9 (S l) none (some (.int .i64 (k : Int))) none).run Tryz.prog w' = .ok (S (l.take k)) w' := fun w' => by
  rw [run_sliceAt_string w' 9 _ _ _ _ Tryz.underlying9]
  exact slice_to l k h w'
theorem slice_from (l : Bytes) (k : Nat) (h : k + 1 ≤ l.length) : ∀ w' : World, (Instr.slice 9 (S l) (some (.int .i64 ((k : Int) + 1))) none none).run Tryz.prog w' = .ok (S (l.drop (k + 1))) w' := fun w' => by
  rw [run_slice_string_l w' 9 ⟨l.toArray⟩ Tryz.underlying9 .i64 ((k : Int) + 1) (by omega) (by simp [ByteArray.size]; omega), ba_extract]
  rw [show ((k : Int) + 1).toNat = k + 1 by omega, List.take_of_length_le (by simp [ByteArray.size])]
theorem slice_from' (l : Bytes) (k : Nat) (h : k + 1 ≤ l.length) : ∀ w' : World, (Instr.sliceAt 9 (S l) (some (.int .i64 ((k : Int) + 1))) none none).run Tryz.prog w' = .ok (S (l.drop (k + 1))) w' := fun w' => by
  rw [run_sliceAt_string w' 9 _ _ _ _ Tryz.underlying9]
  exact slice_from l k h w'
theorem slice_one (l : Bytes) (k : Nat) (h : k + 1 ≤ l.length) (q : Bytes) (hq : q = [l[k]]) : ∀ w' : World, (Instr.slice 9 (S l) (some (.int .i64 (k : Int))) (some (.int .i64 ((k : Int) + 1))) none).run Tryz.prog w' = .ok (S q) w' := fun w' => by
  have hj : 0 ≤ (k : Int) + 1 ∧ (k : Int) + 1 ≤ ((⟨l.toArray⟩ : ByteArray).size : Int) := ⟨by omega, by simp [ByteArray.size]; omega⟩
  have hi : 0 ≤ (k : Int) ∧ (k : Int) ≤ (k : Int) + 1 := ⟨by omega, by omega⟩
  rw [run_slice_string_if w' 9 ⟨l.toArray⟩ .i64 .i64 _ _ Tryz.underlying9, if_pos hj, if_pos hi, ba_extract, hq]
  rw [show ((k : Int) + 1).toNat = k + 1 by omega, Int.toNat_natCast, drop_take_one l k (by omega)]
theorem slice_one' (l : Bytes) (k : Nat) (h : k + 1 ≤ l.length) (q : Bytes) (hq : q = [l[k]]) : ∀ w' : World, (Instr.sliceAt 9 (S l) (some (.int .i64 (k : Int))) (some (.int .i64 ((k : Int) + 1))) none).run Tryz.prog w' = .ok (S q) w' := fun w' => by
  rw [run_sliceAt_string w' 9 _ _ _ _ Tryz.underlying9]
  exact slice_one l k h q hq w'
theorem add_big (a b c : Bytes) (hc : c = a ++ b) (hl : a.length + b.length ≤ 4398046511104) : ∀ w' : World, (Op.stringOp .add ⟨a.toArray⟩ ⟨b.toArray⟩).run Tryz.prog w' = .ok (S c) w' := fun w' => by
  have := run_string_add_sum (P := Tryz.prog) (w := w') ⟨a.toArray⟩ ⟨b.toArray⟩ (by simp [ByteArray.size]; omega)
  rw [this, ba_append, hc]

set_option maxRecDepth 100000 in
set_option maxHeartbeats 4000000 in
theorem refDirective_any (l : Bytes) (w : World) (hl : l.length ≤ 1099511627776) : Calls Tryz.prog 111 #[S l] w fun e w' => e = .returned (.tuple #[S (directive l).1, S (directive l).2.1, .bool (directive l).2.2]) ∧ Below w.heap.size w w' := by
  have DB := Lib.hid (fun h => directive_bad (s := l) h)
  have DP := Lib.hid (fun h h2 => directive_plain (s := l) h h2)
  have DQ := Lib.hid (fun h h2 x b hu => directive_quoted (s := l) h h2 x b hu)
  have EA := Lib.hid (fun k hk h hno => eqName_at l k hk h hno)
  have EN := Lib.hid (fun hno => eqName_none l hno)
  generalize directive l = d at *
  go_enter Tryz.func111, Tryz.ntmps111
  go_wp2
  go_loop [5] (fun i => ∃ k : Nat, i = .int .i64 k ∧ k ≤ l.length ∧ Hid (∀ j (hj : j < l.length), j < k → l[j] ≠ 61)) (fun i => l.length - (intOf i).toNat)
  case atStart => exact ⟨0, rfl, Nat.zero_le _, Lib.hid (fun j hj h => by omega)⟩
  case round =>
    obtain ⟨k, rfl, hk, HJ⟩ := hrel
    by_cases hlt : k < l.length
    · by_cases h61 : l[k] = 61
      · have g61 : ((l[k].toNat : Int) != 61) = false := u8_eb h61
        have HE := Lib.hid (EA.out k hlt h61 HJ.out)
        clear h61
        have s1 := slice_to l k hk
        have s2 := slice_to' l k hk
        have TK := Lib.hid (fun w => refToken_any (l.take k) w (by unfold maxLen; simp; omega))
        have LW := Lib.hid (fun w => refLower_any (l.take k) w (by simp; omega))
        cases ht : token (l.take k) with
        | false =>
          have HD := Lib.hid (DB.out (by rw [HE.out.1]; exact ht))
          have HT := Lib.hid ht
          clear ht
          go_wp2_with fail
          refine (TK.out _).mono ?_
          rintro e w1 ⟨rfl, rfl⟩
          rw [HT.out]
          go_wp2
          go_ret3
          exact ⟨by rw [HD.out]; rfl, Below.refl _ _⟩
        | true =>
          have HT := Lib.hid ht
          clear ht
          go_wp2_with fail
          refine (TK.out _).mono ?_
          rintro e w1 ⟨rfl, rfl⟩
          rw [HT.out]
          go_wp2_with fail
          refine (LW.out _).mono ?_
          rintro e w1 ⟨rfl, hb1⟩
          by_cases hend : k + 1 = l.length
          · have ge : decide ((l.length : Int) - 1 ≤ (k : Int)) = true := by rw [decide_eq_true_iff]; omega
            have HD := Lib.hid (DP.out (by rw [HE.out.1]; exact HT.out) (by rw [HE.out.2, List.drop_eq_nil_of_le (by omega)]; rfl))
            have HA : Hid (eqArg l = []) := by show _ = _; rw [HE.out.2, List.drop_eq_nil_of_le (by omega)]
            clear hend
            go_wp2
            go_ret3
            exact ⟨by rw [HD.out, HA.out, HE.out.1]; rfl, hb1⟩
          · have ge : decide ((l.length : Int) - 1 ≤ (k : Int)) = false := by rw [decide_eq_false_iff_not]; omega
            have s3 := slice_from l k (by omega)
            have s4 := slice_from' l k (by omega)
            have hAl : (l.drop (k + 1)).length = l.length - (k + 1) := by simp
            have HE2 := Lib.hid HE.out.2
            have HE1 := Lib.hid HE.out.1
            generalize l.drop (k + 1) = A at *
            have hA0 : 0 < A.length := by omega
            have hAb : A.length ≤ 1099511627776 := by omega
            have HP := Lib.hid (hp_at A hA0)
            clear hend hAl HE TK LW
            by_cases h34 : A[0] = 34
            · have g34 : ((A[0].toNat : Int) != 34) = false := u8_eb h34
              have HQ := Lib.hid (fun x b hu => DQ.out (by rw [HE1.out]; exact HT.out) (by rw [HE2.out, HP.out, h34]; rfl) x b (by rw [HE2.out]; exact hu))
              clear h34
              go_wp2
              clear s1 s2 s3 s4 ge g61
              go_loop [8, 9] (fun o i => ∃ (j : Nat) (out : Bytes), i = .int .i64 j ∧ o = S out ∧ 1 ≤ j ∧ j ≤ A.length + 1 ∧ out.length ≤ j ∧ Hid (unq [] (A.drop 1) = unq out (A.drop j))) (fun _ i => A.length + 1 - (intOf i).toNat)
              case atStart => exact ⟨1, [], rfl, rfl, Nat.le_refl _, by omega, by simp, rfl⟩
              case round =>
                obtain ⟨j, out, rfl, rfl, hj1, hj, ho, HU⟩ := hrel
                by_cases hjl : j < A.length
                · by_cases c34 : A[j] = 34
                  · have g1 : ((A[j].toNat : Int) == 34) = true := u8_eq c34
                    have HX := Lib.hid (unq_quote out A j hjl c34)
                    clear c34
                    by_cases he : j + 1 = A.length
                    · have g2 : decide ((j : Int) < (A.length : Int) - 1) = false := by rw [decide_eq_false_iff_not]; omega
                      have HD := Lib.hid (HQ.out out true (by rw [HU.out, HX.out, decide_eq_true he]))
                      clear he
                      go_wp2
                      go_ret3
                      exact ⟨by rw [HD.out, HE1.out]; rfl, hb1⟩
                    · have g2 : decide ((j : Int) < (A.length : Int) - 1) = true := by rw [decide_eq_true_iff]; omega
                      have HD := Lib.hid (HQ.out out false (by rw [HU.out, HX.out, decide_eq_false he]))
                      clear he
                      go_wp2
                      go_ret3
                      exact ⟨by rw [HD.out]; rfl, hb1⟩
                  have g1 : ((A[j].toNat : Int) == 34) = false := u8_ne c34
                  by_cases c92 : A[j] = 92
                  · have g2 : ((A[j].toNat : Int) == 92) = true := u8_eq c92
                    by_cases he : j + 1 = A.length
                    · have HX := Lib.hid (unq_last out A j hjl c92 he)
                      have HY := Lib.hid (unq_end out A (j + 1 + 1) (by omega))
                      have g3 : decide ((j : Int) + 1 < (A.length : Int)) = false := by rw [decide_eq_false_iff_not]; omega
                      clear c34 c92
                      go_wp2
                      go_round
                      case rel => exact ⟨j + 1 + 1, out, by go_num, rfl, by omega, by omega, by omega, by show _ = _; rw [HU.out, HX.out, HY.out]⟩
                      case measure => simp [intOf]; omega
                    · have hj2 : j + 1 < A.length := by omega
                      have HX := Lib.hid (unq_two out A j hj2 c92)
                      have g3 : decide ((j : Int) + 1 < (A.length : Int)) = true := by rw [decide_eq_true_iff]; omega
                      have hcast : ((j + 1 : Nat) : Int) = ((j : Int) + 1) := by omega
                      have s5 := slice_one A (j + 1) (by omega) [A[j + 1]] rfl
                      have s6 := slice_one' A (j + 1) (by omega) [A[j + 1]] rfl
                      rw [hcast] at s5 s6
                      have s7 := add_big out [A[j + 1]] (out ++ [A[j + 1]]) rfl (by simp; omega)
                      clear c34 c92 he hcast
                      go_wp2
                      go_round
                      case rel => exact ⟨j + 1 + 1, out ++ [A[j + 1]], by go_num, rfl, by omega, by omega, by simp; omega, by show _ = _; rw [HU.out, HX.out]⟩
                      case measure => simp [intOf]; omega
                  · have g2 : ((A[j].toNat : Int) == 92) = false := u8_ne c92
                    have HX := Lib.hid (unq_one out A j hjl c34 c92)
                    have g3 : decide ((j : Int) < (A.length : Int)) = true := by rw [decide_eq_true_iff]; omega
                    have s5 := slice_one A j (by omega) [A[j]] rfl
                    have s6 := slice_one' A j (by omega) [A[j]] rfl
                    have s7 := add_big out [A[j]] (out ++ [A[j]]) rfl (by simp; omega)
                    clear c34 c92
                    go_wp2
                    go_round
                    case rel => exact ⟨j + 1, out ++ [A[j]], by go_num, rfl, by omega, by omega, by simp; omega, by show _ = _; rw [HU.out, HX.out]⟩
                    case measure => simp [intOf]; omega
                · have HX := Lib.hid (unq_end out A j (by omega))
                  have HD := Lib.hid (HQ.out [] false (by rw [HU.out, HX.out]))
                  go_wp2
                  go_ret3
                  exact ⟨by rw [HD.out]; rfl, hb1⟩
            · have g34 : ((A[0].toNat : Int) != 34) = true := u8_nb h34
              have HD := Lib.hid (DP.out (by rw [HE1.out]; exact HT.out) (by rw [HE2.out, HP.out]; simpa using h34))
              clear h34
              go_wp2
              go_ret3
              exact ⟨by rw [HD.out, HE1.out, HE2.out]; rfl, hb1⟩
      · have g61 : ((l[k].toNat : Int) != 61) = true := u8_nb h61
        have HJ2 : Hid (∀ j (hj : j < l.length), j < k + 1 → l[j] ≠ 61) := Lib.hid (fun j hj h => by
          by_cases e : j = k
          · subst e; exact h61
          · exact HJ.out j hj (by omega))
        clear h61
        go_wp2
        go_round
        case rel => exact ⟨k + 1, by go_num, by omega, HJ2⟩
        case measure => simp [intOf]; omega
    · have hkl : k = l.length := by omega
      subst hkl
      have HE := Lib.hid (EN.out (fun j hj => HJ.out j hj hj))
      have s1 := slice_to l l.length (Nat.le_refl _)
      have s2 := slice_to' l l.length (Nat.le_refl _)
      rw [List.take_length] at s1 s2
      have ge : decide ((l.length : Int) - 1 ≤ (l.length : Int)) = true := by rw [decide_eq_true_iff]; omega
      have TK := Lib.hid (fun w => refToken_any l w (by unfold maxLen; omega))
      have LW := Lib.hid (fun w => refLower_any l w hl)
      cases ht : token l with
      | false =>
        have HD := Lib.hid (DB.out (by rw [HE.out.1]; exact ht))
        have HT := Lib.hid ht
        clear ht
        go_wp2_with fail
        refine (TK.out _).mono ?_
        rintro e w1 ⟨rfl, rfl⟩
        rw [HT.out]
        go_wp2
        go_ret3
        exact ⟨by rw [HD.out]; rfl, Below.refl _ _⟩
      | true =>
        have HT := Lib.hid ht
        have HD := Lib.hid (DP.out (by rw [HE.out.1]; exact ht) (by rw [HE.out.2]; rfl))
        clear ht
        go_wp2_with fail
        refine (TK.out _).mono ?_
        rintro e w1 ⟨rfl, rfl⟩
        rw [HT.out]
        go_wp2_with fail
        refine (LW.out _).mono ?_
        rintro e w1 ⟨rfl, hb1⟩
        go_wp2
        go_ret3
        exact ⟨by rw [HD.out, HE.out.2, HE.out.1]; rfl, hb1⟩
end Go.Proofs.YtahapblgmehngaaGreatDoor

