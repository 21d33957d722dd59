/- Parts of the proof of DealDecides_holds: the texts Rf13 Rf13b Rf13c. -/
import Derived.Test.YtahapblgmehngaaGreatDoorE12
set_option linter.unusedSimpArgs false
set_option linter.unusedVariables false
set_option linter.unnecessarySimpa false
set_option maxRecDepth 100000
set_option maxHeartbeats 64000000
namespace Go.Dr
theorem isMark_iff (c : UInt8) : isMark c = true ↔ ((c.toNat : Int) = 33 ∨ (c.toNat : Int) = 35 ∨ (c.toNat : Int) = 36 ∨ (c.toNat : Int) = 37 ∨ (c.toNat : Int) = 38 ∨ (c.toNat : Int) = 39 ∨ (c.toNat : Int) = 42 ∨ (c.toNat : Int) = 43 ∨ (c.toNat : Int) = 45 ∨ (c.toNat : Int) = 46 ∨ (c.toNat : Int) = 94 ∨ (c.toNat : Int) = 95 ∨ (c.toNat : Int) = 96 ∨ (c.toNat : Int) = 124 ∨ (c.toNat : Int) = 126) := by
 simp only [isMark, tokMarks, List.contains_cons, List.contains_nil, Bool.or_false, Bool.or_eq_true, beq_iff_eq, ← UInt8.toNat_inj];simp only [UInt8.reduceToNat];omega
theorem mark_yes (c : UInt8) (h : (c.toNat : Int) = 33 ∨ (c.toNat : Int) = 35 ∨ (c.toNat : Int) = 36 ∨ (c.toNat : Int) = 37 ∨ (c.toNat : Int) = 38 ∨ (c.toNat : Int) = 39 ∨ (c.toNat : Int) = 42 ∨ (c.toNat : Int) = 43 ∨ (c.toNat : Int) = 45 ∨ (c.toNat : Int) = 46 ∨ (c.toNat : Int) = 94 ∨ (c.toNat : Int) = 95 ∨ (c.toNat : Int) = 96 ∨ (c.toNat : Int) = 124 ∨ (c.toNat : Int) = 126) : true = isMark c := ((isMark_iff c).2 h).symm
theorem mark_last (c : UInt8) (h : ¬ ((c.toNat : Int) = 33 ∨ (c.toNat : Int) = 35 ∨ (c.toNat : Int) = 36 ∨ (c.toNat : Int) = 37 ∨ (c.toNat : Int) = 38 ∨ (c.toNat : Int) = 39 ∨ (c.toNat : Int) = 42 ∨ (c.toNat : Int) = 43 ∨ (c.toNat : Int) = 45 ∨ (c.toNat : Int) = 46 ∨ (c.toNat : Int) = 94 ∨ (c.toNat : Int) = 95 ∨ (c.toNat : Int) = 96 ∨ (c.toNat : Int) = 124)) : ((c.toNat : Int) == 126) = isMark c := by
 rw [Bool.eq_iff_iff, isMark_iff, beq_iff_eq];omega
theorem mark_no (c : UInt8) (h : ¬ ((c.toNat : Int) = 33 ∨ (c.toNat : Int) = 35 ∨ (c.toNat : Int) = 36 ∨ (c.toNat : Int) = 37 ∨ (c.toNat : Int) = 38 ∨ (c.toNat : Int) = 39 ∨ (c.toNat : Int) = 42 ∨ (c.toNat : Int) = 43 ∨ (c.toNat : Int) = 45 ∨ (c.toNat : Int) = 46 ∨ (c.toNat : Int) = 94 ∨ (c.toNat : Int) = 95 ∨ (c.toNat : Int) = 96 ∨ (c.toNat : Int) = 124 ∨ (c.toNat : Int) = 126)) : false = isMark c := by
 symm;rw [Bool.eq_false_iff];intro e;exact h ((isMark_iff c).1 e)
theorem mark_all (c : UInt8) : (((c.toNat : Int) == 33) || ((c.toNat : Int) == 35) || ((c.toNat : Int) == 36) || ((c.toNat : Int) == 37) || ((c.toNat : Int) == 38) || ((c.toNat : Int) == 39) || ((c.toNat : Int) == 42) || ((c.toNat : Int) == 43) || ((c.toNat : Int) == 45) || ((c.toNat : Int) == 46) || ((c.toNat : Int) == 94) || ((c.toNat : Int) == 95) || ((c.toNat : Int) == 96) || ((c.toNat : Int) == 124) || ((c.toNat : Int) == 126)) = isMark c := by
 rw [Bool.eq_iff_iff, isMark_iff];simp only [Bool.or_eq_true, beq_iff_eq, or_assoc]
theorem tok_dig (c : UInt8) (h : isDig c = true) : true = tokB c := by
 simp only [isDig, decide_eq_true_iff] at h;unfold tokB
 have e : (decide (48 ≤ c.toNat ∧ c.toNat ≤ 57) || decide (97 ≤ c.toNat ∧ c.toNat ≤ 122) || decide (65 ≤ c.toNat ∧ c.toNat ≤ 90)) = true := by
  simp only [Bool.or_eq_true, decide_eq_true_iff];omega
 rw [e];rfl
theorem tok_mark (c : UInt8) (h : isDig c = false) (h2 : ¬ ((97 ≤ (c.toNat : Int) ∧ (c.toNat : Int) ≤ 122) ∨ (65 ≤ (c.toNat : Int) ∧ (c.toNat : Int) ≤ 90))) : tokB c = isMark c := by
 simp only [isDig, decide_eq_false_iff_not] at h;unfold tokB
 have e : (decide (48 ≤ c.toNat ∧ c.toNat ≤ 57) || decide (97 ≤ c.toNat ∧ c.toNat ≤ 122) || decide (65 ≤ c.toNat ∧ c.toNat ≤ 90)) = false := by
  simp only [Bool.or_eq_false_iff, decide_eq_false_iff_not];omega
 rw [e];rfl
theorem directive_bad {s : Bytes} (h : token (eqName s) = false) : directive s = ([], [], false) := by unfold directive;rw [h];rfl
theorem directive_plain {s : Bytes} (h : token (eqName s) = true) (h2 : Lib.hasPrefix (eqArg s) [34] = false) : directive s = (low (eqName s), eqArg s, true) := by unfold directive;rw [h, h2];rfl
theorem directive_quoted {s : Bytes} (h : token (eqName s) = true) (h2 : Lib.hasPrefix (eqArg s) [34] = true) (x : Bytes) (b : Bool) (hu : unq [] ((eqArg s).drop 1) = (x, b)) : directive s = if b = true then (low (eqName s), x, true) else ([], [], false) := by
 unfold directive unquote;rw [h, h2, hu];rfl
theorem eqName_at (l : Bytes) (k : Nat) (hk : k < l.length) (h : l[k] = 61) (hno : ∀ j (hj : j < l.length), j < k → l[j] ≠ 61) : eqName l = l.take k ∧ eqArg l = l.drop (k + 1) := by
 induction l generalizing k with
 | nil => simp at hk
 | cons c r ih =>
  match k with
  | 0 =>
   simp only [List.getElem_cons_zero] at h;subst h;exact ⟨by simp [eqName], by simp [eqArg]⟩
  | k + 1 =>
   have hc : c ≠ 61 := hno 0 (by simp) (by omega);obtain ⟨h1, h2⟩ := ih k (by simpa using hk) (by simpa using h) (fun j hj hjk => hno (j + 1) (by simpa using hj) (by omega));exact ⟨by simp [eqName, hc] at h1 ⊢;exact h1, by simp [eqArg, hc] at h2 ⊢;exact h2⟩
theorem eqName_none (l : Bytes) (hno : ∀ j (hj : j < l.length), l[j] ≠ 61) : eqName l = l ∧ eqArg l = [] := by
 induction l with
 | nil => exact ⟨rfl, rfl⟩
 | cons c r ih =>
  have hc : c ≠ 61 := hno 0 (by simp);obtain ⟨h1, h2⟩ := ih (fun j hj => hno (j + 1) (by simpa using hj));exact ⟨by simp [eqName, hc] at h1 ⊢;exact h1, by simp [eqArg, hc] at h2 ⊢;exact h2⟩
end Go.Dr
namespace Go.Proofs.YtahapblgmehngaaGreatDoor
open Go.RowKit Go.Dr
theorem refTokB_any (c : UInt8) (w : World) : Calls Tryz.prog 150 #[B8 c] w fun e w' => e = .returned (.bool (tokB c)) ∧ w = w' := by
 have D := Lib.hid (fun w => refDigit_any c w);have hc := c.toNat_lt;have HY := Lib.hid (fun h => tokB_yes c h);have HM := Lib.hid (fun h => mark_yes c h);have HL := Lib.hid (fun h => mark_last c h);have HF := Lib.hid (fun h => mark_no c h);have HAl := Lib.hid (mark_all c)
 cases hd : isDig c with
 | true =>
  have H := Lib.hid (tok_dig c hd);rw [hd] at D;clear hd;generalize tokB c = t at *;go_enter Tryz.func150, Tryz.ntmps150
  go_wp2_with fail;refine (D.out _).mono ?_;rintro e w1 ⟨rfl, rfl⟩;go_wp2;go_ret;exact ⟨ret_bool H.out, rfl⟩
 | false =>
  by_cases ha : 97 ≤ (c.toNat : Int) ∧ (c.toNat : Int) ≤ 122
  ·have H := Lib.hid (HY.out (.inr (.inl ha)))
   rw [hd] at D;clear hd;obtain ⟨ha1, ha2⟩ := ha;generalize tokB c = t at *;go_enter Tryz.func150, Tryz.ntmps150
   go_wp2_with fail;refine (D.out _).mono ?_;rintro e w1 ⟨rfl, rfl⟩;go_wp2;go_ret;exact ⟨ret_bool H.out, rfl⟩
  by_cases hb : 65 ≤ (c.toNat : Int) ∧ (c.toNat : Int) ≤ 90
  ·have H := Lib.hid (HY.out (.inr (.inr hb)))
   have g1 : decide ((97 : Int) ≤ (c.toNat : Int)) = false := (by rw [decide_eq_false_iff_not];omega);rw [hd] at D;clear hd ha;obtain ⟨hb1, hb2⟩ := hb;generalize tokB c = t at *;go_enter Tryz.func150, Tryz.ntmps150
   go_wp2_with fail;refine (D.out _).mono ?_;rintro e w1 ⟨rfl, rfl⟩;go_wp2;go_ret;exact ⟨ret_bool H.out, rfl⟩
  have H := Lib.hid (tok_mark c hd (by omega));rw [hd] at D;clear hd HY;generalize tokB c = t at *;generalize isMark c = im at *;go_enter Tryz.func150, Tryz.ntmps150
  go_wp2_with fail;refine (D.out _).mono ?_;rintro e w1 ⟨rfl, rfl⟩;go_wp2
  all_goals go_ret
  all_goals exact ⟨ret_bool (by rw [H.out];first | exact HAl.out | exact HL.out (by omega) | exact HM.out (by omega) | exact HF.out (by omega) | (exfalso;omega)), rfl⟩
theorem refToken_any (l : Bytes) (w : World) (hl : l.length ≤ maxLen) : Calls Tryz.prog 130 #[S l] w fun e w' => e = .returned (.bool (token l)) ∧ w = w' := by
 unfold maxLen at hl;go_enter Tryz.func130, Tryz.ntmps130
 go_wp2
 go_loop [3] (fun i => ∃ k : Nat, i = .int .i64 k ∧ k ≤ l.length ∧ Hid ((l.take k).all tokB = true)) (fun i => l.length - (intOf i).toNat)
 case atStart => exact ⟨0, rfl, Nat.zero_le _, rfl⟩
 case round =>
  obtain ⟨k, rfl, hk, HN⟩ := hrel;by_cases hlt : k < l.length
  ·by_cases hs : tokB l[k] = true
   ·have HY := Lib.hid (all_take_succ tokB l k hlt HN.out hs)
    go_wp2_with (go_at_call 150;refine (refTokB_any _ _).mono ?_;rintro e w' ⟨rfl, rfl⟩)
    go_round
    case rel => exact ⟨k + 1, by go_num, by omega, HY⟩
    case measure => simp [intOf];omega
   ·have hs' : tokB l[k] = false := by simpa using hs
    clear hs;have HY := Lib.hid (all_miss tokB l k hlt hs');go_wp2_with (go_at_call 150;refine (refTokB_any _ _).mono ?_;rintro e w' ⟨rfl, rfl⟩)
    go_ret;exact ⟨ret_bool (by rw [token, HY.out];rfl), rfl⟩
  ·have hk' : k = l.length := by omega
   subst hk'
   have HE : Hid (token l = decide (0 < l.length)) := by
    show _ = _
    have := HN.out
    rw [List.take_length] at this;rw [token, this, Bool.true_and, Bool.eq_iff_iff];simp [List.length_pos_iff]
   go_wp2;go_ret;exact ⟨ret_bool HE.out.symm, rfl⟩
open Go.RowKit Go.Dr
theorem hp34 (c : UInt8) (r : Bytes) : Lib.hasPrefix (c :: r) [34] = (c == 34) := by
 by_cases h : c = 34
 ·subst h;simp [Lib.hasPrefix]
 ·have h2 : ¬ (34 : UInt8) = c := fun e => h e.symm
  have e1 : ((34 : UInt8) == c) = false := (by simpa using h2);have e2 : (c == 34) = false := (by simpa using h);simp [Lib.hasPrefix, List.isPrefixOf, e1, e2]
theorem hp_at (A : Bytes) (h : 0 < A.length) : Lib.hasPrefix A [34] = (A[0] == 34) := by
 cases A with
 | nil => simp at h
 | cons c r => exact hp34 c r
theorem slice_to (l : Bytes) (k : Nat) (h : k ≤ l.length) : ∀ w' : World, (Instr.slice 9 (S l) none (some (.int .i64 (k : Int))) none).run Tryz.prog w' = .ok (S (l.take k)) w' := fun w' => by
 rw [run_slice_string_h w' 9 ⟨l.toArray⟩ Tryz.underlying9 .i64 (k : Int) (by omega) (by simp [ByteArray.size];omega), ba_extract, Int.toNat_natCast];rfl
theorem slice_to' (l : Bytes) (k : Nat) (h : k ≤ l.length) : ∀ w' : World, (Instr.sliceAt 9 (S l) none (some (.int .i64 (k : Int))) none).run Tryz.prog w' = .ok (S (l.take k)) w' := fun w' => by
 rw [run_sliceAt_string w' 9 _ _ _ _ Tryz.underlying9];exact slice_to l k h w'
theorem slice_from (l : Bytes) (k : Nat) (h : k + 1 ≤ l.length) : ∀ w' : World, (Instr.slice 9 (S l) (some (.int .i64 ((k : Int) + 1))) none none).run Tryz.prog w' = .ok (S (l.drop (k + 1))) w' := fun w' => by
 rw [run_slice_string_l w' 9 ⟨l.toArray⟩ Tryz.underlying9 .i64 ((k : Int) + 1) (by omega) (by simp [ByteArray.size];omega), ba_extract];rw [show ((k : Int) + 1).toNat = k + 1 by omega, List.take_of_length_le (by simp [ByteArray.size])]
theorem slice_from' (l : Bytes) (k : Nat) (h : k + 1 ≤ l.length) : ∀ w' : World, (Instr.sliceAt 9 (S l) (some (.int .i64 ((k : Int) + 1))) none none).run Tryz.prog w' = .ok (S (l.drop (k + 1))) w' := fun w' => by
 rw [run_sliceAt_string w' 9 _ _ _ _ Tryz.underlying9];exact slice_from l k h w'
theorem slice_one (l : Bytes) (k : Nat) (h : k + 1 ≤ l.length) (q : Bytes) (hq : q = [l[k]]) : ∀ w' : World, (Instr.slice 9 (S l) (some (.int .i64 (k : Int))) (some (.int .i64 ((k : Int) + 1))) none).run Tryz.prog w' = .ok (S q) w' := fun w' => by
 have hj : 0 ≤ (k : Int) + 1 ∧ (k : Int) + 1 ≤ ((⟨l.toArray⟩ : ByteArray).size : Int) := ⟨by omega, by simp [ByteArray.size];omega⟩;have hi : 0 ≤ (k : Int) ∧ (k : Int) ≤ (k : Int) + 1 := ⟨by omega, by omega⟩;rw [run_slice_string_if w' 9 ⟨l.toArray⟩ .i64 .i64 _ _ Tryz.underlying9, if_pos hj, if_pos hi, ba_extract, hq];rw [show ((k : Int) + 1).toNat = k + 1 by omega, Int.toNat_natCast, drop_take_one l k (by omega)]
theorem slice_one' (l : Bytes) (k : Nat) (h : k + 1 ≤ l.length) (q : Bytes) (hq : q = [l[k]]) : ∀ w' : World, (Instr.sliceAt 9 (S l) (some (.int .i64 (k : Int))) (some (.int .i64 ((k : Int) + 1))) none).run Tryz.prog w' = .ok (S q) w' := fun w' => by
 rw [run_sliceAt_string w' 9 _ _ _ _ Tryz.underlying9];exact slice_one l k h q hq w'
theorem add_big (a b c : Bytes) (hc : c = a ++ b) (hl : a.length + b.length ≤ 4398046511104) : ∀ w' : World, (Op.stringOp .add ⟨a.toArray⟩ ⟨b.toArray⟩).run Tryz.prog w' = .ok (S c) w' := fun w' => by
 have := run_string_add_sum (P := Tryz.prog) (w := w') ⟨a.toArray⟩ ⟨b.toArray⟩ (by simp [ByteArray.size];omega)
 rw [this, ba_append, hc]
theorem refDirective_any (l : Bytes) (w : World) (hl : l.length ≤ 1099511627776) : Calls Tryz.prog 111 #[S l] w fun e w' => e = .returned (.tuple #[S (directive l).1, S (directive l).2.1, .bool (directive l).2.2]) ∧ Below w.heap.size w w' := by
 have DB := Lib.hid (fun h => directive_bad (s := l) h);have DP := Lib.hid (fun h h2 => directive_plain (s := l) h h2);have DQ := Lib.hid (fun h h2 x b hu => directive_quoted (s := l) h h2 x b hu);have EA := Lib.hid (fun k hk h hno => eqName_at l k hk h hno);have EN := Lib.hid (fun hno => eqName_none l hno);generalize directive l = d at *;go_enter Tryz.func111, Tryz.ntmps111
 go_wp2
 go_loop [5] (fun i => ∃ k : Nat, i = .int .i64 k ∧ k ≤ l.length ∧ Hid (∀ j (hj : j < l.length), j < k → l[j] ≠ 61)) (fun i => l.length - (intOf i).toNat)
 case atStart => exact ⟨0, rfl, Nat.zero_le _, Lib.hid (fun j hj h => by omega)⟩
 case round =>
  obtain ⟨k, rfl, hk, HJ⟩ := hrel;by_cases hlt : k < l.length
  ·by_cases h61 : l[k] = 61
   ·have g61 : ((l[k].toNat : Int) != 61) = false := u8_eb h61
    have HE := Lib.hid (EA.out k hlt h61 HJ.out);clear h61;have s1 := slice_to l k hk;have s2 := slice_to' l k hk;have TK := Lib.hid (fun w => refToken_any (l.take k) w (by unfold maxLen;simp;omega));have LW := Lib.hid (fun w => refLower_any (l.take k) w (by simp;omega))
    cases ht : token (l.take k) with
    | false =>
     have HD := Lib.hid (DB.out (by rw [HE.out.1];exact ht));have HT := Lib.hid ht;clear ht;go_wp2_with fail;refine (TK.out _).mono ?_;rintro e w1 ⟨rfl, rfl⟩;rw [HT.out];go_wp2;go_ret3
     exact ⟨by rw [HD.out];rfl, Below.refl _ _⟩
    | true =>
     have HT := Lib.hid ht;clear ht;go_wp2_with fail;refine (TK.out _).mono ?_;rintro e w1 ⟨rfl, rfl⟩;rw [HT.out];go_wp2_with fail;refine (LW.out _).mono ?_;rintro e w1 ⟨rfl, hb1⟩;by_cases hend : k + 1 = l.length
     ·have ge : decide ((l.length : Int) - 1 ≤ (k : Int)) = true := by rw [decide_eq_true_iff];omega
      have HD := Lib.hid (DP.out (by rw [HE.out.1];exact HT.out) (by rw [HE.out.2, List.drop_eq_nil_of_le (by omega)];rfl));have HA : Hid (eqArg l = []) := (by show _ = _;rw [HE.out.2, List.drop_eq_nil_of_le (by omega)]);clear hend;go_wp2;go_ret3
      exact ⟨by rw [HD.out, HA.out, HE.out.1];rfl, hb1⟩
     ·have ge : decide ((l.length : Int) - 1 ≤ (k : Int)) = false := by rw [decide_eq_false_iff_not];omega
      have s3 := slice_from l k (by omega);have s4 := slice_from' l k (by omega);have hAl : (l.drop (k + 1)).length = l.length - (k + 1) := (by simp);have HE2 := Lib.hid HE.out.2;have HE1 := Lib.hid HE.out.1;generalize l.drop (k + 1) = A at *;have hA0 : 0 < A.length := (by omega);have hAb : A.length ≤ 1099511627776 := (by omega);have HP := Lib.hid (hp_at A hA0);clear hend hAl HE TK LW;by_cases h34 : A[0] = 34
      ·have g34 : ((A[0].toNat : Int) != 34) = false := u8_eb h34
       have HQ := Lib.hid (fun x b hu => DQ.out (by rw [HE1.out];exact HT.out) (by rw [HE2.out, HP.out, h34];rfl) x b (by rw [HE2.out];exact hu));clear h34;go_wp2;clear s1 s2 s3 s4 ge g61
       go_loop [8, 9] (fun o i => ∃ (j : Nat) (out : Bytes), i = .int .i64 j ∧ o = S out ∧ 1 ≤ j ∧ j ≤ A.length + 1 ∧ out.length ≤ j ∧ Hid (unq [] (A.drop 1) = unq out (A.drop j))) (fun _ i => A.length + 1 - (intOf i).toNat)
       case atStart => exact ⟨1, [], rfl, rfl, Nat.le_refl _, by omega, by simp, rfl⟩
       case round =>
        obtain ⟨j, out, rfl, rfl, hj1, hj, ho, HU⟩ := hrel;by_cases hjl : j < A.length
        ·by_cases c34 : A[j] = 34
         ·have g1 : ((A[j].toNat : Int) == 34) = true := u8_eq c34
          have HX := Lib.hid (unq_quote out A j hjl c34);clear c34;by_cases he : j + 1 = A.length
          ·have g2 : decide ((j : Int) < (A.length : Int) - 1) = false := by rw [decide_eq_false_iff_not];omega
           have HD := Lib.hid (HQ.out out true (by rw [HU.out, HX.out, decide_eq_true he]));clear he;go_wp2;go_ret3
           exact ⟨by rw [HD.out, HE1.out];rfl, hb1⟩
          ·have g2 : decide ((j : Int) < (A.length : Int) - 1) = true := by rw [decide_eq_true_iff];omega
           have HD := Lib.hid (HQ.out out false (by rw [HU.out, HX.out, decide_eq_false he]));clear he;go_wp2;go_ret3
           exact ⟨by rw [HD.out];rfl, hb1⟩
         have g1 : ((A[j].toNat : Int) == 34) = false := u8_ne c34;by_cases c92 : A[j] = 92
         ·have g2 : ((A[j].toNat : Int) == 92) = true := u8_eq c92
          by_cases he : j + 1 = A.length
          ·have HX := Lib.hid (unq_last out A j hjl c92 he)
           have HY := Lib.hid (unq_end out A (j + 1 + 1) (by omega));have g3 : decide ((j : Int) + 1 < (A.length : Int)) = false := (by rw [decide_eq_false_iff_not];omega);clear c34 c92;go_wp2;go_round
           case rel => exact ⟨j + 1 + 1, out, by go_num, rfl, by omega, by omega, by omega, by show _ = _;rw [HU.out, HX.out, HY.out]⟩
           case measure => simp [intOf];omega
          ·have hj2 : j + 1 < A.length := by omega
           have HX := Lib.hid (unq_two out A j hj2 c92);have g3 : decide ((j : Int) + 1 < (A.length : Int)) = true := (by rw [decide_eq_true_iff];omega);have hcast : ((j + 1 : Nat) : Int) = ((j : Int) + 1) := (by omega);have s5 := slice_one A (j + 1) (by omega) [A[j + 1]] rfl;have s6 := slice_one' A (j + 1) (by omega) [A[j + 1]] rfl;rw [hcast] at s5 s6;have s7 := add_big out [A[j + 1]] (out ++ [A[j + 1]]) rfl (by simp;omega);clear c34 c92 he hcast;go_wp2;go_round
           case rel => exact ⟨j + 1 + 1, out ++ [A[j + 1]], by go_num, rfl, by omega, by omega, by simp;omega, by show _ = _;rw [HU.out, HX.out]⟩
           case measure => simp [intOf];omega
         ·have g2 : ((A[j].toNat : Int) == 92) = false := u8_ne c92
          have HX := Lib.hid (unq_one out A j hjl c34 c92);have g3 : decide ((j : Int) < (A.length : Int)) = true := (by rw [decide_eq_true_iff];omega);have s5 := slice_one A j (by omega) [A[j]] rfl;have s6 := slice_one' A j (by omega) [A[j]] rfl;have s7 := add_big out [A[j]] (out ++ [A[j]]) rfl (by simp;omega);clear c34 c92;go_wp2;go_round
          case rel => exact ⟨j + 1, out ++ [A[j]], by go_num, rfl, by omega, by omega, by simp;omega, by show _ = _;rw [HU.out, HX.out]⟩
          case measure => simp [intOf];omega
        ·have HX := Lib.hid (unq_end out A j (by omega))
         have HD := Lib.hid (HQ.out [] false (by rw [HU.out, HX.out]));go_wp2;go_ret3
         exact ⟨by rw [HD.out];rfl, hb1⟩
      ·have g34 : ((A[0].toNat : Int) != 34) = true := u8_nb h34
       have HD := Lib.hid (DP.out (by rw [HE1.out];exact HT.out) (by rw [HE2.out, HP.out];simpa using h34));clear h34;go_wp2;go_ret3
       exact ⟨by rw [HD.out, HE1.out, HE2.out];rfl, hb1⟩
   ·have g61 : ((l[k].toNat : Int) != 61) = true := u8_nb h61
    have HJ2 : Hid (∀ j (hj : j < l.length), j < k + 1 → l[j] ≠ 61) := Lib.hid (fun j hj h => by
     by_cases e : j = k
     ·subst e;exact h61
     ·exact HJ.out j hj (by omega))
    clear h61;go_wp2;go_round
    case rel => exact ⟨k + 1, by go_num, by omega, HJ2⟩
    case measure => simp [intOf];omega
  ·have hkl : k = l.length := by omega
   subst hkl;have HE := Lib.hid (EN.out (fun j hj => HJ.out j hj hj));have s1 := slice_to l l.length (Nat.le_refl _);have s2 := slice_to' l l.length (Nat.le_refl _);rw [List.take_length] at s1 s2;have ge : decide ((l.length : Int) - 1 ≤ (l.length : Int)) = true := (by rw [decide_eq_true_iff];omega);have TK := Lib.hid (fun w => refToken_any l w (by unfold maxLen;omega));have LW := Lib.hid (fun w => refLower_any l w hl)
   cases ht : token l with
   | false =>
    have HD := Lib.hid (DB.out (by rw [HE.out.1];exact ht));have HT := Lib.hid ht;clear ht;go_wp2_with fail;refine (TK.out _).mono ?_;rintro e w1 ⟨rfl, rfl⟩;rw [HT.out];go_wp2;go_ret3
    exact ⟨by rw [HD.out];rfl, Below.refl _ _⟩
   | true =>
    have HT := Lib.hid ht;have HD := Lib.hid (DP.out (by rw [HE.out.1];exact ht) (by rw [HE.out.2];rfl));clear ht;go_wp2_with fail;refine (TK.out _).mono ?_;rintro e w1 ⟨rfl, rfl⟩;rw [HT.out];go_wp2_with fail;refine (LW.out _).mono ?_;rintro e w1 ⟨rfl, hb1⟩;go_wp2;go_ret3
    exact ⟨by rw [HD.out, HE.out.2, HE.out.1];rfl, hb1⟩
end Go.Proofs.YtahapblgmehngaaGreatDoor
namespace Go.Dr
open Go.RowKit
abbrev I8 (n : Nat) : Value := .int .i64 (n : Int)
def Is (B : Nat) (w : World) (v : Value) (l : List Nat) : Prop := Rd B w 1 v l.length (l.map I8)
theorem Is.own {base : Nat} {w : World} {e : TypeId} {v : Value} {l : List Nat} (h : w.ownsRow base e 1 v l.length (l.map I8)) : Is w.heap.size w v l := Rd.own h
theorem Is.form {B : Nat} {w : World} {v : Value} {l : List Nat} (h : Is B w v l) : ∃ a cap, v = .slice a l.length cap ∧ l.length ≤ 9223372036854775807 := by
 obtain ⟨a, cap, h1, h2, h3, h4, h5, h6⟩ := h;exact ⟨a, cap, h1, by unfold maxLen at h3;omega⟩
theorem Is.at {B : Nat} {w : World} {a : Option Addr} {n cap : Nat} {l : List Nat} (h : Is B w (.slice a n cap) l) (k : Nat) (hk : k < l.length) :
  ∃ b off, a = some ⟨b, off, none⟩ ∧ b < B ∧ w.cell? ⟨b, off + k, none⟩ = some (I8 l[k]) := by
 obtain ⟨a', cap', h1, h2, h3, h4, h5, h6⟩ := h;simp only [Value.slice.injEq] at h1;obtain ⟨rfl, rfl, rfl⟩ := h1;obtain ⟨b, off, rfl, hb, c0⟩ := h6 k _ (by rw [List.getElem?_map, List.getElem?_eq_getElem hk];rfl);exact ⟨b, off, rfl, hb, c0⟩
def RetIs (t : TypeId) (w : World) (l : List Nat) (e : Ending) (w' : World) : Prop := ∃ v, e = .returned v ∧ w'.ownsRow w.heap.size t 1 v l.length (l.map I8) ∧ Below w.heap.size w w'
theorem unq_len (n : Nat) : ∀ (out l : Bytes), l.length ≤ n → (unq out l).1.length ≤ out.length + l.length := by
 induction n with
 | zero =>
  intro out l h;have : l = [] := List.eq_nil_of_length_eq_zero (by omega)
  subst this;simp [unq]
 | succ n ih =>
  intro out l h
  match l with
  | [] => simp [unq]
  | [c] =>
   unfold unq
   split
   ·simp
   ·simp
  | c :: d :: r =>
   simp only [List.length_cons] at h;unfold unq
   split
   ·simp
   split
   ·have := ih (out ++ [d]) r (by omega)
    simp only [List.length_append, List.length_cons, List.length_nil] at this ⊢;omega
   ·have := ih (out ++ [c]) (d :: r) (by simp;omega)
    simp only [List.length_append, List.length_cons, List.length_nil] at this ⊢;omega
theorem directive_len (s : Bytes) : (directive s).2.1.length ≤ s.length := by
 have h1 : (eqArg s).length ≤ s.length := by
  unfold eqArg;rw [List.length_drop];have := (List.dropWhile_sublist (fun c => c != 61) (l := s)).length_le
  omega
 have h2 : (unquote (eqArg s)).1.length ≤ (eqArg s).length := by
  unfold unquote;have := unq_len _ [] ((eqArg s).drop 1) (Nat.le_refl _)
  rw [List.length_drop, List.length_nil] at this;omega
 unfold directive
 repeat' split
 all_goals (simp;try omega)
theorem dirNum_of (bare : Nat) (s dn da : Bytes) (db : Bool) (h : directive s = (dn, da, db)) : dirNum bare s = if da = [] then bare else numArg da := by unfold dirNum;rw [h]
theorem isDir_of (name s dn da : Bytes) (db : Bool) (h : directive s = (dn, da, db)) : isDir name s = (db && (dn == name)) := by unfold isDir;rw [h]
end Go.Dr
namespace Go.Proofs.YtahapblgmehngaaGreatDoor
open Go.RowKit Go.Dr
theorem refNumbers_any (all : List Bytes) (name : Bytes) (bare : Nat) (hbare : bare ≤ 1099511627776) (v : Value) (w : World) (h : Ss w.heap.size w v all) (hl : ssum all ≤ 1099511627776) :
  Calls Tryz.prog 75 #[v, S name, .int .i64 (bare : Nat)] w (RetIs 2 w (numsF all name bare)) := by
 obtain ⟨pa, ca, rfl, hm⟩ := h.form;have hll := ssum_length all;go_enter Tryz.func75, Tryz.ntmps75
 go_wp2
 go_loopw [7, 8] (fun o i wr => ∃ k : Nat, i = .int .i64 k ∧ k ≤ all.length ∧ wr.ownsRow w.heap.size 2 1 o (numsF (all.take k) name bare).length ((numsF (all.take k) name bare).map I8) ∧ Below w.heap.size w wr) (fun _ i _ => all.length - (intOf i).toNat)
 case atStart => exact ⟨0, rfl, Nat.zero_le _, World.ownsRow_nil _ _ _ _, Below.refl _ _⟩
 case round =>
  obtain ⟨k, rfl, hk, hown, hbel⟩ := hrel;obtain ⟨wo, rfl⟩ : ∃ wo : World, wo = wr := ⟨_, rfl⟩;by_cases hlt : k < all.length
  ·obtain ⟨b, off, rfl, hbb, c0⟩ := (h.below hbel).at k hlt
   have hs := ssum_mem (List.getElem_mem hlt);have HV := Lib.hid (numsF_snoc all name bare k hlt);have hnl := numsF_length (all.take k) name bare;rw [List.length_take] at hnl;obtain ⟨⟨dn, da, db⟩, hd⟩ : ∃ d, directive all[k] = d := ⟨_, rfl⟩;have C := refDirective_any all[k] wo (by omega);rw [hd] at C;have HI := Lib.hid (isDir_of name all[k] dn da db hd);have HN := Lib.hid (dirNum_of bare all[k] dn da db hd)
   have hdl : da.length ≤ maxLen := by
    have q : da.length ≤ all[k].length := (by have q := directive_len all[k];rw [hd] at q;exact q);unfold maxLen;omega
   clear hd;go_wp2_with fail;refine C.mono ?_;rintro e w1 ⟨rfl, hb1⟩;have hw1 := Bl.on hbel hbel.size hb1;have ho1 := own_below hown hb1;have hz1 := hw1.size;clear C
   cases db with
   | false =>
    have HV : Hid (numsF (all.take (k + 1)) name bare = numsF (all.take k) name bare) := (by show _ = _;rw [HV.out, HI.out, if_neg (by simp), List.append_nil]);go_wp2
    go_roundw
    case rel => exact ⟨k + 1, by go_num, by omega, by rw [HV.out];exact ho1, hw1⟩
    case measure => simp [intOf];omega
   | true =>
    by_cases hnm : dn = name
    ·have g1 : (!dn == name) = false := by simp [hnm]
     have g1' : (dn == name) = true := (by simp [hnm])
     have HV : Hid (numsF (all.take (k + 1)) name bare = numsF (all.take k) name bare ++ [dirNum bare all[k]]) := (by show _ = _;rw [HV.out, HI.out, if_pos (by simp [hnm])]);have CD := Lib.hid (fun w => refDecimal_any da w hdl);have hle := number_le 10 da;have HA : Hid (numArg da = if (number 10 da).2 = 11 then greatest else (number 10 da).1) := rfl;unfold greatest at hle;generalize number 10 da = nr at *;generalize dirNum bare all[k] = dx at *;clear hnm;go_wp2_with fail;refine (CD.out _).mono ?_;rintro e w2 ⟨rfl, hw2⟩;obtain rfl : w1 = w2 := hw2;by_cases h11 : nr.2 = 11
     ·have g3 : ((nr.2 : Int) == 11) = true := by rw [h11];rfl
      by_cases hda : da = []
      ·have g4 : (da == []) = true := by simp [hda]
       have HX : Hid (dx = bare) := (by show _ = _;rw [HN.out, if_pos hda]);clear h11 hda;go_wp2_with (at_builtin;refine wpList_app1 rfl _ _ 116 rfl w.heap.size (.int .i64 0) 8 Tryz.underlying116 (by kernel_rfl) rfl rfl _ _ _ rfl ho1 rfl (by omega) (by decide) hz1 ?_;intro a' c' w3 hown3 hb3 hz3)
       go_roundw
       case rel => exact ⟨k + 1, by go_num, by omega, by rw [HV.out, List.map_append, List.length_append, HX.out];exact hown3, hw1.trans hb3⟩
       case measure => simp [intOf];omega
      ·have g4 : (da == []) = false := by simp [hda]
       have HX : Hid (dx = 1099511627776) := (by show _ = _;rw [HN.out, if_neg hda, HA.out, if_pos h11];rfl);clear h11 hda;go_wp2_with (at_builtin;refine wpList_app1 rfl _ _ 116 rfl w.heap.size (.int .i64 0) 8 Tryz.underlying116 (by kernel_rfl) rfl rfl _ _ _ rfl ho1 rfl (by omega) (by decide) hz1 ?_;intro a' c' w3 hown3 hb3 hz3)
       go_roundw
       case rel => exact ⟨k + 1, by go_num, by omega, by rw [HV.out, List.map_append, List.length_append, HX.out];exact hown3, hw1.trans hb3⟩
       case measure => simp [intOf];omega
     ·have g3 : ((nr.2 : Int) == 11) = false := by rw [beq_eq_false_iff_ne];omega
      by_cases hda : da = []
      ·have g4 : (da == []) = true := by simp [hda]
       have HX : Hid (dx = bare) := (by show _ = _;rw [HN.out, if_pos hda]);clear h11 hda;go_wp2_with (at_builtin;refine wpList_app1 rfl _ _ 116 rfl w.heap.size (.int .i64 0) 8 Tryz.underlying116 (by kernel_rfl) rfl rfl _ _ _ rfl ho1 rfl (by omega) (by decide) hz1 ?_;intro a' c' w3 hown3 hb3 hz3)
       go_roundw
       case rel => exact ⟨k + 1, by go_num, by omega, by rw [HV.out, List.map_append, List.length_append, HX.out];exact hown3, hw1.trans hb3⟩
       case measure => simp [intOf];omega
      ·have g4 : (da == []) = false := by simp [hda]
       have HX : Hid (dx = nr.1) := (by show _ = _;rw [HN.out, if_neg hda, HA.out, if_neg h11]);clear h11 hda;go_wp2_with (at_builtin;refine wpList_app1 rfl _ _ 116 rfl w.heap.size (.int .i64 0) 8 Tryz.underlying116 (by kernel_rfl) rfl rfl _ _ _ rfl ho1 rfl (by omega) (by decide) hz1 ?_;intro a' c' w3 hown3 hb3 hz3)
       go_roundw
       case rel => exact ⟨k + 1, by go_num, by omega, by rw [HV.out, List.map_append, List.length_append, HX.out];exact hown3, hw1.trans hb3⟩
       case measure => simp [intOf];omega
    ·have g1 : (!dn == name) = true := by simp [hnm]
     have g1' : (dn == name) = false := (by simp [hnm])
     have HV : Hid (numsF (all.take (k + 1)) name bare = numsF (all.take k) name bare) := (by show _ = _;rw [HV.out, HI.out, if_neg (by simp [hnm]), List.append_nil]);clear hnm;go_wp2
     go_roundw
     case rel => exact ⟨k + 1, by go_num, by omega, by rw [HV.out];exact ho1, hw1⟩
     case measure => simp [intOf];omega
  ·have hkl : k = all.length := by omega
   subst hkl;rw [List.take_length] at hown;go_wp2;go_ret;exact ⟨_, rfl, hown, hbel⟩
theorem refEnd_any (l : List Nat) (g : Bool) (hb : ∀ x ∈ l, x ≤ 1099511627776) (v : Value) (w : World) (h : Is w.heap.size w v l) :
  Calls Tryz.prog 74 #[v, .bool g] w fun e w' => e = .returned (.int .i64 (endF l g)) ∧ w = w' := by
 obtain ⟨pa, ca, rfl, hm⟩ := h.form;have HB := Lib.hid hb;have HE := Lib.hid (endF_bound l g hb);clear hb;go_enter Tryz.func74, Tryz.ntmps74
 go_wp2
 go_loop [5, 6] (fun n i => ∃ k : Nat, i = .int .i64 k ∧ k ≤ l.length ∧ n = .int .i64 (endF (l.take k) g)) (fun _ i => l.length - (intOf i).toNat)
 case atStart => exact ⟨0, rfl, Nat.zero_le _, rfl⟩
 case round =>
  obtain ⟨k, rfl, hk, rfl⟩ := hrel;by_cases hlt : k < l.length
  ·obtain ⟨b, off, rfl, hbb, c0⟩ := h.at k hlt
   have hx := HB.out _ (List.getElem_mem hlt);have hn := HE.out k;have HV := Lib.hid (endF_snoc l g k hlt);obtain ⟨n', hn'⟩ : ∃ n', endF (l.take (k + 1)) g = n' := ⟨_, rfl⟩;rw [hn'] at HV;have HW := Lib.hid hn';clear hn';generalize endF (l.take k) g = n at *;generalize l[k] = x at *;by_cases h0 : n < 0
   ·have HX : Hid (n' = (x : Int)) := by show _ = _;rw [HV.out];unfold endStep;rw [if_pos (.inl h0)]
    clear HV;go_wp2;go_round
    case rel => exact ⟨k + 1, by go_num, by omega, by rw [HW.out, HX.out]⟩
    case measure => simp [intOf];omega
   ·by_cases h1 : n < (x : Int)
    ·have g1 : decide (n < (x : Int)) = true := by rw [decide_eq_true_iff];exact h1
     cases g with
     | true =>
      have HX : Hid (n' = (x : Int)) := (by show _ = _;rw [HV.out];unfold endStep;rw [if_pos (.inr g1.symm)]);clear HV;go_wp2;go_round
      case rel => exact ⟨k + 1, by go_num, by omega, by rw [HW.out, HX.out]⟩
      case measure => simp [intOf];omega
     | false =>
      have HX : Hid (n' = n) := (by show _ = _;rw [HV.out];unfold endStep;rw [if_neg (by simp [g1];omega)]);clear HV;go_wp2;go_round
      case rel => exact ⟨k + 1, by go_num, by omega, by rw [HW.out, HX.out]⟩
      case measure => simp [intOf];omega
    ·have g1 : decide (n < (x : Int)) = false := by rw [decide_eq_false_iff_not];exact h1
     cases g with
     | false =>
      have HX : Hid (n' = (x : Int)) := (by show _ = _;rw [HV.out];unfold endStep;rw [if_pos (.inr g1.symm)]);clear HV;go_wp2;go_round
      case rel => exact ⟨k + 1, by go_num, by omega, by rw [HW.out, HX.out]⟩
      case measure => simp [intOf];omega
     | true =>
      have HX : Hid (n' = n) := (by show _ = _;rw [HV.out];unfold endStep;rw [if_neg (by simp [g1];omega)]);clear HV;go_wp2;go_round
      case rel => exact ⟨k + 1, by go_num, by omega, by rw [HW.out, HX.out]⟩
      case measure => simp [intOf];omega
  ·have hkl : k = l.length := by omega
   subst hkl;rw [List.take_length];go_wp2;go_ret;exact ⟨rfl, rfl⟩
theorem refNamed_any (all : List Bytes) (name : Bytes) (v : Value) (w : World) (h : Ss w.heap.size w v all) (hl : ssum all ≤ 1099511627776) :
  Calls Tryz.prog 73 #[v, S name] w fun e w' => e = .returned (.bool (namedF all name)) ∧ Below w.heap.size w w' := by
 have C := Lib.hid (refNumbers_any all name 0 (by decide) v w h hl);have HN : Hid (namedF all name = decide (0 < (numsF all name 0).length)) := rfl;generalize namedF all name = nb at *;generalize numsF all name 0 = l at *;go_enter Tryz.func73, Tryz.ntmps73
 go_wp2_with fail;refine C.out.mono ?_;rintro e w1 ⟨v1, rfl, ho, hb⟩;obtain ⟨p, c, rfl, -⟩ := (Is.own ho).form;generalize l.length = n at *;go_wp2;go_ret;exact ⟨ret_bool (by rw [HN.out]), hb⟩
theorem ret_read {W : World} {tmps : Array Value} {b : Nat} {c : Ctl} {R : Ending → World → Prop} (hs : tmps[2]? = some (.pointer (some ⟨b, 0, none⟩))) (h : Blk W b 80 c.cells) (hR : R (.returned c.val) W) :
  bodyPost Tryz.prog Tryz.f42 R .ret { tmps := tmps, defers := [] } W := by
 obtain ⟨g0, g1, g2, g3, g4, g5, g6, g7, g8, g9, g10, g11⟩ := h.c12;exact bodyPost_ret (v := c.val) (by simp [results, Tryz.results42, go_sem, hs, g0, g1, g2, g3, g4, g5, g6, g7, g8, g9, g10, g11]) rfl hR
theorem refRead_any (l : List F) (v : Value) (w : World) (h : Fs w.heap.size w v l) (hl : fsum l ≤ 1099511627776) :
  Calls Tryz.prog 42 #[v] w fun e w' => e = .returned (readC l).val ∧ Below w.heap.size w w' := by
 have HR : Hid (readC l = readR (allOf l cacheControl)) := Lib.hid (readR_eq _).symm;have hsum := ssum_all l cacheControl;generalize readC l = C at *;have hZ0 := Blk.new w 80 #[.bool false, .bool false, .bool false, .bool false, .bool false, .bool false, .bool false, .bool false, .int .i64 0, .int .i64 0, .int .i64 0, .int .i64 0];have hb0 : Below w.heap.size w (w.alloc (.cells #[.bool false, .bool false, .bool false, .bool false, .bool false, .bool false, .bool false, .bool false, .int .i64 0, .int .i64 0, .int .i64 0, .int .i64 0] 80)) := (Below.refl _ _).alloc (Nat.le_refl _) _;have h0 := (h.below hb0).mono hb0.size;clear h;go_enter Tryz.func42, Tryz.ntmps42
 go_wp2_with fail;generalize w.alloc (.cells #[.bool false, .bool false, .bool false, .bool false, .bool false, .bool false, .bool false, .bool false, .int .i64 0, .int .i64 0, .int .i64 0, .int .i64 0] 80) = w0 at *;refine (refAll_any l cacheControl v w0 h0 hl (by decide)).mono ?_;rintro e v0 ⟨va, rfl, hva, hc0⟩;have ht0 := Ss.own hva;have hw0 := Bl.tr hb0 hc0;have hY0 := hZ0.on hc0;clear hva hc0 hb0 hZ0 h0;generalize allOf l cacheControl = all at *;obtain ⟨pa, ca, rfl, -⟩ := ht0.form;have hsum : ssum all ≤ 1099511627776 := (by omega);have NB := Lib.hid (fun name w h => refNamed_any all name (.slice pa all.length ca) w h hsum);have NU := Lib.hid (fun name (bare : Nat) hb w h => refNumbers_any all name bare hb (.slice pa all.length ca) w h hsum);have LE := Lib.hid (fun name (bare : Nat) (hb : bare ≤ 1099511627776) => numsF_le (all := all) (name := name) hb);go_wp2_with fail;refine (NB.out noStore v0 ht0).mono ?_;rintro e v1 ⟨rfl, hc1⟩;have ht1 := (ht0.below hc1).mono hc1.size;have hw1 := Bl.tr hw0 hc1;have hY1 := hY0.on hc1;clear ht0 hw0 hY0 hc1;obtain ⟨f0, hf0⟩ : ∃ f, namedF all noStore = f := ⟨_, rfl⟩;rw [hf0];have HF0 := Lib.hid hf0;clear hf0;go_wp2_with fail;refine (NB.out noCache v1 ht1).mono ?_;rintro e v2 ⟨rfl, hc2⟩;have ht2 := (ht1.below hc2).mono hc2.size;have hw2 := Bl.tr hw1 hc2;have hY2 := hY1.on hc2;clear ht1 hw1 hY1 hc2;obtain ⟨f1, hf1⟩ : ∃ f, namedF all noCache = f := ⟨_, rfl⟩;rw [hf1];have HF1 := Lib.hid hf1;clear hf1;go_wp2_with fail;refine (NB.out noTransform v2 ht2).mono ?_;rintro e v3 ⟨rfl, hc3⟩;have ht3 := (ht2.below hc3).mono hc3.size;have hw3 := Bl.tr hw2 hc3;have hY3 := hY2.on hc3;clear ht2 hw2 hY2 hc3;obtain ⟨f2, hf2⟩ : ∃ f, namedF all noTransform = f := ⟨_, rfl⟩;rw [hf2];have HF2 := Lib.hid hf2;clear hf2;go_wp2_with fail;refine (NB.out pubName v3 ht3).mono ?_;rintro e v4 ⟨rfl, hc4⟩;have ht4 := (ht3.below hc4).mono hc4.size;have hw4 := Bl.tr hw3 hc4;have hY4 := hY3.on hc4;clear ht3 hw3 hY3 hc4;obtain ⟨f3, hf3⟩ : ∃ f, namedF all pubName = f := ⟨_, rfl⟩;rw [hf3];have HF3 := Lib.hid hf3;clear hf3;go_wp2_with fail;refine (NB.out privName v4 ht4).mono ?_;rintro e v5 ⟨rfl, hc5⟩;have ht5 := (ht4.below hc5).mono hc5.size;have hw5 := Bl.tr hw4 hc5;have hY5 := hY4.on hc5;clear ht4 hw4 hY4 hc5;obtain ⟨f4, hf4⟩ : ∃ f, namedF all privName = f := ⟨_, rfl⟩;rw [hf4];have HF4 := Lib.hid hf4;clear hf4;go_wp2_with fail;refine (NB.out mustRe v5 ht5).mono ?_;rintro e v6 ⟨rfl, hc6⟩;have ht6 := (ht5.below hc6).mono hc6.size;have hw6 := Bl.tr hw5 hc6;have hY6 := hY5.on hc6;clear ht5 hw5 hY5 hc6;obtain ⟨f5, hf5⟩ : ∃ f, namedF all mustRe = f := ⟨_, rfl⟩;rw [hf5];have HF5 := Lib.hid hf5;clear hf5;go_wp2_with fail;refine (NB.out proxyRe v6 ht6).mono ?_;rintro e v7 ⟨rfl, hc7⟩;have ht7 := (ht6.below hc7).mono hc7.size;have hw7 := Bl.tr hw6 hc7;have hY7 := hY6.on hc7;clear ht6 hw6 hY6 hc7;obtain ⟨f6, hf6⟩ : ∃ f, namedF all proxyRe = f := ⟨_, rfl⟩;rw [hf6];have HF6 := Lib.hid hf6
 clear hf6;go_wp2_with fail;refine (NB.out onlyIf v7 ht7).mono ?_;rintro e v8 ⟨rfl, hc8⟩;have ht8 := (ht7.below hc8).mono hc8.size;have hw8 := Bl.tr hw7 hc8;have hY8 := hY7.on hc8;clear ht7 hw7 hY7 hc8;obtain ⟨f7, hf7⟩ : ∃ f, namedF all onlyIf = f := ⟨_, rfl⟩;rw [hf7];have HF7 := Lib.hid hf7;clear hf7;go_wp2_with fail;refine (NU.out maxAge 0 (by decide) v8 ht8).mono ?_;rintro e v9 ⟨u0, rfl, ho0, hc9⟩;have ht9 := (ht8.below hc9).mono hc9.size;have hw9 := Bl.tr hw8 hc9;have hY9 := hY8.on hc9;clear ht8 hw8 hY8 hc9;have hi0 := Is.own ho0;clear ho0;go_wp2_with fail;refine (refEnd_any _ false (LE.out maxAge 0 (by decide)) _ _ hi0).mono ?_;rintro e vq ⟨rfl, hvq⟩;obtain rfl := hvq;clear hi0;obtain ⟨e0, he0⟩ : ∃ x, endF (numsF all maxAge 0) false = x := ⟨_, rfl⟩;rw [he0];have HE0 := Lib.hid he0;clear he0;go_wp2_with fail;refine (NU.out sMaxage 0 (by decide) v9 ht9).mono ?_;rintro e v10 ⟨u1, rfl, ho1, hc10⟩;have ht10 := (ht9.below hc10).mono hc10.size;have hw10 := Bl.tr hw9 hc10;have hY10 := hY9.on hc10;clear ht9 hw9 hY9 hc10;have hi1 := Is.own ho1;clear ho1;go_wp2_with fail;refine (refEnd_any _ false (LE.out sMaxage 0 (by decide)) _ _ hi1).mono ?_;rintro e vq ⟨rfl, hvq⟩;obtain rfl := hvq;clear hi1;obtain ⟨e1, he1⟩ : ∃ x, endF (numsF all sMaxage 0) false = x := ⟨_, rfl⟩;rw [he1];have HE1 := Lib.hid he1;clear he1;go_wp2_with fail;refine (NU.out minFresh 0 (by decide) v10 ht10).mono ?_;rintro e v11 ⟨u2, rfl, ho2, hc11⟩;have ht11 := (ht10.below hc11).mono hc11.size;have hw11 := Bl.tr hw10 hc11;have hY11 := hY10.on hc11;clear ht10 hw10 hY10 hc11;have hi2 := Is.own ho2;clear ho2;go_wp2_with fail;refine (refEnd_any _ true (LE.out minFresh 0 (by decide)) _ _ hi2).mono ?_;rintro e vq ⟨rfl, hvq⟩;obtain rfl := hvq;clear hi2;obtain ⟨e2, he2⟩ : ∃ x, endF (numsF all minFresh 0) true = x := ⟨_, rfl⟩;rw [he2];have HE2 := Lib.hid he2;clear he2;go_wp2_with fail;refine (NU.out maxStale 1099511627776 (by decide) v11 ht11).mono ?_;rintro e v12 ⟨u3, rfl, ho3, hc12⟩;have ht12 := (ht11.below hc12).mono hc12.size;have hw12 := Bl.tr hw11 hc12;have hY12 := hY11.on hc12;clear ht11 hw11 hY11 hc12;have hi3 := Is.own ho3;clear ho3;go_wp2_with fail;refine (refEnd_any _ false (LE.out maxStale 1099511627776 (by decide)) _ _ hi3).mono ?_;rintro e vq ⟨rfl, hvq⟩;obtain rfl := hvq;clear hi3;obtain ⟨e3, he3⟩ : ∃ x, endF (numsF all maxStale 1099511627776) false = x := ⟨_, rfl⟩;rw [he3];have HE3 := Lib.hid he3;clear he3;obtain ⟨z0, z1, z2, z3, z4, z5, z6, z7, z8, z9, z10, z11⟩ := hY12.c12;have fz := hY12.free
 have HC : Hid (C = ⟨f0, f1, f2, f3, f4, f5, f6, f7, e0, e1, e2, e3⟩) := by
  show _ = _
  rw [HR.out];unfold readR;rw [HF0.out, HF1.out, HF2.out, HF3.out, HF4.out, HF5.out, HF6.out, HF7.out, HE0.out, HE1.out, HE2.out, HE3.out]
 go_wp2_with fail;have hR := hY12.set12 (.bool f0) (.bool f1) (.bool f2) (.bool f3) (.bool f4) (.bool f5) (.bool f6) (.bool f7) (.int .i64 e0) (.int .i64 e1) (.int .i64 e2) (.int .i64 e3);have hB := Bl.set12 hw12 (b := w.heap.size) (Nat.le_refl _) (.bool f0) (.bool f1) (.bool f2) (.bool f3) (.bool f4) (.bool f5) (.bool f6) (.bool f7) (.int .i64 e0) (.int .i64 e1) (.int .i64 e2) (.int .i64 e3);exact ret_read (c := ⟨f0, f1, f2, f3, f4, f5, f6, f7, e0, e1, e2, e3⟩) rfl hR ⟨by rw [HC.out], hB⟩
end Go.Proofs.YtahapblgmehngaaGreatDoor
