
/- The walks of layer 13: what directives say of keeping. -/
import Derived.Test.YtcicpboblppfiaaDoorCtl2
namespace Go.Proofs.YtcicpboblppfiaaDoor
open Go.RowKit Go.Dr

theorem eqName_length (l : Bytes) : (eqName l).length ≤ l.length := List.Sublist.length_le (List.takeWhile_sublist _)
theorem eqArg_length (l : Bytes) : (eqArg l).length ≤ l.length := by
  have := List.Sublist.length_le (List.dropWhile_sublist (fun c : UInt8 => c != 61) (l := l))
  simp only [eqArg, List.length_drop]
  omega

set_option maxHeartbeats 1000000 in
theorem Directive_any (l : Bytes) (w : World) (hl : l.length ≤ 1099511627776) :
    Calls Tryd.prog 53 #[S l] w fun e w' => e = .returned (.tuple #[S (directive l).1, S (directive l).2.1, .bool (directive l).2.2]) ∧ Below w.heap.size w w' := by
  have HD := Lib.hid (directive.eq_1 l)
  have l1 := eqName_length l
  have l2 := eqArg_length l
  go_enter Tryd.func53, Tryd.ntmps53
  go_wp2_with fail
  refine (Cut_any l w (by unfold maxLen; omega)).mono ?_
  rintro e w1 ⟨rfl, hb1⟩
  (generalize hgena : eqName l = a at *; have Ha := Lib.hid hgena; clear hgena)
  (generalize hgenb : eqArg l = b at *; have Hb := Lib.hid hgenb; clear hgenb)
  (generalize hgenc : decide (0 ≤ Lib.indexByte l 61) = c at *; have Hc := Lib.hid hgenc; clear hgenc)
  by_cases ht : token a = true
  · have HT := Lib.hid ht
    clear ht
    go_wp2_with fail
    refine (Token_any a _ (by unfold maxLen; omega)).mono ?_
    rintro e w' ⟨rfl, rfl⟩
    rw [HT.out]
    by_cases hp : Lib.hasPrefix b [34] = true
    · have HP := Lib.hid hp
      clear hp
      go_wp2_with fail
      refine (HasPrefix_at b [34] _).mono ?_
      rintro e w' ⟨rfl, rfl⟩
      rw [HP.out]
      go_wp2_with fail
      refine (unquote_any b _ (by omega)).mono ?_
      rintro e w2 ⟨rfl, hb2⟩
      by_cases hu : (unquote b).2 = true
      · have HU := Lib.hid hu
        clear hu
        rw [HU.out]
        (generalize hgenu : (unquote b).1 = u at *; have Hu := Lib.hid hgenu; clear hgenu)
        go_wp2_with fail
        refine (Lower_any a _ (by unfold maxLen; omega)).mono ?_
        rintro e w3 ⟨rfl, hb3⟩
        go_wp2
        go_ret3
        exact ⟨by rw [HD.out]; simp [HT.out, HP.out, HU.out], Bl.tr (Bl.tr hb1 hb2) hb3⟩
      · have hu' : (unquote b).2 = false := by simpa using hu
        have HU := Lib.hid hu'
        clear hu hu'
        rw [HU.out]
        (generalize hgenu : (unquote b).1 = u at *; have Hu := Lib.hid hgenu; clear hgenu)
        go_wp2
        go_ret3
        exact ⟨by rw [HD.out]; simp [HT.out, HP.out, HU.out], Bl.tr hb1 hb2⟩
    · have hp' : Lib.hasPrefix b [34] = false := by simpa using hp
      have HP := Lib.hid hp'
      clear hp hp'
      go_wp2_with fail
      refine (HasPrefix_at b [34] _).mono ?_
      rintro e w' ⟨rfl, rfl⟩
      rw [HP.out]
      go_wp2_with fail
      refine (Lower_any a _ (by unfold maxLen; omega)).mono ?_
      rintro e w3 ⟨rfl, hb3⟩
      go_wp2
      go_ret3
      exact ⟨by rw [HD.out]; simp [HT.out, HP.out], Bl.tr hb1 hb3⟩
  · have ht' : token a = false := by simpa using ht
    have HT := Lib.hid ht'
    clear ht ht'
    go_wp2_with fail
    refine (Token_any a _ (by unfold maxLen; omega)).mono ?_
    rintro e w' ⟨rfl, rfl⟩
    rw [HT.out]
    go_wp2
    go_ret3
    exact ⟨by rw [HD.out]; simp [HT.out], hb1⟩

set_option maxHeartbeats 400000 in
theorem numArg_any (a : Bytes) (w : World) (hl : a.length ≤ maxLen) :
    Calls Tryd.prog 58 #[S a] w fun e w' => e = .returned (.int .i64 (numArg a : Nat)) ∧ w = w' := by
  have HN := Lib.hid (numArg.eq_1 a)
  go_enter Tryd.func58, Tryd.ntmps58
  go_wp2_with fail
  refine (Decimal_any a w hl).mono ?_
  rintro e w' ⟨rfl, rfl⟩
  by_cases h : (number 10 a).2 = 11
  · (generalize hgenx : (number 10 a).1 = x at *; have Hx := Lib.hid hgenx; clear hgenx)
    rw [h] at *
    clear h
    go_wp2
    go_ret
    exact ⟨ret_int (by rw [HN.out]; rfl), rfl⟩
  · have h1 : (((number 10 a).2 : Int) == 11) = false := by rw [beq_eq_false_iff_ne]; omega
    have HH := Lib.hid h
    clear h
    (generalize hgenx : (number 10 a).1 = x at *; have Hx := Lib.hid hgenx; clear hgenx)
    (generalize hgeny : (number 10 a).2 = y at *; have Hy := Lib.hid hgeny; clear hgeny)
    go_wp2
    go_ret
    exact ⟨ret_int (by rw [HN.out, if_neg HH.out]), rfl⟩

set_option maxHeartbeats 400000 in
theorem least_any (a n : Int) (w : World) (h : -1 ≤ a) (h2 : a ≤ 1099511627776) (hn0 : 0 ≤ n) (hn : n ≤ 1099511627776) :
    Calls Tryd.prog 57 #[.int .i64 a, .int .i64 n] w fun e w' => e = .returned (.int .i64 (least a n)) ∧ w = w' := by
  have HL := Lib.hid (least.eq_1 a n)
  go_enter Tryd.func57, Tryd.ntmps57
  go_wp2
  all_goals
    go_ret
    exact ⟨ret_int (by (rw [HL.out]) <;> (try simp only [Int.min_def]) <;> (repeat' split) <;> omega), rfl⟩

set_option linter.unusedVariables false in
set_option maxHeartbeats 400000 in
theorem most_any (a n : Int) (w : World) (h : -1 ≤ a) (h2 : a ≤ 1099511627776) (hn0 : 0 ≤ n) (hn : n ≤ 1099511627776) :
    Calls Tryd.prog 54 #[.int .i64 a, .int .i64 n] w fun e w' => e = .returned (.int .i64 (most a n)) ∧ w = w' := by
  have HL := Lib.hid (most.eq_1 a n)
  go_enter Tryd.func54, Tryd.ntmps54
  go_wp2
  all_goals
    go_ret
    exact ⟨ret_int (by (rw [HL.out]) <;> (try simp only [Int.max_def]) <;> (repeat' split) <;> omega), rfl⟩

set_option maxHeartbeats 400000 in
theorem countLeast_any (a n : Int) (b k : Nat) (w : World) (h : -1 ≤ a) (h2 : a ≤ 1099511627776) (hn0 : 0 ≤ n) (hn : n ≤ 1099511627776) (hc : w.cell? ⟨b, k, none⟩ = some (.int .i64 a)) (hf : w.frozen? ⟨b, k, none⟩ = false) :
    Calls Tryd.prog 55 #[.pointer (some ⟨b, k, none⟩), .func (.func 57) #[] #[], .int .i64 n] w fun e w' => e = .returned (.tuple #[]) ∧ w' = w.setCell ⟨b, k, none⟩ (.int .i64 (least a n)) := by
  go_enter Tryd.func55, Tryd.ntmps55
  go_wp2_with (go_at_call 57; refine (least_any a n w h h2 hn0 hn).mono ?_; rintro e w' ⟨rfl, rfl⟩)
  go_end0
  exact ⟨rfl, rfl⟩

set_option maxHeartbeats 400000 in
theorem countMost_any (a n : Int) (b k : Nat) (w : World) (h : -1 ≤ a) (h2 : a ≤ 1099511627776) (hn0 : 0 ≤ n) (hn : n ≤ 1099511627776) (hc : w.cell? ⟨b, k, none⟩ = some (.int .i64 a)) (hf : w.frozen? ⟨b, k, none⟩ = false) :
    Calls Tryd.prog 55 #[.pointer (some ⟨b, k, none⟩), .func (.func 54) #[] #[], .int .i64 n] w fun e w' => e = .returned (.tuple #[]) ∧ w' = w.setCell ⟨b, k, none⟩ (.int .i64 (most a n)) := by
  go_enter Tryd.func55, Tryd.ntmps55
  go_wp2_with (go_at_call 54; refine (most_any a n w h h2 hn0 hn).mono ?_; rintro e w' ⟨rfl, rfl⟩)
  go_end0
  exact ⟨rfl, rfl⟩


end Go.Proofs.YtcicpboblppfiaaDoor
