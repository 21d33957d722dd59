
/- The walks of layer 1 that layer 13 calls: tokens and numbers. -/
import Derived.Test.YtcicpboblppfiaaDoorOct
import Derived.Test.YtcicpboblppfiaaDoorCtlS
import Derived.Lib.IndexAny
namespace Go.Proofs.YtcicpboblppfiaaDoor
open Go.RowKit Go.Dr

theorem IndexByte_at (s : Bytes) (c : UInt8) (w : World) : Calls Tryd.prog 99 #[S s, B8 c] w fun e w' => e = .returned (.int .i64 (Lib.indexByte s c)) ∧ w = w' := by
  have h := Tryd.strings_IndexByte ⟨s.toArray⟩ (c.toNat : Int) w
  rw [show ((c.toNat : Int).toNat.toUInt8) = c by simp] at h
  exact h.mono fun _ _ ⟨h1, h2⟩ => ⟨h1, h2.symm⟩

set_option maxHeartbeats 400000 in
theorem mark_any (c : UInt8) (w : World) : Calls Tryd.prog 89 #[B8 c] w fun e w' => e = .returned (.bool (isMark c)) ∧ w = w' := by
  have HC := Lib.hid (Lib.contains_iff_indexByte tokMarks c)
  go_enter Tryd.func89, Tryd.ntmps89
  go_wp2_with fail
  refine (IndexByte_at tokMarks c w).mono ?_
  rintro e w' ⟨rfl, rfl⟩
  go_wp2
  go_ret
  exact ⟨ret_bool HC.out.symm, rfl⟩

theorem tokB_yes (c : UInt8) (h : (48 ≤ (c.toNat : Int) ∧ (c.toNat : Int) ≤ 57) ∨ (97 ≤ (c.toNat : Int) ∧ (c.toNat : Int) ≤ 122) ∨ (65 ≤ (c.toNat : Int) ∧ (c.toNat : Int) ≤ 90)) : true = tokB c := by
  unfold tokB
  have e : (decide (48 ≤ c.toNat ∧ c.toNat ≤ 57) || decide (97 ≤ c.toNat ∧ c.toNat ≤ 122) || decide (65 ≤ c.toNat ∧ c.toNat ≤ 90)) = true := by
    simp only [Bool.or_eq_true, decide_eq_true_iff]; omega
  rw [e]; rfl
theorem tokB_no (c : UInt8) (h : ¬ ((48 ≤ (c.toNat : Int) ∧ (c.toNat : Int) ≤ 57) ∨ (97 ≤ (c.toNat : Int) ∧ (c.toNat : Int) ≤ 122) ∨ (65 ≤ (c.toNat : Int) ∧ (c.toNat : Int) ≤ 90))) : isMark c = tokB c := by
  unfold tokB
  have e : (decide (48 ≤ c.toNat ∧ c.toNat ≤ 57) || decide (97 ≤ c.toNat ∧ c.toNat ≤ 122) || decide (65 ≤ c.toNat ∧ c.toNat ≤ 90)) = false := by
    simp only [Bool.or_eq_false_iff, decide_eq_false_iff_not]; omega
  rw [e]; rfl

set_option maxHeartbeats 400000 in
theorem tokenB_any (c : UInt8) (w : World) : Calls Tryd.prog 78 #[B8 c] w fun e w' => e = .returned (.bool (tokB c)) ∧ w = w' := by
  go_enter Tryd.func78, Tryd.ntmps78
  go_wp2_with (go_at_call 89; refine (mark_any c w).mono ?_; rintro e w' ⟨rfl, rfl⟩)
  all_goals
    go_ret
    first
      | exact ⟨ret_bool (tokB_yes c (by omega)), rfl⟩
      | exact ⟨ret_bool (tokB_no c (by omega)), rfl⟩

theorem all_take_succ {α : Type} (p : α → Bool) (l : List α) (k : Nat) (h : k < l.length) (h1 : (l.take k).all p = true) (h2 : p l[k] = true) : (l.take (k + 1)).all p = true := by
  rw [take_snoc l k h, List.all_append, h1]
  simp [h2]
theorem all_miss {α : Type} (p : α → Bool) (l : List α) (k : Nat) (h : k < l.length) (h2 : p l[k] = false) : l.all p = false := by
  rw [List.all_eq_false]
  exact ⟨_, List.getElem_mem h, by simp [h2]⟩

set_option maxHeartbeats 400000 in
theorem Token_any (l : Bytes) (w : World) (hl : l.length ≤ maxLen) : Calls Tryd.prog 66 #[S l] w fun e w' => e = .returned (.bool (token l)) ∧ w = w' := by
  unfold maxLen at hl
  go_enter Tryd.func66, Tryd.ntmps66
  go_wp2
  go_loop [6] (fun i => ∃ k : Nat, i = .int .i64 k ∧ k ≤ l.length ∧ Hid ((l.take k).all tokB = true)) (fun i => l.length - (intOf i).toNat)
  case atStart => exact ⟨0, rfl, Nat.zero_le _, rfl⟩
  case round =>
    obtain ⟨k, rfl, hk, HN⟩ := hrel
    by_cases hlt : k < l.length
    · by_cases hs : tokB l[k] = true
      · have HY := Lib.hid (all_take_succ tokB l k hlt HN.out hs)
        go_wp2_with (go_at_call 78; refine (tokenB_any _ _).mono ?_; rintro e w' ⟨rfl, rfl⟩)
        go_round
        case rel => exact ⟨k + 1, by go_num, by omega, HY⟩
        case measure => simp [intOf]; omega
      · have hs' : tokB l[k] = false := by simpa using hs
        clear hs
        have HY := Lib.hid (all_miss tokB l k hlt hs')
        go_wp2_with (go_at_call 78; refine (tokenB_any _ _).mono ?_; rintro e w' ⟨rfl, rfl⟩)
        go_ret
        exact ⟨ret_bool (by rw [token, HY.out]; rfl), rfl⟩
    · have hk' : k = l.length := by omega
      subst hk'
      go_wp2
      go_ret
      exact ⟨ret_bool (by have := HN.out; rw [List.take_length] at this; rw [token, this]; simp), rfl⟩

theorem digitN_a (c : UInt8) (h : 48 ≤ (c.toNat : Int)) (h' : (c.toNat : Int) ≤ 57) : (c.toNat : Int) - 48 = (digitN c : Int) := by
  unfold digitN; rw [if_pos (by omega)]; omega
theorem digitN_b (c : UInt8) (h : 97 ≤ (c.toNat : Int)) (h' : (c.toNat : Int) ≤ 102) : (c.toNat : Int) - 97 + 10 = (digitN c : Int) := by
  unfold digitN; rw [if_neg (by omega), if_pos (by omega)]; omega
theorem digitN_c (c : UInt8) (h : 65 ≤ (c.toNat : Int)) (h' : (c.toNat : Int) ≤ 70) : (c.toNat : Int) - 65 + 10 = (digitN c : Int) := by
  unfold digitN; rw [if_neg (by omega), if_neg (by omega), if_pos (by omega)]; omega
theorem digitN_d (c : UInt8) (h : ¬ ((48 ≤ (c.toNat : Int) ∧ (c.toNat : Int) ≤ 57) ∨ (97 ≤ (c.toNat : Int) ∧ (c.toNat : Int) ≤ 102) ∨ (65 ≤ (c.toNat : Int) ∧ (c.toNat : Int) ≤ 70))) : 16 = (digitN c : Int) := by
  unfold digitN; rw [if_neg (by omega), if_neg (by omega), if_neg (by omega)]; rfl

set_option maxHeartbeats 400000 in
theorem digit_any (c : UInt8) (w : World) : Calls Tryd.prog 91 #[B8 c] w fun e w' => e = .returned (.int .i64 (digitN c : Nat)) ∧ w = w' := by
  have hc := UInt8.toNat_lt c
  go_enter Tryd.func91, Tryd.ntmps91
  go_wp2
  all_goals
    go_ret
    first
      | exact ⟨ret_int (digitN_a c (by omega) (by omega)), rfl⟩
      | exact ⟨ret_int (digitN_b c (by omega) (by omega)), rfl⟩
      | exact ⟨ret_int (digitN_c c (by omega) (by omega)), rfl⟩
      | exact ⟨ret_int (digitN_d c (by omega)), rfl⟩

theorem number_long {base : Nat} (hb : 0 < base) {l : Bytes} (h0 : l ≠ []) (hd : l.all (fun c => decide (digitN c < base)) = true) (k : Nat) (h : greatest < numTo base (l.take k)) : number base l = (0, 11) := by
  have h1 := numTo_take base hb l k
  unfold number
  rw [if_neg (by simp [h0, hd]), if_neg (by omega)]
theorem number_form {base : Nat} {l : Bytes} (hd : l.all (fun c => decide (digitN c < base)) = false) : number base l = (0, 10) := by
  unfold number
  rw [if_pos (by simp [hd])]
theorem number_ok {base : Nat} {l : Bytes} (h0 : l ≠ []) (hd : l.all (fun c => decide (digitN c < base)) = true) (h : numTo base l ≤ greatest) : number base l = (numTo base l, 0) := by
  unfold number
  rw [if_neg (by simp [h0, hd]), if_pos h]
theorem ret_num {a b : Nat × Nat} (h : a = b) : Ending.returned (.tuple #[.int .i64 (a.1 : Nat), .int .i64 (a.2 : Nat)]) = Ending.returned (.tuple #[.int .i64 (b.1 : Nat), .int .i64 (b.2 : Nat)]) := by rw [h]
theorem greatest_val : greatest = 1099511627776 := rfl

set_option maxHeartbeats 1000000 in
theorem number_any (base : Nat) (l : Bytes) (w : World) (hb : 0 < base) (hb2 : base ≤ 16) (hl : l.length ≤ maxLen) :
    Calls Tryd.prog 83 #[S l, .int .i64 base] w fun e w' => e = .returned (.tuple #[.int .i64 ((number base l).1 : Nat), .int .i64 ((number base l).2 : Nat)]) ∧ w = w' := by
  unfold maxLen at hl
  by_cases h0 : l = []
  · subst h0
    go_enter Tryd.func83, Tryd.ntmps83
    go_wp2
    go_ret2
    exact ⟨rfl, rfl⟩
  have hn : l.isEmpty = false := by simpa using h0
  have H0 := Lib.hid h0
  clear h0
  go_enter Tryd.func83, Tryd.ntmps83
  go_wp2
  go_loop [13] (fun i => ∃ k : Nat, i = .int .i64 k ∧ k ≤ l.length ∧ Hid ((l.take k).all (fun c => decide (digitN c < base)) = true)) (fun i => l.length - (intOf i).toNat)
  case atStart => exact ⟨0, rfl, Nat.zero_le _, rfl⟩
  case round =>
    obtain ⟨k, rfl, hk, HN⟩ := hrel
    by_cases hlt : k < l.length
    · by_cases hs : digitN l[k] < base
      · have HY := Lib.hid (all_take_succ (fun c => decide (digitN c < base)) l k hlt HN.out (by simpa using hs))
        have hs' : decide (base ≤ digitN l[k]) = false := by rw [decide_eq_false_iff_not]; omega
        clear hs
        go_wp2_with (go_at_call 91; refine (digit_any _ _).mono ?_; rintro e w' ⟨rfl, rfl⟩)
        go_round
        case rel => exact ⟨k + 1, by go_num, by omega, HY⟩
        case measure => simp [intOf]; omega
      · have hs' : decide (base ≤ digitN l[k]) = true := by rw [decide_eq_true_iff]; omega
        have HY := Lib.hid (number_form (all_miss (fun c => decide (digitN c < base)) l k hlt (by simpa using hs)))
        clear hs
        go_wp2_with (go_at_call 91; refine (digit_any _ _).mono ?_; rintro e w' ⟨rfl, rfl⟩)
        go_ret2
        exact ⟨by rw [HY.out]; rfl, rfl⟩
    · have hk' : k = l.length := by omega
      subst hk'
      rw [List.take_length] at HN
      clear hlt hk
      go_wp2
      go_loop [7, 25] (fun n i => ∃ k : Nat, i = .int .i64 k ∧ k ≤ l.length ∧ n = .int .i64 (numTo base (l.take k)) ∧ numTo base (l.take k) ≤ 1099511627776) (fun _ i => l.length - (intOf i).toNat)
      case atStart => exact ⟨0, rfl, Nat.zero_le _, rfl, Nat.zero_le _⟩
      case round =>
        obtain ⟨k, rfl, hk, rfl, hle⟩ := hrel
        by_cases hlt : k < l.length
        · have HS := Lib.hid (numTo_snoc base l k hlt)
          have hd := digitN_le l[k]
          have HG : ∀ h : 1099511627776 < numTo base (l.take (k + 1)), Hid (number base l = (0, 11)) := fun h => number_long hb H0.out HN.out (k + 1) h
          generalize hnk : numTo base (l.take k) = n at *
          have hm : n * base ≤ 1099511627776 * 16 := Nat.mul_le_mul hle hb2
          rw [HS.out] at HG
          clear hnk
          by_cases hg : 1099511627776 < n * base + digitN l[k]
          · have HG := HG hg
            go_wp2_with (go_at_call 91; refine (digit_any _ _).mono ?_; rintro e w' ⟨rfl, rfl⟩)
            go_ret2
            exact ⟨by rw [HG.out]; rfl, rfl⟩
          · clear HG
            go_wp2_with (go_at_call 91; refine (digit_any _ _).mono ?_; rintro e w' ⟨rfl, rfl⟩)
            go_round
            case rel => exact ⟨k + 1, by go_num, by omega, by rw [HS.out]; go_num, by rw [HS.out]; omega⟩
            case measure => simp [intOf]; omega
        · have hk' : k = l.length := by omega
          subst hk'
          rw [List.take_length] at *
          have HG := Lib.hid (number_ok H0.out HN.out (by rw [greatest_val]; exact hle))
          go_wp2
          go_ret2
          exact ⟨by rw [HG.out]; rfl, rfl⟩

theorem Decimal_any (l : Bytes) (w : World) (hl : l.length ≤ maxLen) :
    Calls Tryd.prog 72 #[S l] w fun e w' => e = .returned (.tuple #[.int .i64 ((number 10 l).1 : Nat), .int .i64 ((number 10 l).2 : Nat)]) ∧ w = w' := by
  have h := number_any 10 l w (by decide) (by decide) hl
  rw [show ((10 : Nat) : Int) = 10 from rfl] at h
  have H := Lib.hid h
  clear h
  go_enter Tryd.func72, Tryd.ntmps72
  go_wp2_with fail
  refine H.out.mono ?_
  rintro e w' ⟨rfl, rfl⟩
  generalize hn : number 10 l = n at *
  have HN := Lib.hid hn
  clear hn
  go_wp2
  go_ret2
  exact ⟨by rw [HN.out]; rfl, rfl⟩

end Go.Proofs.YtcicpboblppfiaaDoor
