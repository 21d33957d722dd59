/- Parts of the proof of DealLacks_holds: the texts Ctl1. -/
import Derived.Lib.IndexAny
import Derived.Test.YtahapblgmehngaaGreatDoorC3
import Derived.Test.YtahapblgmehngaaGreatDoorC4
set_option linter.unusedSimpArgs false
set_option linter.unusedVariables false
set_option linter.unnecessarySimpa false
namespace Go.Proofs.YtahapblgmehngaaGreatDoor
open Go.RowKit Go.Dr

theorem IndexByte_at (s : Bytes) (c : UInt8) (w : World) : Calls Tryz.prog 215 #[S s, B8 c] w fun e w' => e = .returned (.int .i64 (Lib.indexByte s c)) ∧ w = w' := by
  have h := Tryz.strings_IndexByte ⟨s.toArray⟩ (c.toNat : Int) w
  rw [show ((c.toNat : Int).toNat.toUInt8) = c by simp] at h
  exact h.mono fun _ _ ⟨h1, h2⟩ => ⟨h1, h2.symm⟩

set_option maxHeartbeats 400000 in
theorem mark_any (c : UInt8) (w : World) : Calls Tryz.prog 191 #[B8 c] w fun e w' => e = .returned (.bool (isMark c)) ∧ w = w' := by
  have HC := Lib.hid (Lib.contains_iff_indexByte tokMarks c)
  go_enter Tryz.func191, Tryz.ntmps191
  go_wp2_with fail
  refine (IndexByte_at tokMarks c w).mono ?_
  rintro e w' ⟨rfl, rfl⟩
  go_wp2
  go_ret
  exact ⟨ret_bool HC.out.symm, rfl⟩

theorem tokB_yes (c : UInt8) (h : (48 ≤ (c.toNat : Int) ∧ (c.toNat : Int) ≤ 57) ∨ (97 ≤ (c.toNat : Int) ∧ (c.toNat : Int) ≤ 122) ∨ (65 ≤ (c.toNat : Int) ∧ (c.toNat : Int) ≤ 90)) : true = tokB c := by
  unfold tokB
  have e : (decide (48 ≤ c.toNat ∧ c.toNat ≤ 57) || decide (97 ≤ c.toNat ∧ c.toNat ≤ 122) || decide (65 ≤ c.toNat ∧ c.toNat ≤ 90)) = true := by
    simp only [Bool.or_eq_true, decide_eq_true_iff]; omega
  rw [e]; rfl
theorem tokB_no (c : UInt8) (h : ¬ ((48 ≤ (c.toNat : Int) ∧ (c.toNat : Int) ≤ 57) ∨ (97 ≤ (c.toNat : Int) ∧ (c.toNat : Int) ≤ 122) ∨ (65 ≤ (c.toNat : Int) ∧ (c.toNat : Int) ≤ 90))) : isMark c = tokB c := by
  unfold tokB
  have e : (decide (48 ≤ c.toNat ∧ c.toNat ≤ 57) || decide (97 ≤ c.toNat ∧ c.toNat ≤ 122) || decide (65 ≤ c.toNat ∧ c.toNat ≤ 90)) = false := by
    simp only [Bool.or_eq_false_iff, decide_eq_false_iff_not]; omega
  rw [e]; rfl

set_option maxHeartbeats 400000 in
theorem tokenB_any (c : UInt8) (w : World) : Calls Tryz.prog 161 #[B8 c] w fun e w' => e = .returned (.bool (tokB c)) ∧ w = w' := by
  go_enter Tryz.func161, Tryz.ntmps161
  go_wp2_with (go_at_call 191; refine (mark_any c w).mono ?_; rintro e w' ⟨rfl, rfl⟩)
  all_goals
    go_ret
    first
      | exact ⟨ret_bool (tokB_yes c (by omega)), rfl⟩
      | exact ⟨ret_bool (tokB_no c (by omega)), rfl⟩

theorem all_take_succ {α : Type} (p : α → Bool) (l : List α) (k : Nat) (h : k < l.length) (h1 : (l.take k).all p = true) (h2 : p l[k] = true) : (l.take (k + 1)).all p = true := by
  rw [take_snoc l k h, List.all_append, h1]
  simp [h2]
theorem all_miss {α : Type} (p : α → Bool) (l : List α) (k : Nat) (h : k < l.length) (h2 : p l[k] = false) : l.all p = false := by
  rw [List.all_eq_false]
  exact ⟨_, List.getElem_mem h, by simp [h2]⟩

set_option maxHeartbeats 400000 in
theorem Token_any (l : Bytes) (w : World) (hl : l.length ≤ maxLen) : Calls Tryz.prog 141 #[S l] w fun e w' => e = .returned (.bool (token l)) ∧ w = w' := by
  unfold maxLen at hl
  go_enter Tryz.func141, Tryz.ntmps141
  go_wp2
  go_loop [6] (fun i => ∃ k : Nat, i = .int .i64 k ∧ k ≤ l.length ∧ Hid ((l.take k).all tokB = true)) (fun i => l.length - (intOf i).toNat)
  case atStart => exact ⟨0, rfl, Nat.zero_le _, rfl⟩
  case round =>
    obtain ⟨k, rfl, hk, HN⟩ := hrel
    by_cases hlt : k < l.length
    · by_cases hs : tokB l[k] = true
      · have HY := Lib.hid (all_take_succ tokB l k hlt HN.out hs)
        go_wp2_with (go_at_call 161; refine (tokenB_any _ _).mono ?_; rintro e w' ⟨rfl, rfl⟩)
        go_round
        case rel => exact ⟨k + 1, by go_num, by omega, HY⟩
        case measure => simp [intOf]; omega
      · have hs' : tokB l[k] = false := by simpa using hs
        clear hs
        have HY := Lib.hid (all_miss tokB l k hlt hs')
        go_wp2_with (go_at_call 161; refine (tokenB_any _ _).mono ?_; rintro e w' ⟨rfl, rfl⟩)
        go_ret
        exact ⟨ret_bool (by rw [token, HY.out]; rfl), rfl⟩
    · have hk' : k = l.length := by omega
      subst hk'
      go_wp2
      go_ret
      exact ⟨ret_bool (by have := HN.out; rw [List.take_length] at this; rw [token, this]; simp), rfl⟩

theorem digitN_a (c : UInt8) (h : 48 ≤ (c.toNat : Int)) (h' : (c.toNat : Int) ≤ 57) : (c.toNat : Int) - 48 = (digitN c : Int) := by
  unfold digitN; rw [if_pos (by omega)]; omega
theorem digitN_b (c : UInt8) (h : 97 ≤ (c.toNat : Int)) (h' : (c.toNat : Int) ≤ 102) : (c.toNat : Int) - 97 + 10 = (digitN c : Int) := by
  unfold digitN; rw [if_neg (by omega), if_pos (by omega)]; omega
theorem digitN_c (c : UInt8) (h : 65 ≤ (c.toNat : Int)) (h' : (c.toNat : Int) ≤ 70) : (c.toNat : Int) - 65 + 10 = (digitN c : Int) := by
  unfold digitN; rw [if_neg (by omega), if_neg (by omega), if_pos (by omega)]; omega
theorem digitN_d (c : UInt8) (h : ¬ ((48 ≤ (c.toNat : Int) ∧ (c.toNat : Int) ≤ 57) ∨ (97 ≤ (c.toNat : Int) ∧ (c.toNat : Int) ≤ 102) ∨ (65 ≤ (c.toNat : Int) ∧ (c.toNat : Int) ≤ 70))) : 16 = (digitN c : Int) := by
  unfold digitN; rw [if_neg (by omega), if_neg (by omega), if_neg (by omega)]; rfl

set_option maxHeartbeats 400000 in
theorem digit_any (c : UInt8) (w : World) : Calls Tryz.prog 192 #[B8 c] w fun e w' => e = .returned (.int .i64 (digitN c : Nat)) ∧ w = w' := by
  have hc := UInt8.toNat_lt c
  go_enter Tryz.func192, Tryz.ntmps192
  go_wp2
  all_goals
    go_ret
    first
      | exact ⟨ret_int (digitN_a c (by omega) (by omega)), rfl⟩
      | exact ⟨ret_int (digitN_b c (by omega) (by omega)), rfl⟩
      | exact ⟨ret_int (digitN_c c (by omega) (by omega)), rfl⟩
      | exact ⟨ret_int (digitN_d c (by omega)), rfl⟩

theorem number_long {base : Nat} (hb : 0 < base) {l : Bytes} (h0 : l ≠ []) (hd : l.all (fun c => decide (digitN c < base)) = true) (k : Nat) (h : greatest < numTo base (l.take k)) : number base l = (0, 11) := by
  have h1 := numTo_take base hb l k
  unfold number
  rw [if_neg (by simp [h0, hd]), if_neg (by omega)]
theorem number_form {base : Nat} {l : Bytes} (hd : l.all (fun c => decide (digitN c < base)) = false) : number base l = (0, 10) := by
  unfold number
  rw [if_pos (by simp [hd])]
theorem number_ok {base : Nat} {l : Bytes} (h0 : l ≠ []) (hd : l.all (fun c => decide (digitN c < base)) = true) (h : numTo base l ≤ greatest) : number base l = (numTo base l, 0) := by
  unfold number
  rw [if_neg (by simp [h0, hd]), if_pos h]
theorem greatest_val : greatest = 1099511627776 := rfl

set_option maxHeartbeats 1000000 in
theorem number_any (base : Nat) (l : Bytes) (w : World) (hb : 0 < base) (hb2 : base ≤ 16) (hl : l.length ≤ maxLen) :
    Calls Tryz.prog 163 #[S l, .int .i64 base] w fun e w' => e = .returned (.tuple #[.int .i64 ((number base l).1 : Nat), .int .i64 ((number base l).2 : Nat)]) ∧ w = w' := by
  unfold maxLen at hl
  by_cases h0 : l = []
  · subst h0
    go_enter Tryz.func163, Tryz.ntmps163
    go_wp2
    go_ret2
    exact ⟨rfl, rfl⟩
  have hn : l.isEmpty = false := by simpa using h0
  have H0 := Lib.hid h0
  clear h0
  go_enter Tryz.func163, Tryz.ntmps163
  go_wp2
  go_loop [13] (fun i => ∃ k : Nat, i = .int .i64 k ∧ k ≤ l.length ∧ Hid ((l.take k).all (fun c => decide (digitN c < base)) = true)) (fun i => l.length - (intOf i).toNat)
  case atStart => exact ⟨0, rfl, Nat.zero_le _, rfl⟩
  case round =>
    obtain ⟨k, rfl, hk, HN⟩ := hrel
    by_cases hlt : k < l.length
    · by_cases hs : digitN l[k] < base
      · have HY := Lib.hid (all_take_succ (fun c => decide (digitN c < base)) l k hlt HN.out (by simpa using hs))
        have hs' : decide (base ≤ digitN l[k]) = false := by rw [decide_eq_false_iff_not]; omega
        clear hs
        go_wp2_with (go_at_call 192; refine (digit_any _ _).mono ?_; rintro e w' ⟨rfl, rfl⟩)
        go_round
        case rel => exact ⟨k + 1, by go_num, by omega, HY⟩
        case measure => simp [intOf]; omega
      · have hs' : decide (base ≤ digitN l[k]) = true := by rw [decide_eq_true_iff]; omega
        have HY := Lib.hid (number_form (all_miss (fun c => decide (digitN c < base)) l k hlt (by simpa using hs)))
        clear hs
        go_wp2_with (go_at_call 192; refine (digit_any _ _).mono ?_; rintro e w' ⟨rfl, rfl⟩)
        go_ret2
        exact ⟨by rw [HY.out]; rfl, rfl⟩
    · have hk' : k = l.length := by omega
      subst hk'
      rw [List.take_length] at HN
      clear hlt hk
      go_wp2
      go_loop [7, 25] (fun n i => ∃ k : Nat, i = .int .i64 k ∧ k ≤ l.length ∧ n = .int .i64 (numTo base (l.take k)) ∧ numTo base (l.take k) ≤ 1099511627776) (fun _ i => l.length - (intOf i).toNat)
      case atStart => exact ⟨0, rfl, Nat.zero_le _, rfl, Nat.zero_le _⟩
      case round =>
        obtain ⟨k, rfl, hk, rfl, hle⟩ := hrel
        by_cases hlt : k < l.length
        · have HS := Lib.hid (numTo_snoc base l k hlt)
          have hd := digitN_le l[k]
          have HG : ∀ h : 1099511627776 < numTo base (l.take (k + 1)), Hid (number base l = (0, 11)) := fun h => number_long hb H0.out HN.out (k + 1) h
          generalize hnk : numTo base (l.take k) = n at *
          have hm : n * base ≤ 1099511627776 * 16 := Nat.mul_le_mul hle hb2
          rw [HS.out] at HG
          clear hnk
          by_cases hg : 1099511627776 < n * base + digitN l[k]
          · have HG := HG hg
            go_wp2_with (go_at_call 192; refine (digit_any _ _).mono ?_; rintro e w' ⟨rfl, rfl⟩)
            go_ret2
            exact ⟨by rw [HG.out]; rfl, rfl⟩
          · clear HG
            go_wp2_with (go_at_call 192; refine (digit_any _ _).mono ?_; rintro e w' ⟨rfl, rfl⟩)
            go_round
            case rel => exact ⟨k + 1, by go_num, by omega, by rw [HS.out]; go_num, by rw [HS.out]; omega⟩
            case measure => simp [intOf]; omega
        · have hk' : k = l.length := by omega
          subst hk'
          rw [List.take_length] at *
          have HG := Lib.hid (number_ok H0.out HN.out (by rw [greatest_val]; exact hle))
          go_wp2
          go_ret2
          exact ⟨by rw [HG.out]; rfl, rfl⟩

theorem Decimal_any (l : Bytes) (w : World) (hl : l.length ≤ maxLen) :
    Calls Tryz.prog 144 #[S l] w fun e w' => e = .returned (.tuple #[.int .i64 ((number 10 l).1 : Nat), .int .i64 ((number 10 l).2 : Nat)]) ∧ w = w' := by
  have h := number_any 10 l w (by decide) (by decide) hl
  rw [show ((10 : Nat) : Int) = 10 from rfl] at h
  have H := Lib.hid h
  clear h
  go_enter Tryz.func144, Tryz.ntmps144
  go_wp2_with fail
  refine H.out.mono ?_
  rintro e w' ⟨rfl, rfl⟩
  generalize hn : number 10 l = n at *
  have HN := Lib.hid hn
  clear hn
  go_wp2
  go_ret2
  exact ⟨by rw [HN.out]; rfl, rfl⟩

end Go.Proofs.YtahapblgmehngaaGreatDoor
namespace Go.Proofs.YtahapblgmehngaaGreatDoor
open Go.RowKit Go.Dr

theorem Index_at (l : Bytes) (w : World) : Calls Tryz.prog 190 #[S l, S [61]] w fun e w' => e = .returned (.int .i64 (Lib.indexByte l 61)) ∧ w = w' :=
  (Tryz.stringslite_Index_one ⟨l.toArray⟩ 61 w).mono fun _ _ ⟨h1, h2⟩ => ⟨h1, h2.symm⟩
theorem HasPrefix_at (s p : Bytes) (w : World) : Calls Tryz.prog 142 #[S s, S p] w fun e w' => e = .returned (.bool (Lib.hasPrefix s p)) ∧ w = w' :=
  (Tryz.strings_HasPrefix ⟨s.toArray⟩ ⟨p.toArray⟩ w).mono fun _ _ ⟨h1, h2⟩ => ⟨h1, h2.symm⟩

set_option maxHeartbeats 1000000 in
theorem cutLite_any (l : Bytes) (w : World) (hl : l.length ≤ maxLen) :
    Calls Tryz.prog 160 #[S l, S [61]] w fun e w' => e = .returned (.tuple #[S (eqName l), S (eqArg l), .bool (decide (0 ≤ Lib.indexByte l 61))]) ∧ Below w.heap.size w w' := by
  unfold maxLen at hl
  rcases cut_at l with ⟨k, h1, h2, h3, h4⟩ | ⟨h1, h2, h3⟩
  · have H := Lib.hid (And.intro h1 (And.intro h3 h4))
    clear h1 h3 h4
    go_enter Tryz.func160, Tryz.ntmps160
    go_wp2_with fail
    refine (Index_at l w).mono ?_
    rintro e w' ⟨rfl, rfl⟩
    rw [H.out.1]
    go_wp2_with fail
    go_quiet (fail)
    go_wp2
    go_ret3
    exact ⟨by rw [H.out.1, H.out.2.1, H.out.2.2]; simp, below_drewN (Below.refl _ _) _⟩
  · have H := Lib.hid (And.intro h1 (And.intro h2 h3))
    clear h1 h2 h3
    go_enter Tryz.func160, Tryz.ntmps160
    go_wp2_with fail
    refine (Index_at l w).mono ?_
    rintro e w' ⟨rfl, rfl⟩
    rw [H.out.1]
    go_wp2
    go_ret3
    exact ⟨by rw [H.out.1, H.out.2.1, H.out.2.2]; simp, Below.refl _ _⟩

set_option maxHeartbeats 1000000 in
theorem Cut_any (l : Bytes) (w : World) (hl : l.length ≤ maxLen) :
    Calls Tryz.prog 140 #[S l, S [61]] w fun e w' => e = .returned (.tuple #[S (eqName l), S (eqArg l), .bool (decide (0 ≤ Lib.indexByte l 61))]) ∧ Below w.heap.size w w' := by
  go_enter Tryz.func140, Tryz.ntmps140
  go_wp2_with fail
  refine (cutLite_any l w hl).mono ?_
  rintro e w' ⟨rfl, hb⟩
  (generalize hgena : eqName l = a at *; have Ha := Lib.hid hgena; clear hgena)
  (generalize hgenb : eqArg l = b at *; have Hb := Lib.hid hgenb; clear hgenb)
  (generalize hgenc : decide (0 ≤ Lib.indexByte l 61) = c at *; have Hc := Lib.hid hgenc; clear hgenc)
  go_wp2
  go_ret3
  exact ⟨by rw [Ha.out, Hb.out, Hc.out]; rfl, hb⟩

set_option maxHeartbeats 2000000 in
theorem unquote_any (l : Bytes) (w : World) (hl : l.length ≤ 1099511627776) :
    Calls Tryz.prog 143 #[S l] w fun e w' => e = .returned (.tuple #[S (unquote l).1, .bool (unquote l).2]) ∧ Below w.heap.size w w' := by
  by_cases h2 : l.length < 2
  · have HU : Hid (unquote l = ([], false)) := by
      show _ = _
      unfold unquote
      exact unq_end [] l 1 (by omega)
    go_enter Tryz.func143, Tryz.ntmps143
    go_wp2
    go_ret2
    exact ⟨by rw [HU.out]; rfl, Below.refl _ _⟩
  have HU : Hid (unquote l = unq [] (l.drop 1)) := rfl
  go_enter Tryz.func143, Tryz.ntmps143
  go_wp2
  go_loopw [4, 5] (fun v i wr => ∃ (k : Nat) (out : Bytes), i = .int .i64 k ∧ 1 ≤ k ∧ k ≤ l.length ∧ out.length ≤ k ∧ wr.ownsRow w.heap.size 5 1 v out.length (out.map B8) ∧ Hid (unquote l = unq out (l.drop k)) ∧ Below w.heap.size w wr) (fun _ i _ => l.length - (intOf i).toNat)
  case atStart => exact ⟨1, [], rfl, Nat.le_refl _, by omega, by simp, World.ownsRow_nil _ _ _ _, HU, Below.refl _ _⟩
  case round =>
    clear HU
    obtain ⟨k, out, rfl, hk1, hk, ho, hown, HU, hbel⟩ := hrel
    by_cases hlt : k < l.length
    · by_cases c34 : l[k] = 34
      · have g34 : ((l[k].toNat : Int) == 34) = true := u8_eq c34
        have HQ := Lib.hid (unq_quote out l k hlt c34)
        have hc := run_string_own (P := Tryz.prog) wr 124 9 5 w.heap.size u4 out Tryz.underlying124 Tryz.underlying5 Tryz.underlying9 hown
        clear c34
        by_cases he : k + 1 = l.length
        · have ge : ((k : Int) == (l.length : Int) - 1) = true := by rw [beq_iff_eq]; omega
          have HE := Lib.hid he
          clear he
          go_wp2
          go_ret2
          exact ⟨by rw [HU.out, HQ.out, decide_eq_true HE.out]; rfl, hbel⟩
        · have ge : ((k : Int) == (l.length : Int) - 1) = false := by rw [beq_eq_false_iff_ne]; omega
          have HE := Lib.hid he
          clear he
          go_wp2
          go_ret2
          exact ⟨by rw [HU.out, HQ.out, decide_eq_false HE.out]; rfl, hbel⟩
      · have g34 : ((l[k].toNat : Int) == 34) = false := u8_ne c34
        by_cases c92 : l[k] = 92
        · have g92 : ((l[k].toNat : Int) == 92) = true := u8_eq c92
          by_cases he : k + 1 = l.length
          · have HQ := Lib.hid (unq_last out l k hlt c92 he)
            have ge : ((k : Int) + 1 == (l.length : Int)) = true := by rw [← he]; simp
            clear c34 c92 he
            go_wp2
            go_ret2
            exact ⟨by rw [HU.out, HQ.out]; rfl, hbel⟩
          · have hlt2 : k + 1 < l.length := by omega
            have HQ := Lib.hid (unq_two out l k hlt2 c92)
            have ge : ((k : Int) + 1 == (l.length : Int)) = false := by rw [beq_eq_false_iff_ne]; omega
            clear c34 c92 he
            go_wp2_with (at_builtin; refine wpList_app1 rfl _ _ 124 rfl w.heap.size (.int .u8 0) 1 Tryz.underlying124 (by kernel_rfl) rfl rfl _ _ _ rfl hown rfl (by omega) (by decide) hbel.size ?_; intro a' c' w' hown' hb' hz')
            go_roundw
            case rel => exact ⟨k + 1 + 1, out ++ [l[k + 1]], by go_num, by omega, by omega, by simp; omega, by simpa using hown', by show _ = _; rw [HU.out, HQ.out], hbel.trans hb'⟩
            case measure => simp [intOf]; omega
        · have g92 : ((l[k].toNat : Int) == 92) = false := u8_ne c92
          have HQ := Lib.hid (unq_one out l k hlt c34 c92)
          clear c34 c92
          go_wp2_with (at_builtin; refine wpList_app1 rfl _ _ 124 rfl w.heap.size (.int .u8 0) 1 Tryz.underlying124 (by kernel_rfl) rfl rfl _ _ _ rfl hown rfl (by omega) (by decide) hbel.size ?_; intro a' c' w' hown' hb' hz')
          go_roundw
          case rel => exact ⟨k + 1, out ++ [l[k]], by go_num, by omega, by omega, by simp; omega, by simpa using hown', by show _ = _; rw [HU.out, HQ.out], hbel.trans hb'⟩
          case measure => simp [intOf]; omega
    · have HQ := Lib.hid (unq_end out l k (by omega))
      go_wp2
      go_ret2
      exact ⟨by rw [HU.out, HQ.out]; rfl, hbel⟩

end Go.Proofs.YtahapblgmehngaaGreatDoor
namespace Go.Proofs.YtahapblgmehngaaGreatDoor
open Go.RowKit Go.Dr

theorem eqName_length (l : Bytes) : (eqName l).length ≤ l.length := List.Sublist.length_le (List.takeWhile_sublist _)
theorem eqArg_length (l : Bytes) : (eqArg l).length ≤ l.length := by
  have := List.Sublist.length_le (List.dropWhile_sublist (fun c : UInt8 => c != 61) (l := l))
  simp only [eqArg, List.length_drop]
  omega

set_option maxHeartbeats 1000000 in
theorem Directive_any (l : Bytes) (w : World) (hl : l.length ≤ 1099511627776) :
    Calls Tryz.prog 119 #[S l] w fun e w' => e = .returned (.tuple #[S (directive l).1, S (directive l).2.1, .bool (directive l).2.2]) ∧ Below w.heap.size w w' := by
  have HD := Lib.hid (directive.eq_1 l)
  have l1 := eqName_length l
  have l2 := eqArg_length l
  go_enter Tryz.func119, Tryz.ntmps119
  go_wp2_with fail
  refine (Cut_any l w (by unfold maxLen; omega)).mono ?_
  rintro e w1 ⟨rfl, hb1⟩
  (generalize hgena : eqName l = a at *; have Ha := Lib.hid hgena; clear hgena)
  (generalize hgenb : eqArg l = b at *; have Hb := Lib.hid hgenb; clear hgenb)
  (generalize hgenc : decide (0 ≤ Lib.indexByte l 61) = c at *; have Hc := Lib.hid hgenc; clear hgenc)
  by_cases ht : token a = true
  · have HT := Lib.hid ht
    clear ht
    go_wp2_with fail
    refine (Token_any a _ (by unfold maxLen; omega)).mono ?_
    rintro e w' ⟨rfl, rfl⟩
    rw [HT.out]
    by_cases hp : Lib.hasPrefix b [34] = true
    · have HP := Lib.hid hp
      clear hp
      go_wp2_with fail
      refine (HasPrefix_at b [34] _).mono ?_
      rintro e w' ⟨rfl, rfl⟩
      rw [HP.out]
      go_wp2_with fail
      refine (unquote_any b _ (by omega)).mono ?_
      rintro e w2 ⟨rfl, hb2⟩
      by_cases hu : (unquote b).2 = true
      · have HU := Lib.hid hu
        clear hu
        rw [HU.out]
        (generalize hgenu : (unquote b).1 = u at *; have Hu := Lib.hid hgenu; clear hgenu)
        go_wp2_with fail
        refine (Lower_any a _ (by unfold maxLen; omega)).mono ?_
        rintro e w3 ⟨rfl, hb3⟩
        go_wp2
        go_ret3
        exact ⟨by rw [HD.out]; simp [HT.out, HP.out, HU.out], Bl.tr (Bl.tr hb1 hb2) hb3⟩
      · have hu' : (unquote b).2 = false := by simpa using hu
        have HU := Lib.hid hu'
        clear hu hu'
        rw [HU.out]
        (generalize hgenu : (unquote b).1 = u at *; have Hu := Lib.hid hgenu; clear hgenu)
        go_wp2
        go_ret3
        exact ⟨by rw [HD.out]; simp [HT.out, HP.out, HU.out], Bl.tr hb1 hb2⟩
    · have hp' : Lib.hasPrefix b [34] = false := by simpa using hp
      have HP := Lib.hid hp'
      clear hp hp'
      go_wp2_with fail
      refine (HasPrefix_at b [34] _).mono ?_
      rintro e w' ⟨rfl, rfl⟩
      rw [HP.out]
      go_wp2_with fail
      refine (Lower_any a _ (by unfold maxLen; omega)).mono ?_
      rintro e w3 ⟨rfl, hb3⟩
      go_wp2
      go_ret3
      exact ⟨by rw [HD.out]; simp [HT.out, HP.out], Bl.tr hb1 hb3⟩
  · have ht' : token a = false := by simpa using ht
    have HT := Lib.hid ht'
    clear ht ht'
    go_wp2_with fail
    refine (Token_any a _ (by unfold maxLen; omega)).mono ?_
    rintro e w' ⟨rfl, rfl⟩
    rw [HT.out]
    go_wp2
    go_ret3
    exact ⟨by rw [HD.out]; simp [HT.out], hb1⟩

set_option maxHeartbeats 400000 in
theorem numArg_any (a : Bytes) (w : World) (hl : a.length ≤ maxLen) :
    Calls Tryz.prog 121 #[S a] w fun e w' => e = .returned (.int .i64 (numArg a : Nat)) ∧ w = w' := by
  have HN := Lib.hid (numArg.eq_1 a)
  go_enter Tryz.func121, Tryz.ntmps121
  go_wp2_with fail
  refine (Decimal_any a w hl).mono ?_
  rintro e w' ⟨rfl, rfl⟩
  by_cases h : (number 10 a).2 = 11
  · (generalize hgenx : (number 10 a).1 = x at *; have Hx := Lib.hid hgenx; clear hgenx)
    rw [h] at *
    clear h
    go_wp2
    go_ret
    exact ⟨ret_int (by rw [HN.out]; rfl), rfl⟩
  · have h1 : (((number 10 a).2 : Int) == 11) = false := by rw [beq_eq_false_iff_ne]; omega
    have HH := Lib.hid h
    clear h
    (generalize hgenx : (number 10 a).1 = x at *; have Hx := Lib.hid hgenx; clear hgenx)
    (generalize hgeny : (number 10 a).2 = y at *; have Hy := Lib.hid hgeny; clear hgeny)
    go_wp2
    go_ret
    exact ⟨ret_int (by rw [HN.out, if_neg HH.out]), rfl⟩

set_option maxHeartbeats 400000 in
theorem least_any (a n : Int) (w : World) (h : -1 ≤ a) (h2 : a ≤ 1099511627776) (hn0 : 0 ≤ n) (hn : n ≤ 1099511627776) :
    Calls Tryz.prog 120 #[.int .i64 a, .int .i64 n] w fun e w' => e = .returned (.int .i64 (least a n)) ∧ w = w' := by
  have HL := Lib.hid (least.eq_1 a n)
  go_enter Tryz.func120, Tryz.ntmps120
  go_wp2
  all_goals
    go_ret
    exact ⟨ret_int (by (rw [HL.out]) <;> (try simp only [Int.min_def]) <;> (repeat' split) <;> omega), rfl⟩

set_option maxHeartbeats 400000 in
theorem most_any (a n : Int) (w : World) (h : -1 ≤ a) (h2 : a ≤ 1099511627776) (hn0 : 0 ≤ n) (hn : n ≤ 1099511627776) :
    Calls Tryz.prog 117 #[.int .i64 a, .int .i64 n] w fun e w' => e = .returned (.int .i64 (most a n)) ∧ w = w' := by
  have HL := Lib.hid (most.eq_1 a n)
  go_enter Tryz.func117, Tryz.ntmps117
  go_wp2
  all_goals
    go_ret
    exact ⟨ret_int (by (rw [HL.out]) <;> (try simp only [Int.max_def]) <;> (repeat' split) <;> omega), rfl⟩

set_option maxHeartbeats 400000 in
theorem countLeast_any (a n : Int) (b k : Nat) (w : World) (h : -1 ≤ a) (h2 : a ≤ 1099511627776) (hn0 : 0 ≤ n) (hn : n ≤ 1099511627776) (hc : w.cell? ⟨b, k, none⟩ = some (.int .i64 a)) (hf : w.frozen? ⟨b, k, none⟩ = false) :
    Calls Tryz.prog 118 #[.pointer (some ⟨b, k, none⟩), .func (.func 120) #[] #[], .int .i64 n] w fun e w' => e = .returned (.tuple #[]) ∧ w' = w.setCell ⟨b, k, none⟩ (.int .i64 (least a n)) := by
  go_enter Tryz.func118, Tryz.ntmps118
  go_wp2_with (go_at_call 120; refine (least_any a n w h h2 hn0 hn).mono ?_; rintro e w' ⟨rfl, rfl⟩)
  go_end0
  exact ⟨rfl, rfl⟩

set_option maxHeartbeats 400000 in
theorem countMost_any (a n : Int) (b k : Nat) (w : World) (h : -1 ≤ a) (h2 : a ≤ 1099511627776) (hn0 : 0 ≤ n) (hn : n ≤ 1099511627776) (hc : w.cell? ⟨b, k, none⟩ = some (.int .i64 a)) (hf : w.frozen? ⟨b, k, none⟩ = false) :
    Calls Tryz.prog 118 #[.pointer (some ⟨b, k, none⟩), .func (.func 117) #[] #[], .int .i64 n] w fun e w' => e = .returned (.tuple #[]) ∧ w' = w.setCell ⟨b, k, none⟩ (.int .i64 (most a n)) := by
  go_enter Tryz.func118, Tryz.ntmps118
  go_wp2_with (go_at_call 117; refine (most_any a n w h h2 hn0 hn).mono ?_; rintro e w' ⟨rfl, rfl⟩)
  go_end0
  exact ⟨rfl, rfl⟩


end Go.Proofs.YtahapblgmehngaaGreatDoor

