/- Parts of the proof of DealDecides_holds: the texts Ctl1 Elp. -/
import Derived.Lib.IndexAny
import Derived.Test.YtahapblgmehngaaGreatDoorE2
import Derived.Test.YtahapblgmehngaaGreatDoorE3
set_option linter.unusedSimpArgs false
set_option linter.unusedVariables false
set_option linter.unnecessarySimpa false
set_option maxRecDepth 100000
set_option maxHeartbeats 64000000
namespace Go.Proofs.YtahapblgmehngaaGreatDoor
open Go.RowKit Go.Dr
theorem IndexByte_at (s : Bytes) (c : UInt8) (w : World) : Calls Tryz.prog 215 #[S s, B8 c] w fun e w' => e = .returned (.int .i64 (Lib.indexByte s c)) ∧ w = w' := by
 have h := Tryz.strings_IndexByte ⟨s.toArray⟩ (c.toNat : Int) w;rw [show ((c.toNat : Int).toNat.toUInt8) = c by simp] at h;exact h.mono fun _ _ ⟨h1, h2⟩ => ⟨h1, h2.symm⟩
theorem mark_any (c : UInt8) (w : World) : Calls Tryz.prog 191 #[B8 c] w fun e w' => e = .returned (.bool (isMark c)) ∧ w = w' := by
 have HC := Lib.hid (Lib.contains_iff_indexByte tokMarks c);go_enter Tryz.func191, Tryz.ntmps191
 go_wp2_with fail;refine (IndexByte_at tokMarks c w).mono ?_;rintro e w' ⟨rfl, rfl⟩;go_wp2;go_ret;exact ⟨ret_bool HC.out.symm, rfl⟩
theorem tokB_yes (c : UInt8) (h : (48 ≤ (c.toNat : Int) ∧ (c.toNat : Int) ≤ 57) ∨ (97 ≤ (c.toNat : Int) ∧ (c.toNat : Int) ≤ 122) ∨ (65 ≤ (c.toNat : Int) ∧ (c.toNat : Int) ≤ 90)) : true = tokB c := by
 unfold tokB
 have e : (decide (48 ≤ c.toNat ∧ c.toNat ≤ 57) || decide (97 ≤ c.toNat ∧ c.toNat ≤ 122) || decide (65 ≤ c.toNat ∧ c.toNat ≤ 90)) = true := by
  simp only [Bool.or_eq_true, decide_eq_true_iff];omega
 rw [e];rfl
theorem tokB_no (c : UInt8) (h : ¬ ((48 ≤ (c.toNat : Int) ∧ (c.toNat : Int) ≤ 57) ∨ (97 ≤ (c.toNat : Int) ∧ (c.toNat : Int) ≤ 122) ∨ (65 ≤ (c.toNat : Int) ∧ (c.toNat : Int) ≤ 90))) : isMark c = tokB c := by
 unfold tokB
 have e : (decide (48 ≤ c.toNat ∧ c.toNat ≤ 57) || decide (97 ≤ c.toNat ∧ c.toNat ≤ 122) || decide (65 ≤ c.toNat ∧ c.toNat ≤ 90)) = false := by
  simp only [Bool.or_eq_false_iff, decide_eq_false_iff_not];omega
 rw [e];rfl
theorem tokenB_any (c : UInt8) (w : World) : Calls Tryz.prog 161 #[B8 c] w fun e w' => e = .returned (.bool (tokB c)) ∧ w = w' := by
 go_enter Tryz.func161, Tryz.ntmps161
 go_wp2_with (go_at_call 191;refine (mark_any c w).mono ?_;rintro e w' ⟨rfl, rfl⟩)
 all_goals
  go_ret
  first
   | exact ⟨ret_bool (tokB_yes c (by omega)), rfl⟩
   | exact ⟨ret_bool (tokB_no c (by omega)), rfl⟩
theorem all_take_succ {α : Type} (p : α → Bool) (l : List α) (k : Nat) (h : k < l.length) (h1 : (l.take k).all p = true) (h2 : p l[k] = true) : (l.take (k + 1)).all p = true := by
 rw [take_snoc l k h, List.all_append, h1];simp [h2]
theorem all_miss {α : Type} (p : α → Bool) (l : List α) (k : Nat) (h : k < l.length) (h2 : p l[k] = false) : l.all p = false := by
 rw [List.all_eq_false];exact ⟨_, List.getElem_mem h, by simp [h2]⟩
theorem Token_any (l : Bytes) (w : World) (hl : l.length ≤ maxLen) : Calls Tryz.prog 141 #[S l] w fun e w' => e = .returned (.bool (token l)) ∧ w = w' := by
 unfold maxLen at hl;go_enter Tryz.func141, Tryz.ntmps141
 go_wp2
 go_loop [6] (fun i => ∃ k : Nat, i = .int .i64 k ∧ k ≤ l.length ∧ Hid ((l.take k).all tokB = true)) (fun i => l.length - (intOf i).toNat)
 case atStart => exact ⟨0, rfl, Nat.zero_le _, rfl⟩
 case round =>
  obtain ⟨k, rfl, hk, HN⟩ := hrel;by_cases hlt : k < l.length
  ·by_cases hs : tokB l[k] = true
   ·have HY := Lib.hid (all_take_succ tokB l k hlt HN.out hs)
    go_wp2_with (go_at_call 161;refine (tokenB_any _ _).mono ?_;rintro e w' ⟨rfl, rfl⟩)
    go_round
    case rel => exact ⟨k + 1, by go_num, by omega, HY⟩
    case measure => simp [intOf];omega
   ·have hs' : tokB l[k] = false := by simpa using hs
    clear hs;have HY := Lib.hid (all_miss tokB l k hlt hs');go_wp2_with (go_at_call 161;refine (tokenB_any _ _).mono ?_;rintro e w' ⟨rfl, rfl⟩)
    go_ret;exact ⟨ret_bool (by rw [token, HY.out];rfl), rfl⟩
  ·have hk' : k = l.length := by omega
   subst hk';go_wp2;go_ret;exact ⟨ret_bool (by have := HN.out;rw [List.take_length] at this;rw [token, this];simp), rfl⟩
theorem digitN_a (c : UInt8) (h : 48 ≤ (c.toNat : Int)) (h' : (c.toNat : Int) ≤ 57) : (c.toNat : Int) - 48 = (digitN c : Int) := by
 unfold digitN;rw [if_pos (by omega)];omega
theorem digitN_b (c : UInt8) (h : 97 ≤ (c.toNat : Int)) (h' : (c.toNat : Int) ≤ 102) : (c.toNat : Int) - 97 + 10 = (digitN c : Int) := by
 unfold digitN;rw [if_neg (by omega), if_pos (by omega)];omega
theorem digitN_c (c : UInt8) (h : 65 ≤ (c.toNat : Int)) (h' : (c.toNat : Int) ≤ 70) : (c.toNat : Int) - 65 + 10 = (digitN c : Int) := by
 unfold digitN;rw [if_neg (by omega), if_neg (by omega), if_pos (by omega)];omega
theorem digitN_d (c : UInt8) (h : ¬ ((48 ≤ (c.toNat : Int) ∧ (c.toNat : Int) ≤ 57) ∨ (97 ≤ (c.toNat : Int) ∧ (c.toNat : Int) ≤ 102) ∨ (65 ≤ (c.toNat : Int) ∧ (c.toNat : Int) ≤ 70))) : 16 = (digitN c : Int) := by
 unfold digitN;rw [if_neg (by omega), if_neg (by omega), if_neg (by omega)];rfl
theorem digit_any (c : UInt8) (w : World) : Calls Tryz.prog 192 #[B8 c] w fun e w' => e = .returned (.int .i64 (digitN c : Nat)) ∧ w = w' := by
 have hc := UInt8.toNat_lt c;go_enter Tryz.func192, Tryz.ntmps192
 go_wp2
 all_goals
  go_ret
  first
   | exact ⟨ret_int (digitN_a c (by omega) (by omega)), rfl⟩
   | exact ⟨ret_int (digitN_b c (by omega) (by omega)), rfl⟩
   | exact ⟨ret_int (digitN_c c (by omega) (by omega)), rfl⟩
   | exact ⟨ret_int (digitN_d c (by omega)), rfl⟩
theorem number_long {base : Nat} (hb : 0 < base) {l : Bytes} (h0 : l ≠ []) (hd : l.all (fun c => decide (digitN c < base)) = true) (k : Nat) (h : greatest < numTo base (l.take k)) : number base l = (0, 11) := by
 have h1 := numTo_take base hb l k;unfold number;rw [if_neg (by simp [h0, hd]), if_neg (by omega)]
theorem number_form {base : Nat} {l : Bytes} (hd : l.all (fun c => decide (digitN c < base)) = false) : number base l = (0, 10) := by
 unfold number;rw [if_pos (by simp [hd])]
theorem number_ok {base : Nat} {l : Bytes} (h0 : l ≠ []) (hd : l.all (fun c => decide (digitN c < base)) = true) (h : numTo base l ≤ greatest) : number base l = (numTo base l, 0) := by
 unfold number;rw [if_neg (by simp [h0, hd]), if_pos h]
theorem greatest_val : greatest = 1099511627776 := rfl
theorem number_any (base : Nat) (l : Bytes) (w : World) (hb : 0 < base) (hb2 : base ≤ 16) (hl : l.length ≤ maxLen) :
  Calls Tryz.prog 163 #[S l, .int .i64 base] w fun e w' => e = .returned (.tuple #[.int .i64 ((number base l).1 : Nat), .int .i64 ((number base l).2 : Nat)]) ∧ w = w' := by
 unfold maxLen at hl;by_cases h0 : l = []
 ·subst h0
  go_enter Tryz.func163, Tryz.ntmps163
  go_wp2;go_ret2;exact ⟨rfl, rfl⟩
 have hn : l.isEmpty = false := (by simpa using h0);have H0 := Lib.hid h0;clear h0;go_enter Tryz.func163, Tryz.ntmps163
 go_wp2
 go_loop [13] (fun i => ∃ k : Nat, i = .int .i64 k ∧ k ≤ l.length ∧ Hid ((l.take k).all (fun c => decide (digitN c < base)) = true)) (fun i => l.length - (intOf i).toNat)
 case atStart => exact ⟨0, rfl, Nat.zero_le _, rfl⟩
 case round =>
  obtain ⟨k, rfl, hk, HN⟩ := hrel;by_cases hlt : k < l.length
  ·by_cases hs : digitN l[k] < base
   ·have HY := Lib.hid (all_take_succ (fun c => decide (digitN c < base)) l k hlt HN.out (by simpa using hs))
    have hs' : decide (base ≤ digitN l[k]) = false := (by rw [decide_eq_false_iff_not];omega)
    clear hs;go_wp2_with (go_at_call 192;refine (digit_any _ _).mono ?_;rintro e w' ⟨rfl, rfl⟩)
    go_round
    case rel => exact ⟨k + 1, by go_num, by omega, HY⟩
    case measure => simp [intOf];omega
   ·have hs' : decide (base ≤ digitN l[k]) = true := by rw [decide_eq_true_iff];omega
    have HY := Lib.hid (number_form (all_miss (fun c => decide (digitN c < base)) l k hlt (by simpa using hs)));clear hs;go_wp2_with (go_at_call 192;refine (digit_any _ _).mono ?_;rintro e w' ⟨rfl, rfl⟩)
    go_ret2;exact ⟨by rw [HY.out];rfl, rfl⟩
  ·have hk' : k = l.length := by omega
   subst hk';rw [List.take_length] at HN;clear hlt hk;go_wp2
   go_loop [7, 25] (fun n i => ∃ k : Nat, i = .int .i64 k ∧ k ≤ l.length ∧ n = .int .i64 (numTo base (l.take k)) ∧ numTo base (l.take k) ≤ 1099511627776) (fun _ i => l.length - (intOf i).toNat)
   case atStart => exact ⟨0, rfl, Nat.zero_le _, rfl, Nat.zero_le _⟩
   case round =>
    obtain ⟨k, rfl, hk, rfl, hle⟩ := hrel;by_cases hlt : k < l.length
    ·have HS := Lib.hid (numTo_snoc base l k hlt)
     have hd := digitN_le l[k];have HG : ∀ h : 1099511627776 < numTo base (l.take (k + 1)), Hid (number base l = (0, 11)) := fun h => number_long hb H0.out HN.out (k + 1) h
     generalize hnk : numTo base (l.take k) = n at *;have hm : n * base ≤ 1099511627776 * 16 := Nat.mul_le_mul hle hb2;rw [HS.out] at HG;clear hnk;by_cases hg : 1099511627776 < n * base + digitN l[k]
     ·have HG := HG hg
      go_wp2_with (go_at_call 192;refine (digit_any _ _).mono ?_;rintro e w' ⟨rfl, rfl⟩)
      go_ret2;exact ⟨by rw [HG.out];rfl, rfl⟩
     ·clear HG
      go_wp2_with (go_at_call 192;refine (digit_any _ _).mono ?_;rintro e w' ⟨rfl, rfl⟩)
      go_round
      case rel => exact ⟨k + 1, by go_num, by omega, by rw [HS.out];go_num, by rw [HS.out];omega⟩
      case measure => simp [intOf];omega
    ·have hk' : k = l.length := by omega
     subst hk';rw [List.take_length] at *;have HG := Lib.hid (number_ok H0.out HN.out (by rw [greatest_val];exact hle));go_wp2;go_ret2;exact ⟨by rw [HG.out];rfl, rfl⟩
theorem Decimal_any (l : Bytes) (w : World) (hl : l.length ≤ maxLen) :
  Calls Tryz.prog 144 #[S l] w fun e w' => e = .returned (.tuple #[.int .i64 ((number 10 l).1 : Nat), .int .i64 ((number 10 l).2 : Nat)]) ∧ w = w' := by
 have h := number_any 10 l w (by decide) (by decide) hl;rw [show ((10 : Nat) : Int) = 10 from rfl] at h;have H := Lib.hid h;clear h;go_enter Tryz.func144, Tryz.ntmps144
 go_wp2_with fail;refine H.out.mono ?_;rintro e w' ⟨rfl, rfl⟩;generalize hn : number 10 l = n at *;have HN := Lib.hid hn;clear hn;go_wp2;go_ret2;exact ⟨by rw [HN.out];rfl, rfl⟩
open Go.RowKit Go.Dr
theorem Index_at (l : Bytes) (w : World) : Calls Tryz.prog 190 #[S l, S [61]] w fun e w' => e = .returned (.int .i64 (Lib.indexByte l 61)) ∧ w = w' :=
 (Tryz.stringslite_Index_one ⟨l.toArray⟩ 61 w).mono fun _ _ ⟨h1, h2⟩ => ⟨h1, h2.symm⟩
theorem HasPrefix_at (s p : Bytes) (w : World) : Calls Tryz.prog 142 #[S s, S p] w fun e w' => e = .returned (.bool (Lib.hasPrefix s p)) ∧ w = w' :=
 (Tryz.strings_HasPrefix ⟨s.toArray⟩ ⟨p.toArray⟩ w).mono fun _ _ ⟨h1, h2⟩ => ⟨h1, h2.symm⟩
theorem cutLite_any (l : Bytes) (w : World) (hl : l.length ≤ maxLen) :
  Calls Tryz.prog 160 #[S l, S [61]] w fun e w' => e = .returned (.tuple #[S (eqName l), S (eqArg l), .bool (decide (0 ≤ Lib.indexByte l 61))]) ∧ Below w.heap.size w w' := by
 unfold maxLen at hl
 rcases cut_at l with ⟨k, h1, h2, h3, h4⟩ | ⟨h1, h2, h3⟩
 ·have H := Lib.hid (And.intro h1 (And.intro h3 h4))
  clear h1 h3 h4;go_enter Tryz.func160, Tryz.ntmps160
  go_wp2_with fail;refine (Index_at l w).mono ?_;rintro e w' ⟨rfl, rfl⟩;rw [H.out.1];go_wp2_with fail;go_quiet (fail)
  go_wp2;go_ret3
  exact ⟨by rw [H.out.1, H.out.2.1, H.out.2.2];simp, below_drewN (Below.refl _ _) _⟩
 ·have H := Lib.hid (And.intro h1 (And.intro h2 h3))
  clear h1 h2 h3;go_enter Tryz.func160, Tryz.ntmps160
  go_wp2_with fail;refine (Index_at l w).mono ?_;rintro e w' ⟨rfl, rfl⟩;rw [H.out.1];go_wp2;go_ret3
  exact ⟨by rw [H.out.1, H.out.2.1, H.out.2.2];simp, Below.refl _ _⟩
theorem Cut_any (l : Bytes) (w : World) (hl : l.length ≤ maxLen) :
  Calls Tryz.prog 140 #[S l, S [61]] w fun e w' => e = .returned (.tuple #[S (eqName l), S (eqArg l), .bool (decide (0 ≤ Lib.indexByte l 61))]) ∧ Below w.heap.size w w' := by
 go_enter Tryz.func140, Tryz.ntmps140
 go_wp2_with fail;refine (cutLite_any l w hl).mono ?_;rintro e w' ⟨rfl, hb⟩
 (generalize hgena : eqName l = a at *;have Ha := Lib.hid hgena;clear hgena)
 (generalize hgenb : eqArg l = b at *;have Hb := Lib.hid hgenb;clear hgenb)
 (generalize hgenc : decide (0 ≤ Lib.indexByte l 61) = c at *;have Hc := Lib.hid hgenc;clear hgenc)
 go_wp2;go_ret3
 exact ⟨by rw [Ha.out, Hb.out, Hc.out];rfl, hb⟩
theorem unquote_any (l : Bytes) (w : World) (hl : l.length ≤ 1099511627776) :
  Calls Tryz.prog 143 #[S l] w fun e w' => e = .returned (.tuple #[S (unquote l).1, .bool (unquote l).2]) ∧ Below w.heap.size w w' := by
 by_cases h2 : l.length < 2
 ·have HU : Hid (unquote l = ([], false)) := by
   show _ = _
   unfold unquote;exact unq_end [] l 1 (by omega)
  go_enter Tryz.func143, Tryz.ntmps143
  go_wp2;go_ret2;exact ⟨by rw [HU.out];rfl, Below.refl _ _⟩
 have HU : Hid (unquote l = unq [] (l.drop 1)) := rfl;go_enter Tryz.func143, Tryz.ntmps143
 go_wp2
 go_loopw [4, 5] (fun v i wr => ∃ (k : Nat) (out : Bytes), i = .int .i64 k ∧ 1 ≤ k ∧ k ≤ l.length ∧ out.length ≤ k ∧ wr.ownsRow w.heap.size 5 1 v out.length (out.map B8) ∧ Hid (unquote l = unq out (l.drop k)) ∧ Below w.heap.size w wr) (fun _ i _ => l.length - (intOf i).toNat)
 case atStart => exact ⟨1, [], rfl, Nat.le_refl _, by omega, by simp, World.ownsRow_nil _ _ _ _, HU, Below.refl _ _⟩
 case round =>
  clear HU;obtain ⟨k, out, rfl, hk1, hk, ho, hown, HU, hbel⟩ := hrel;by_cases hlt : k < l.length
  ·by_cases c34 : l[k] = 34
   ·have g34 : ((l[k].toNat : Int) == 34) = true := u8_eq c34
    have HQ := Lib.hid (unq_quote out l k hlt c34);have hc := run_string_own (P := Tryz.prog) wr 124 9 5 w.heap.size u4 out Tryz.underlying124 Tryz.underlying5 Tryz.underlying9 hown;clear c34;by_cases he : k + 1 = l.length
    ·have ge : ((k : Int) == (l.length : Int) - 1) = true := by rw [beq_iff_eq];omega
     have HE := Lib.hid he;clear he;go_wp2;go_ret2;exact ⟨by rw [HU.out, HQ.out, decide_eq_true HE.out];rfl, hbel⟩
    ·have ge : ((k : Int) == (l.length : Int) - 1) = false := by rw [beq_eq_false_iff_ne];omega
     have HE := Lib.hid he;clear he;go_wp2;go_ret2;exact ⟨by rw [HU.out, HQ.out, decide_eq_false HE.out];rfl, hbel⟩
   ·have g34 : ((l[k].toNat : Int) == 34) = false := u8_ne c34
    by_cases c92 : l[k] = 92
    ·have g92 : ((l[k].toNat : Int) == 92) = true := u8_eq c92
     by_cases he : k + 1 = l.length
     ·have HQ := Lib.hid (unq_last out l k hlt c92 he)
      have ge : ((k : Int) + 1 == (l.length : Int)) = true := (by rw [← he];simp);clear c34 c92 he;go_wp2;go_ret2;exact ⟨by rw [HU.out, HQ.out];rfl, hbel⟩
     ·have hlt2 : k + 1 < l.length := by omega
      have HQ := Lib.hid (unq_two out l k hlt2 c92);have ge : ((k : Int) + 1 == (l.length : Int)) = false := (by rw [beq_eq_false_iff_ne];omega);clear c34 c92 he;go_wp2_with (at_builtin;refine wpList_app1 rfl _ _ 124 rfl w.heap.size (.int .u8 0) 1 Tryz.underlying124 (by kernel_rfl) rfl rfl _ _ _ rfl hown rfl (by omega) (by decide) hbel.size ?_;intro a' c' w' hown' hb' hz')
      go_roundw
      case rel => exact ⟨k + 1 + 1, out ++ [l[k + 1]], by go_num, by omega, by omega, by simp;omega, by simpa using hown', by show _ = _;rw [HU.out, HQ.out], hbel.trans hb'⟩
      case measure => simp [intOf];omega
    ·have g92 : ((l[k].toNat : Int) == 92) = false := u8_ne c92
     have HQ := Lib.hid (unq_one out l k hlt c34 c92);clear c34 c92;go_wp2_with (at_builtin;refine wpList_app1 rfl _ _ 124 rfl w.heap.size (.int .u8 0) 1 Tryz.underlying124 (by kernel_rfl) rfl rfl _ _ _ rfl hown rfl (by omega) (by decide) hbel.size ?_;intro a' c' w' hown' hb' hz')
     go_roundw
     case rel => exact ⟨k + 1, out ++ [l[k]], by go_num, by omega, by omega, by simp;omega, by simpa using hown', by show _ = _;rw [HU.out, HQ.out], hbel.trans hb'⟩
     case measure => simp [intOf];omega
  ·have HQ := Lib.hid (unq_end out l k (by omega))
   go_wp2;go_ret2;exact ⟨by rw [HU.out, HQ.out];rfl, hbel⟩
open Go.RowKit Go.Dr
theorem eqName_length (l : Bytes) : (eqName l).length ≤ l.length := List.Sublist.length_le (List.takeWhile_sublist _)
theorem eqArg_length (l : Bytes) : (eqArg l).length ≤ l.length := by
 have := List.Sublist.length_le (List.dropWhile_sublist (fun c : UInt8 => c != 61) (l := l))
 simp only [eqArg, List.length_drop];omega
theorem Directive_any (l : Bytes) (w : World) (hl : l.length ≤ 1099511627776) :
  Calls Tryz.prog 119 #[S l] w fun e w' => e = .returned (.tuple #[S (directive l).1, S (directive l).2.1, .bool (directive l).2.2]) ∧ Below w.heap.size w w' := by
 have HD := Lib.hid (directive.eq_1 l);have l1 := eqName_length l;have l2 := eqArg_length l;go_enter Tryz.func119, Tryz.ntmps119
 go_wp2_with fail;refine (Cut_any l w (by unfold maxLen;omega)).mono ?_;rintro e w1 ⟨rfl, hb1⟩
 (generalize hgena : eqName l = a at *;have Ha := Lib.hid hgena;clear hgena)
 (generalize hgenb : eqArg l = b at *;have Hb := Lib.hid hgenb;clear hgenb)
 (generalize hgenc : decide (0 ≤ Lib.indexByte l 61) = c at *;have Hc := Lib.hid hgenc;clear hgenc)
 by_cases ht : token a = true
 ·have HT := Lib.hid ht
  clear ht;go_wp2_with fail;refine (Token_any a _ (by unfold maxLen;omega)).mono ?_;rintro e w' ⟨rfl, rfl⟩;rw [HT.out];by_cases hp : Lib.hasPrefix b [34] = true
  ·have HP := Lib.hid hp
   clear hp;go_wp2_with fail;refine (HasPrefix_at b [34] _).mono ?_;rintro e w' ⟨rfl, rfl⟩;rw [HP.out];go_wp2_with fail;refine (unquote_any b _ (by omega)).mono ?_;rintro e w2 ⟨rfl, hb2⟩;by_cases hu : (unquote b).2 = true
   ·have HU := Lib.hid hu
    clear hu;rw [HU.out]
    (generalize hgenu : (unquote b).1 = u at *;have Hu := Lib.hid hgenu;clear hgenu)
    go_wp2_with fail;refine (Lower_any a _ (by unfold maxLen;omega)).mono ?_;rintro e w3 ⟨rfl, hb3⟩;go_wp2;go_ret3
    exact ⟨by rw [HD.out];simp [HT.out, HP.out, HU.out], Bl.tr (Bl.tr hb1 hb2) hb3⟩
   ·have hu' : (unquote b).2 = false := by simpa using hu
    have HU := Lib.hid hu';clear hu hu';rw [HU.out]
    (generalize hgenu : (unquote b).1 = u at *;have Hu := Lib.hid hgenu;clear hgenu)
    go_wp2;go_ret3
    exact ⟨by rw [HD.out];simp [HT.out, HP.out, HU.out], Bl.tr hb1 hb2⟩
  ·have hp' : Lib.hasPrefix b [34] = false := by simpa using hp
   have HP := Lib.hid hp';clear hp hp';go_wp2_with fail;refine (HasPrefix_at b [34] _).mono ?_;rintro e w' ⟨rfl, rfl⟩;rw [HP.out];go_wp2_with fail;refine (Lower_any a _ (by unfold maxLen;omega)).mono ?_;rintro e w3 ⟨rfl, hb3⟩;go_wp2;go_ret3
   exact ⟨by rw [HD.out];simp [HT.out, HP.out], Bl.tr hb1 hb3⟩
 ·have ht' : token a = false := by simpa using ht
  have HT := Lib.hid ht';clear ht ht';go_wp2_with fail;refine (Token_any a _ (by unfold maxLen;omega)).mono ?_;rintro e w' ⟨rfl, rfl⟩;rw [HT.out];go_wp2;go_ret3
  exact ⟨by rw [HD.out];simp [HT.out], hb1⟩
theorem numArg_any (a : Bytes) (w : World) (hl : a.length ≤ maxLen) :
  Calls Tryz.prog 121 #[S a] w fun e w' => e = .returned (.int .i64 (numArg a : Nat)) ∧ w = w' := by
 have HN := Lib.hid (numArg.eq_1 a);go_enter Tryz.func121, Tryz.ntmps121
 go_wp2_with fail;refine (Decimal_any a w hl).mono ?_;rintro e w' ⟨rfl, rfl⟩;by_cases h : (number 10 a).2 = 11
 ·(generalize hgenx : (number 10 a).1 = x at *;have Hx := Lib.hid hgenx;clear hgenx)
  rw [h] at *;clear h;go_wp2;go_ret;exact ⟨ret_int (by rw [HN.out];rfl), rfl⟩
 ·have h1 : (((number 10 a).2 : Int) == 11) = false := by rw [beq_eq_false_iff_ne];omega
  have HH := Lib.hid h;clear h
  (generalize hgenx : (number 10 a).1 = x at *;have Hx := Lib.hid hgenx;clear hgenx)
  (generalize hgeny : (number 10 a).2 = y at *;have Hy := Lib.hid hgeny;clear hgeny)
  go_wp2;go_ret;exact ⟨ret_int (by rw [HN.out, if_neg HH.out]), rfl⟩
theorem least_any (a n : Int) (w : World) (h : -1 ≤ a) (h2 : a ≤ 1099511627776) (hn0 : 0 ≤ n) (hn : n ≤ 1099511627776) :
  Calls Tryz.prog 120 #[.int .i64 a, .int .i64 n] w fun e w' => e = .returned (.int .i64 (least a n)) ∧ w = w' := by
 have HL := Lib.hid (least.eq_1 a n);go_enter Tryz.func120, Tryz.ntmps120
 go_wp2
 all_goals
  go_ret;exact ⟨ret_int (by (rw [HL.out]) <;> (try simp only [Int.min_def]) <;> (repeat' split) <;> omega), rfl⟩
theorem most_any (a n : Int) (w : World) (h : -1 ≤ a) (h2 : a ≤ 1099511627776) (hn0 : 0 ≤ n) (hn : n ≤ 1099511627776) :
  Calls Tryz.prog 117 #[.int .i64 a, .int .i64 n] w fun e w' => e = .returned (.int .i64 (most a n)) ∧ w = w' := by
 have HL := Lib.hid (most.eq_1 a n);go_enter Tryz.func117, Tryz.ntmps117
 go_wp2
 all_goals
  go_ret;exact ⟨ret_int (by (rw [HL.out]) <;> (try simp only [Int.max_def]) <;> (repeat' split) <;> omega), rfl⟩
theorem countLeast_any (a n : Int) (b k : Nat) (w : World) (h : -1 ≤ a) (h2 : a ≤ 1099511627776) (hn0 : 0 ≤ n) (hn : n ≤ 1099511627776) (hc : w.cell? ⟨b, k, none⟩ = some (.int .i64 a)) (hf : w.frozen? ⟨b, k, none⟩ = false) :
  Calls Tryz.prog 118 #[.pointer (some ⟨b, k, none⟩), .func (.func 120) #[] #[], .int .i64 n] w fun e w' => e = .returned (.tuple #[]) ∧ w' = w.setCell ⟨b, k, none⟩ (.int .i64 (least a n)) := by
 go_enter Tryz.func118, Tryz.ntmps118
 go_wp2_with (go_at_call 120;refine (least_any a n w h h2 hn0 hn).mono ?_;rintro e w' ⟨rfl, rfl⟩)
 go_end0
 exact ⟨rfl, rfl⟩
theorem countMost_any (a n : Int) (b k : Nat) (w : World) (h : -1 ≤ a) (h2 : a ≤ 1099511627776) (hn0 : 0 ≤ n) (hn : n ≤ 1099511627776) (hc : w.cell? ⟨b, k, none⟩ = some (.int .i64 a)) (hf : w.frozen? ⟨b, k, none⟩ = false) :
  Calls Tryz.prog 118 #[.pointer (some ⟨b, k, none⟩), .func (.func 117) #[] #[], .int .i64 n] w fun e w' => e = .returned (.tuple #[]) ∧ w' = w.setCell ⟨b, k, none⟩ (.int .i64 (most a n)) := by
 go_enter Tryz.func118, Tryz.ntmps118
 go_wp2_with (go_at_call 117;refine (most_any a n w h h2 hn0 hn).mono ?_;rintro e w' ⟨rfl, rfl⟩)
 go_end0
 exact ⟨rfl, rfl⟩
open Go.RowKit Go.Dr
theorem refElements_any (l : Bytes) (w : World) (hl : l.length ≤ 1099511627776) :
  Calls Tryz.prog 81 #[S l] w (RetSs 9 w (elems l)) := by
 go_enter Tryz.func81, Tryz.ntmps81
 go_wp2
 go_loopw [3, 4, 5] (fun v vs i wr => ∃ (k : Nat) (out : List Bytes) (s : Bytes), i = .int .i64 k ∧ vs = S s ∧ k ≤ l.length + 1 ∧ s.length ≤ k ∧ out.length ≤ k ∧ wr.ownsRow w.heap.size 9 1 v out.length (out.map S) ∧ Hid (elTail l out s k = elems l) ∧ Below w.heap.size w wr) (fun _ _ i _ => l.length + 1 - (intOf i).toNat)
 case atStart => exact ⟨0, [], [], rfl, rfl, Nat.zero_le _, Nat.zero_le _, Nat.zero_le _, World.ownsRow_nil _ _ _ _, elTail_zero l, Below.refl _ _⟩
 case round =>
  obtain ⟨k, out, s, rfl, rfl, hk, hs, ho, hown, HT, hbel⟩ := hrel;by_cases hle : k ≤ l.length
  ·by_cases hput : ∀ h : k < l.length, l[k] = 44
   ·have HP := Lib.hid (elTail_put l out s k hle hput)
    have HR : Hid (elTail l (out ++ fin s) [] (k + 1) = elems l) := (by show _ = _;rw [HP.out, HT.out]);have htl := trim_length s;by_cases htr : trim s = []
    ·have HF := Lib.hid (fin_nil s htr)
     by_cases hlt : k < l.length
     ·have h1 : ((k : Int) == (l.length : Int)) = false := i_ne (Nat.ne_of_lt hlt)
      have h2 : ((l[k].toNat : Int) == 44) = true := u8_eq (hput hlt);clear hput;go_wp2_with (go_at_call 114;refine (refTrim_any _ _ (by unfold maxLen;omega)).mono ?_;rintro e w' ⟨rfl, rfl⟩)
      go_roundw
      case rel => exact ⟨k + 1, out, [], by go_num, rfl, by omega, by simp, by omega, hown, by rw [HF.out, List.append_nil] at HR;exact HR, hbel⟩
      case measure => simp [intOf];omega
     ·have h1 : ((k : Int) == (l.length : Int)) = true := i_eq (Nat.le_antisymm hle (Nat.not_lt.1 hlt))
      clear hput;go_wp2_with (go_at_call 114;refine (refTrim_any _ _ (by unfold maxLen;omega)).mono ?_;rintro e w' ⟨rfl, rfl⟩)
      go_roundw
      case rel => exact ⟨k + 1, out, [], by go_num, rfl, by omega, by simp, by omega, hown, by rw [HF.out, List.append_nil] at HR;exact HR, hbel⟩
      case measure => simp [intOf];omega
    ·have HF := Lib.hid (fin_one s htr)
     have hI : (!(trim s).isEmpty) = true := (by simpa using htr);clear htr;by_cases hlt : k < l.length
     ·have h1 : ((k : Int) == (l.length : Int)) = false := i_ne (Nat.ne_of_lt hlt)
      have h2 : ((l[k].toNat : Int) == 44) = true := u8_eq (hput hlt);clear hput;go_wp2_with (first | (at_builtin;refine wpList_app1 rfl _ _ 44 rfl w.heap.size (.string ByteArray.empty) 16 Tryz.underlying44 (by kernel_rfl) rfl rfl _ _ _ rfl hown rfl (by omega) (by decide) hbel.size ?_;intro a' c' w' hown' hb' hz') | (go_at_call 114;refine (refTrim_any _ _ (by unfold maxLen;omega)).mono ?_;rintro e w' ⟨rfl, rfl⟩))
      go_roundw
      case rel => exact ⟨k + 1, out ++ [trim s], [], by go_num, rfl, by omega, by simp, by simp;omega, by simpa using hown', by rw [HF.out] at HR;exact HR, hbel.trans hb'⟩
      case measure => simp [intOf];omega
     ·have h1 : ((k : Int) == (l.length : Int)) = true := i_eq (Nat.le_antisymm hle (Nat.not_lt.1 hlt))
      clear hput;go_wp2_with (first | (at_builtin;refine wpList_app1 rfl _ _ 44 rfl w.heap.size (.string ByteArray.empty) 16 Tryz.underlying44 (by kernel_rfl) rfl rfl _ _ _ rfl hown rfl (by omega) (by decide) hbel.size ?_;intro a' c' w' hown' hb' hz') | (go_at_call 114;refine (refTrim_any _ _ (by unfold maxLen;omega)).mono ?_;rintro e w' ⟨rfl, rfl⟩))
      go_roundw
      case rel => exact ⟨k + 1, out ++ [trim s], [], by go_num, rfl, by omega, by simp, by simp;omega, by simpa using hown', by rw [HF.out] at HR;exact HR, hbel.trans hb'⟩
      case measure => simp [intOf];omega
   ·have hlt : k < l.length := by
     rcases Nat.lt_or_ge k l.length with h | h
     ·exact h
     ·exact absurd (fun h' => absurd h' (Nat.not_lt.2 h)) hput
    have hne : ((k : Int) == (l.length : Int)) = false := i_ne (Nat.ne_of_lt hlt);have h44 : l[k] ≠ 44 := fun e => hput fun _ => e
    have h44' : ((l[k].toNat : Int) == 44) = false := u8_ne h44
    have HD := Lib.hid (drop_take_one l k hlt);by_cases h34 : l[k] = 34
    ·have h34n : ((l[k].toNat : Int) != 34) = false := u8_eb h34
     have HQ := Lib.hid (el_quote false s l k hlt h34)
     have HT2 : Hid (out ++ el true false (s ++ [l[k]]) (l.drop (k + 1)) = elems l) := by
      show _ = _
      have := HT.out
      unfold elTail at this;rw [if_pos hle, HQ.out] at this;exact this
     clear h34 h44 hput HQ;go_wp2;rw [HD.out]
     go_loop [4, 5] (fun vs i => ∃ (j : Nat) (s : Bytes), i = .int .i64 j ∧ vs = S s ∧ k ≤ j ∧ j < l.length ∧ s.length ≤ j + 1 ∧ Hid (out ++ el true false s (l.drop (j + 1)) = elems l)) (fun _ i => l.length - (intOf i).toNat)
     case atStart => exact ⟨k, _, rfl, rfl, Nat.le_refl _, hlt, by simp;omega, HT2⟩
     case round =>
      obtain ⟨j, s, rfl, rfl, hkj, hj, hs, HT3⟩ := hrel;by_cases hj1 : j + 1 < l.length
      ·have HD1 := Lib.hid (drop_take_one l (j + 1) hj1)
       by_cases g34 : l[j + 1] = 34
       ·have g34' : ((l[j + 1].toNat : Int) == 34) = true := u8_eq g34
        have HR : Hid (elTail l out (s ++ [l[j + 1]]) (j + 1 + 1) = elems l) := (by show _ = _;rw [el_quoted_out out l s j hj1 g34, HT3.out]);clear g34;go_wp2
        go_roundw
        case rel => exact ⟨j + 1 + 1, out, s ++ [l[j + 1]], by go_num, by rw [HD1.out], by omega, by simp;omega, by omega, hown, HR, hbel⟩
        case measure => simp [intOf];omega
       ·have g34' : ((l[j + 1].toNat : Int) == 34) = false := u8_ne g34
        by_cases g92 : l[j + 1] = 92
        ·have g92' : ((l[j + 1].toNat : Int) == 92) = true := u8_eq g92
         by_cases hj2 : j + 1 + 1 < l.length
         ·have HD2 := Lib.hid (drop_take_one l (j + 1 + 1) hj2)
          have HR := Lib.hid ((el_quoted_two out l s j hj2 g92).trans HT3.out);clear g34 g92;go_wp2;go_round
          case rel => exact ⟨j + 1 + 1, _, by go_num, by rw [HD1.out, HD2.out];simp, by omega, by omega, by simp;omega, HR⟩
          case measure => simp [intOf];omega
         ·have HR := Lib.hid ((el_quoted_last out l s j hj1 hj2 g92).trans HT3.out)
          clear g34 g92;go_wp2;go_round
          case rel => exact ⟨j + 1, _, by go_num, by rw [HD1.out], by omega, by omega, by simp;omega, HR⟩
          case measure => simp [intOf];omega
        ·have g92' : ((l[j + 1].toNat : Int) == 92) = false := u8_ne g92
         have HR := Lib.hid ((el_quoted_on out l s j hj1 g34 g92).trans HT3.out);clear g34 g92;go_wp2;go_round
         case rel => exact ⟨j + 1, _, by go_num, by rw [HD1.out], by omega, by omega, by simp;omega, HR⟩
         case measure => simp [intOf];omega
      ·have HR : Hid (elTail l out s (j + 1) = elems l) := by show _ = _;rw [el_quoted_end out l s j (by omega), HT3.out]
       go_wp2
       go_roundw
       case rel => exact ⟨j + 1, out, s, by go_num, rfl, by omega, by omega, by omega, hown, HR, hbel⟩
       case measure => simp [intOf];omega
    ·have h34n : ((l[k].toNat : Int) != 34) = true := u8_nb h34
     have HP := Lib.hid (elTail_plain l out s k hlt h34 h44);have HR : Hid (elTail l out (s ++ [l[k]]) (k + 1) = elems l) := (by show _ = _;rw [HP.out, HT.out]);clear h34 h44 hput;go_wp2
     go_roundw
     case rel => exact ⟨k + 1, out, s ++ [l[k]], by go_num, by rw [HD.out], by omega, by simp;omega, by omega, hown, HR, hbel⟩
     case measure => simp [intOf];omega
  ·have hk' : k = l.length + 1 := by omega
   have HE : Hid (out = elems l) := by
    have := HT.out
    unfold elTail at this;rwa [if_neg hle] at this
   clear HT;have hown : wr.ownsRow w.heap.size 9 1 u3 (elems l).length ((elems l).map S) := (by rw [← HE.out];exact hown);go_wp2;go_ret;exact ⟨_, rfl, hown, hbel⟩
open Go.RowKit Go.Dr
def PutPost (b0 B bV bF bO : Nat) (l : Bytes) (to : Nat) (out : List Bytes) (w : World) (e : Ending) (w' : World) : Prop :=
 ∃ vo, e = .returned (.tuple #[]) ∧ One w' bV 9 (S l) ∧ One w' bF 3 (.int .i64 ((to : Int) + 1)) ∧ One w' bO 44 vo ∧ w'.ownsRow B 9 1 vo out.length (out.map S) ∧ Below b0 w w'
theorem put_any (b0 B bV bF bO : Nat) (l : Bytes) (fr to : Nat) (out : List Bytes) (vo : Value) (w : World)
  (hV : One w bV 9 (S l)) (hF : One w bF 3 (.int .i64 fr)) (hO : One w bO 44 vo) (hown : w.ownsRow B 9 1 vo out.length (out.map S))
  (h1 : b0 ≤ bV) (h2 : b0 ≤ bF) (h3 : b0 ≤ bO) (g1 : bV < B) (g2 : bF < B) (g3 : bO < B) (n1 : bV ≠ bF) (n2 : bV ≠ bO) (n3 : bF ≠ bO) (hB : B ≤ w.heap.size)
  (s : Bytes) (hs : (l.take to).drop fr = s) (hft : fr ≤ to) (htl : to ≤ l.length) (hl : l.length ≤ 1099511627776) (ho : out.length ≤ 1099511627776) :
  Calls Tryz.prog 138 #[.int .i64 to, .pointer (some ⟨bV, 0, none⟩), .pointer (some ⟨bF, 0, none⟩), .pointer (some ⟨bO, 0, none⟩)] w (PutPost b0 B bV bF bO l to (out ++ fin s) w) := by
 have cV := hV.cell;have cF := hF.cell;have HS := Lib.hid hs;clear hs;go_enter Tryz.func138, Tryz.ntmps138
 go_wp2_with fail;refine (Trim_any _ _ (by unfold maxLen;simp;omega)).mono ?_;rintro e w1 ⟨rfl, hb1⟩;have hV1 := hV.below hb1 hV.lt;have hF1 := hF.below hb1 hF.lt;have hO1 := hO.below hb1 hO.lt;have hown1 := own_below hown hb1;have hB1 : B ≤ w1.heap.size := Nat.le_trans hB hb1.size;have hz1 := hb1.size;have hb1' : Below b0 w w1 := hb1.mono (by omega)
 clear cV cF hV hF hO hown hb1 hB;rw [HS.out];have cO := hO1.cell;have fO := hO1.free;have fF := hF1.free;have cF := hF1.cell;by_cases ht : trim s = []
 ·have HF := Lib.hid (fin_nil s ht)
  go_wp2;go_end0
  exact ⟨vo, rfl, hV1.other n1 _, hF1.set _, hO1.other (Ne.symm n3) _, by rw [HF.out, List.append_nil];exact ownsRow_setCell_below hown1 g2 _, hb1'.setCell h2 _⟩
 ·have HF := Lib.hid (fin_one s ht)
  have hI : (!(trim s).isEmpty) = true := (by simpa using ht);clear ht;go_wp2_with (at_builtin;refine wpList_app1 rfl _ _ 44 rfl B (.string ByteArray.empty) 16 Tryz.underlying44 (by kernel_rfl) rfl rfl _ _ _ rfl hown1 rfl (by omega) (by decide) hB1 ?_;intro a' c' w2 hown2 hb2 hz2;have cO2 := (hO1.below hb2 g3).cell;have fO2 := (hO1.below hb2 g3).free;have cF2 := (hF1.below hb2 g2).cell;have fF2 := (hF1.below hb2 g2).free)
  go_end0
  exact ⟨_, rfl, ((hV1.below hb2 g1).other n2 _).other n1 _, ((hF1.below hb2 g2).other n3 _).set _, ((hO1.below hb2 g3).set _).other (Ne.symm n3) _,
   by rw [HF.out];simpa using ownsRow_setCell_below (ownsRow_setCell_below hown2 g3 _) g2 _, ((hb1'.trans (hb2.mono (by omega))).setCell h3 _).setCell h2 _⟩
def ElR (l : Bytes) (w : World) (vq vt vi : Value) (wr : World) : Prop :=
 ∃ (k fr : Nat) (out : List Bytes) (vo : Value) (q t : Bool), vi = .int .i64 k ∧ vq = .bool q ∧ vt = .bool t ∧ k ≤ l.length ∧ fr ≤ k ∧ out.length ≤ fr ∧
  One wr w.heap.size 9 (S l) ∧ One wr (w.heap.size + 1 + 1) 3 (.int .i64 fr) ∧ One wr (w.heap.size + 1) 44 vo ∧ wr.ownsRow (w.heap.size + 3) 9 1 vo out.length (out.map S) ∧
  out ++ el q t ((l.take k).drop fr) (l.drop k) = elems l ∧ Below w.heap.size w wr ∧ w.heap.size + 3 ≤ wr.heap.size
theorem Elements_any (l : Bytes) (w : World) (hl : l.length ≤ 1099511627776) :
  Calls Tryz.prog 115 #[S l] w (RetSs 9 w (elems l)) := by
 have hmf : ∀ (fn : Fn) (first cap : Array Value) (w : World), (Instr.makeFunc fn first cap).run Tryz.prog w = .ok (.func fn first cap) w := fun _ _ _ _ => rfl
 go_enter Tryz.func115, Tryz.ntmps115
 go_wp2
 go_loopw [5, 6, 13] (ElR l w) (fun _ _ i _ => l.length - (intOf i).toNat)
 case atStart =>
  have h2 := (One.new (w.alloc (.cells #[S l] 9)) 44 (.slice none 0 0)).alloc (.cells #[.int .i64 0] 3);have h3 := One.new ((w.alloc (.cells #[S l] 9)).alloc (.cells #[.slice none 0 0] 44)) 3 (.int .i64 0)
  exact ⟨0, 0, [], .slice none 0 0, false, false, rfl, rfl, rfl, Nat.zero_le _, Nat.le_refl _, Nat.le_refl _, ((One.new w _ _).alloc _).alloc _, by simpa using h3, by simpa using h2,
   World.ownsRow_nil _ _ _ _, rfl, (((Below.refl _ _).alloc (Nat.le_refl _) _).alloc (by simp) _).alloc (by simp;omega) _, by simp⟩
 case round =>
  obtain ⟨k, fr, out, vo, q, t, rfl, rfl, rfl, hk, hf, ho, hV, hF, hO, hown, hT, hbel, hsz⟩ := hrel;have HT := Lib.hid hT;clear hT;have cV := hV.cell;by_cases hlt : k < l.length
  ·have HP := Lib.hid (piece_snoc l fr k hlt hf)
   cases t
   ·by_cases c92 : l[k] = 92
    ·have g92 : ((l[k].toNat : Int) == 92) = true := u8_eq c92
     have g34 : ((l[k].toNat : Int) == 34) = false := (by rw [c92];rfl);have g44 : ((l[k].toNat : Int) == 44) = false := (by rw [c92];rfl)
     cases q
     ·have HN : Hid (out ++ el false false ((l.take k).drop fr ++ [l[k]]) (l.drop (k + 1)) = elems l) := by show _ = _;rw [← el_plain false _ l k hlt (by simp) (by rw [c92];decide) (fun _ => by rw [c92];decide), HT.out]
      clear c92;go_wp2
      go_roundw
      case rel => exact ⟨k + 1, fr, out, vo, false, false, by go_num, rfl, rfl, by omega, by omega, ho, hV, hF, hO, hown, by rw [HP.out];exact HN.out, hbel, hsz⟩
      case measure => simp [intOf];omega
     ·have HN : Hid (out ++ el true true ((l.take k).drop fr ++ [l[k]]) (l.drop (k + 1)) = elems l) := by show _ = _;rw [← el_stroke _ l k hlt c92, HT.out]
      clear c92;go_wp2
      go_roundw
      case rel => exact ⟨k + 1, fr, out, vo, true, true, by go_num, rfl, rfl, by omega, by omega, ho, hV, hF, hO, hown, by rw [HP.out];exact HN.out, hbel, hsz⟩
      case measure => simp [intOf];omega
    ·have g92 : ((l[k].toNat : Int) == 92) = false := u8_ne c92
     by_cases c34 : l[k] = 34
     ·have g34 : ((l[k].toNat : Int) == 34) = true := u8_eq c34
      have HN : Hid (out ++ el (!q) false ((l.take k).drop fr ++ [l[k]]) (l.drop (k + 1)) = elems l) := (by show _ = _;rw [← el_quote q _ l k hlt c34, HT.out]);clear c34 c92
      cases q
      all_goals
       go_wp2
       go_roundw
       case rel => exact ⟨k + 1, fr, out, vo, _, false, by go_num, rfl, rfl, by omega, by omega, ho, hV, hF, hO, hown, by rw [HP.out];exact HN.out, hbel, hsz⟩
       case measure => simp [intOf];omega
     ·have g34 : ((l[k].toNat : Int) == 34) = false := u8_ne c34
      by_cases c44 : l[k] = 44 ∧ q = false
      ·obtain ⟨c44, rfl⟩ := c44
       have g44 : ((l[k].toNat : Int) == 44) = true := u8_eq c44;have HN : Hid ((out ++ fin ((l.take k).drop fr)) ++ el false false [] (l.drop (k + 1)) = elems l) := (by show _ = _;rw [List.append_assoc, ← el_comma _ l k hlt c44, HT.out]);clear c44 c34 c92;have hsp : (fin ((l.take k).drop fr)).length ≤ 1 := (by unfold fin;split <;> simp);go_wp2_with (go_at_call 138;refine (put_any w.heap.size (w.heap.size + 3) _ _ _ l fr k out vo _ hV hF hO hown (by omega) (by omega) (by omega) (by omega) (by omega) (by omega) (by omega) (by omega) (by omega) hsz _ rfl hf hk hl (by omega)).mono ?_;rintro e w2 ⟨vo2, rfl, hV2, hF2, hO2, hown2, hb2⟩)
       go_roundw
       case rel => exact ⟨k + 1, k + 1, _, vo2, false, false, by go_num, rfl, rfl, by omega, by omega, by simp;omega, hV2, by simpa using hF2, hO2, hown2, by rw [piece_none];exact HN.out, hbel.trans hb2, by have := hV2.lt;have := hb2.size;omega⟩
       case measure => simp [intOf];omega
      ·have HN : Hid (out ++ el q false ((l.take k).drop fr ++ [l[k]]) (l.drop (k + 1)) = elems l) := by
        show _ = _
        rw [← el_plain q _ l k hlt (fun _ => c92) c34 (fun hq h => c44 ⟨h, hq⟩), HT.out]
       have g44 : q = false → ((l[k].toNat : Int) == 44) = false := fun hq => u8_ne fun h => c44 ⟨h, hq⟩
       clear c44 c34 c92
       cases q
       ·have g44 := g44 rfl
        go_wp2
        go_roundw
        case rel => exact ⟨k + 1, fr, out, vo, _, false, by go_num, rfl, rfl, by omega, by omega, ho, hV, hF, hO, hown, by rw [HP.out];exact HN.out, hbel, hsz⟩
        case measure => simp [intOf];omega
       ·clear g44
        by_cases c44 : l[k] = 44
        ·have g44 : ((l[k].toNat : Int) == 44) = true := u8_eq c44
         clear c44;go_wp2
         go_roundw
         case rel => exact ⟨k + 1, fr, out, vo, _, false, by go_num, rfl, rfl, by omega, by omega, ho, hV, hF, hO, hown, by rw [HP.out];exact HN.out, hbel, hsz⟩
         case measure => simp [intOf];omega
        ·have g44 : ((l[k].toNat : Int) == 44) = false := u8_ne c44
         clear c44;go_wp2
         go_roundw
         case rel => exact ⟨k + 1, fr, out, vo, _, false, by go_num, rfl, rfl, by omega, by omega, ho, hV, hF, hO, hown, by rw [HP.out];exact HN.out, hbel, hsz⟩
         case measure => simp [intOf];omega
   ·have HN : Hid (out ++ el q false ((l.take k).drop fr ++ [l[k]]) (l.drop (k + 1)) = elems l) := by show _ = _;rw [← el_taken q _ l k hlt, HT.out]
    go_wp2
    go_roundw
    case rel => exact ⟨k + 1, fr, out, vo, _, false, by go_num, rfl, rfl, by omega, by omega, ho, hV, hF, hO, hown, by rw [HP.out];exact HN.out, hbel, hsz⟩
    case measure => simp [intOf];omega
  ·have hk' : k = l.length := by omega
   subst hk';have cF := hF.cell
   have HE : Hid (out ++ fin ((l.take l.length).drop fr) = elems l) := by
    show _ = _
    rw [← HT.out, el_end _ _ _ _ _ (Nat.le_refl _)]
   go_wp2_with fail;refine (put_any w.heap.size (w.heap.size + 3) _ _ _ l fr l.length out vo _ hV hF hO hown (by omega) (by omega) (by omega) (by omega) (by omega) (by omega) (by omega) (by omega) (by omega) hsz _ rfl hf (Nat.le_refl _) hl (by omega)).mono ?_;rintro e w2 ⟨vo2, rfl, hV2, hF2, hO2, hown2, hb2⟩;have cO := hO2.cell;rw [HE.out] at hown2;go_wp2;go_ret;exact ⟨_, rfl, own_base hown2 (by omega), hbel.trans hb2⟩
end Go.Proofs.YtahapblgmehngaaGreatDoor
