/- Parts of the proof of DealAsks_holds: the texts Rdt1 Rdt6 Rf18. -/
import Derived.Deep.RegionHeld3
import Derived.BigQuiet
import Derived.Test.YtahapblgmehngaaGreatDoorA1
import Derived.Test.YtahapblgmehngaaGreatDoorA7
import Derived.Test.YtahapblgmehngaaGreatDoorA4
import Derived.Test.YtahapblgmehngaaGreatDoorA5
import Derived.Test.YtahapblgmehngaaGreatDoorA8
import Derived.Test.YtahapblgmehngaaGreatDoorA10
import Derived.Test.YtahapblgmehngaaGreatDoorA16
import Derived.Test.YtahapblgmehngaaGreatDoorA15
set_option linter.unusedSimpArgs false
set_option linter.unusedVariables false
set_option linter.unnecessarySimpa false
namespace Go.Dr
theorem dig_a (c : UInt8) (h : 48 ≤ (c.toNat : Int)) : decide ((c.toNat : Int) ≤ 57) = isDig c := by
  unfold isDig
  by_cases h2 : (c.toNat : Int) ≤ 57
  · rw [decide_eq_true h2]; symm; simp; omega
  · rw [decide_eq_false h2]; symm; simp; omega
theorem dig_b (c : UInt8) (h : ¬ 48 ≤ (c.toNat : Int)) : false = isDig c := by
  unfold isDig
  symm; simp; omega
/-- A date as a value. -/
def Dt.cells (x : Dt) : Array Value := #[.int .i64 x.year, .int .i64 ((x.month : Int) + 1), .int .i64 x.day, .int .i64 x.hour, .int .i64 x.min, .int .i64 x.sec, .int .i64 x.week]
def Dt.val (x : Dt) : Value := .agg #[.int .i64 x.year, .int .i64 ((x.month : Int) + 1), .int .i64 x.day, .int .i64 x.hour, .int .i64 x.min, .int .i64 x.sec, .int .i64 x.week]
end Go.Dr
namespace Go.Proofs.YtahapblgmehngaaGreatDoor
open Go.RowKit Go.Dr

theorem refDigit_any (c : UInt8) (w : World) : Calls Tryz.prog 153 #[B8 c] w fun e w' => e = .returned (.bool (isDig c)) ∧ w = w' := by
  go_enter Tryz.func153, Tryz.ntmps153
  go_wp2
  all_goals
    go_ret
    first
      | exact ⟨ret_bool (dig_a c (by omega)), rfl⟩
      | exact ⟨ret_bool (dig_b c (by omega)), rfl⟩

end Go.Proofs.YtahapblgmehngaaGreatDoor

namespace Go.Dr
theorem Ss.get {B : Nat} {w : World} {a : Option Addr} {n cap : Nat} {l : List Bytes} (h : Ss B w (.slice a n cap) l) (k : Nat) (x : Bytes) (hx : l[k]? = some x) : ∃ b off, a = some ⟨b, off, none⟩ ∧ b < B ∧ w.cell? ⟨b, off + k, none⟩ = some (S x) := by
  obtain ⟨hk, e⟩ := List.getElem?_eq_some_iff.1 hx
  obtain ⟨b, off, h1, h2, h3⟩ := h.at k hk
  exact ⟨b, off, h1, h2, by rw [h3, e]⟩
end Go.Dr
namespace Go.Proofs.YtahapblgmehngaaGreatDoor
open Go.RowKit Go.Dr

end Go.Proofs.YtahapblgmehngaaGreatDoor

namespace Go.Dr
def worthN (c : UInt8) : Nat := if digitN c = 16 then 99 else digitN c
theorem worth_dig (c : UInt8) (h : isDig c = true) : (c.toNat : Int) - 48 = (worthN c : Nat) := by
  simp only [isDig, decide_eq_true_iff] at h
  have e : digitN c = c.toNat - 48 := by unfold digitN; rw [if_pos h]
  unfold worthN
  rw [e, if_neg (by omega)]; omega
theorem worth_low (c : UInt8) (h : isDig c = false) (h1 : 97 ≤ c.toNat) (h2 : c.toNat ≤ 102) : (c.toNat : Int) - 87 = (worthN c : Nat) := by
  simp only [isDig, decide_eq_false_iff_not] at h
  have e : digitN c = c.toNat - 87 := by unfold digitN; rw [if_neg h, if_pos ⟨h1, h2⟩]
  unfold worthN
  rw [e, if_neg (by omega)]; omega
theorem worth_up (c : UInt8) (h : isDig c = false) (h0 : ¬ (97 ≤ c.toNat ∧ c.toNat ≤ 102)) (h1 : 65 ≤ c.toNat) (h2 : c.toNat ≤ 70) : (c.toNat : Int) - 55 = (worthN c : Nat) := by
  simp only [isDig, decide_eq_false_iff_not] at h
  have e : digitN c = c.toNat - 55 := by unfold digitN; rw [if_neg h, if_neg h0, if_pos ⟨h1, h2⟩]
  unfold worthN
  rw [e, if_neg (by omega)]; omega
theorem worth_no (c : UInt8) (h : isDig c = false) (h0 : ¬ (97 ≤ c.toNat ∧ c.toNat ≤ 102)) (h1 : ¬ (65 ≤ c.toNat ∧ c.toNat ≤ 70)) : (99 : Int) = (worthN c : Nat) := by
  simp only [isDig, decide_eq_false_iff_not] at h
  have e : digitN c = 16 := by unfold digitN; rw [if_neg h, if_neg h0, if_neg h1]
  unfold worthN
  rw [e, if_pos rfl]; rfl
theorem worth_lt (c : UInt8) : worthN c < 10 ↔ digitN c < 10 := by
  unfold worthN; split <;> omega
theorem worth_eq (c : UInt8) (h : worthN c < 10) : worthN c = digitN c := by
  unfold worthN at h ⊢; split
  · rw [if_pos ‹_›] at h; omega
  · rfl
/-- How far the reference has read a number: n stands, k bytes are read. -/
def NumTo (l : Bytes) (k n : Nat) : Prop := (l.take k).all (fun c => decide (digitN c < 10)) = true ∧ ((n = numTo 10 (l.take k) ∧ n ≤ 10995116277775) ∨ (1099511627776 < n ∧ n ≤ 10995116277775 ∧ 1099511627776 < numTo 10 (l.take k)))
theorem NumTo.zero (l : Bytes) : NumTo l 0 0 := ⟨by simp, .inl ⟨by simp [numTo], by decide⟩⟩
theorem NumTo.le {l : Bytes} {k n : Nat} (h : NumTo l k n) : n ≤ 10995116277775 := by rcases h.2 with h | h <;> omega
theorem NumTo.all_snoc {l : Bytes} {k n : Nat} (h : NumTo l k n) (hk : k < l.length) (hc : worthN l[k] < 10) : (l.take (k + 1)).all (fun c => decide (digitN c < 10)) = true := by
  rw [take_snoc l k hk, List.all_append, h.1]
  simp [(worth_lt _).1 hc]
theorem NumTo.small {l : Bytes} {k n : Nat} (h : NumTo l k n) (hk : k < l.length) (hc : worthN l[k] < 10) (hn : n ≤ 1099511627776) : NumTo l (k + 1) (n * 10 + worthN l[k]) := by
  refine ⟨h.all_snoc hk hc, .inl ⟨?_, by omega⟩⟩
  rw [numTo_snoc 10 l k hk, worth_eq _ hc]
  rcases h.2 with e | e
  · rw [e.1]
  · omega
theorem NumTo.big {l : Bytes} {k n : Nat} (h : NumTo l k n) (hk : k < l.length) (hc : worthN l[k] < 10) (hn : ¬ n ≤ 1099511627776) : NumTo l (k + 1) n := by
  refine ⟨h.all_snoc hk hc, .inr ⟨by omega, h.le, ?_⟩⟩
  rw [numTo_snoc 10 l k hk]
  rcases h.2 with e | e
  · rw [← e.1]; omega
  · omega
theorem number_bad {l : Bytes} {k : Nat} (hk : k < l.length) (hc : ¬ worthN l[k] < 10) : number 10 l = (0, 10) := by
  have : ¬ digitN l[k] < 10 := fun e => hc ((worth_lt _).2 e)
  unfold number
  rw [if_pos]
  simp only [Bool.or_eq_true, Bool.not_eq_true', List.all_eq_false, decide_eq_true_iff]
  exact .inr ⟨l[k], List.getElem_mem hk, this⟩
theorem number_nil : number 10 [] = (0, 10) := by decide
theorem number_end {l : Bytes} {n : Nat} (h : NumTo l l.length n) (hl : 0 < l.length) : number 10 l = if n ≤ 1099511627776 then (n, 0) else (0, 11) := by
  have h1 := h.1
  rw [List.take_length] at h1
  have h2 := h.2
  rw [List.take_length] at h2
  unfold number greatest
  rw [if_neg (by rw [h1]; simp; intro e; subst e; simp at hl)]
  rcases h2 with e | e
  · rw [← e.1]
  · rw [if_neg (by omega), if_neg (by omega)]
end Go.Dr
namespace Go.Proofs.YtahapblgmehngaaGreatDoor
open Go.RowKit Go.Dr

set_option maxRecDepth 100000 in
theorem refWorth_any (c : UInt8) (w : World) : Calls Tryz.prog 136 #[B8 c] w fun e w' => e = .returned (.int .i64 (worthN c : Nat)) ∧ w = w' := by
  have D := Lib.hid (fun w => refDigit_any c w)
  have hc := c.toNat_lt
  cases hd : isDig c with
  | true =>
    have H := Lib.hid (worth_dig c hd)
    rw [hd] at D
    clear hd
    go_enter Tryz.func136, Tryz.ntmps136
    go_wp2_with fail
    refine (D.out _).mono ?_
    rintro e w1 ⟨rfl, rfl⟩
    go_wp2
    go_ret
    exact ⟨ret_int H.out, rfl⟩
  | false =>
    have H1 := Lib.hid (worth_low c hd)
    have H2 := Lib.hid (worth_up c hd)
    have H3 := Lib.hid (worth_no c hd)
    rw [hd] at D
    clear hd
    go_enter Tryz.func136, Tryz.ntmps136
    go_wp2_with fail
    refine (D.out _).mono ?_
    rintro e w1 ⟨rfl, rfl⟩
    go_wp2
    all_goals go_ret
    all_goals exact ⟨ret_int (by first | exact H1.out (by omega) (by omega) | exact H2.out (by omega) (by omega) (by omega) | exact H3.out (by omega) (by omega)), rfl⟩

set_option maxRecDepth 100000 in
set_option maxHeartbeats 1000000 in
theorem refNumber_any (l : Bytes) (w : World) (hl : l.length ≤ maxLen) : Calls Tryz.prog 113 #[S l, .int .i64 10] w fun e w' => e = .returned (.tuple #[.int .i64 ((number 10 l).1 : Nat), .int .i64 ((number 10 l).2 : Nat)]) ∧ w = w' := by
  unfold maxLen at hl
  have HB := fun k (hk : k < l.length) hc => number_bad (l := l) hk hc
  have HE := fun n h hl => number_end (l := l) (n := n) h hl
  have HN : l = [] → number 10 l = (0, 10) := fun e => by rw [e]; exact number_nil
  generalize number 10 l = r at *
  have HB := Lib.hid HB
  have HE := Lib.hid HE
  have HN := Lib.hid HN
  go_enter Tryz.func113, Tryz.ntmps113
  go_wp2
  go_loop [6, 7] (fun n i => ∃ k m : Nat, i = .int .i64 k ∧ n = .int .i64 m ∧ k ≤ l.length ∧ NumTo l k m) (fun _ i => l.length - (intOf i).toNat)
  case atStart => exact ⟨0, 0, rfl, rfl, by omega, NumTo.zero l⟩
  case round =>
    obtain ⟨k, m, rfl, rfl, hk, hm⟩ := hrel
    have hml := hm.le
    have HM := Lib.hid hm
    clear hm
    by_cases hlt : k < l.length
    · have W := Lib.hid (fun w => refWorth_any l[k] w)
      have hw9 : worthN l[k] ≤ 99 := by unfold worthN; have := digitN_le l[k]; split <;> omega
      have HB := Lib.hid (HB.out k hlt)
      have HS := Lib.hid (fun h1 h2 => HM.out.small hlt h1 h2)
      have HG := Lib.hid (fun h1 h2 => HM.out.big hlt h1 h2)
      go_wp2_with fail
      refine (W.out _).mono ?_
      rintro e w1 ⟨rfl, rfl⟩
      generalize worthN l[k] = x at *
      by_cases hx : x < 10
      · have g1 : decide ((10 : Int) ≤ (x : Int)) = false := by rw [decide_eq_false_iff_not]; omega
        by_cases hm2 : m ≤ 1099511627776
        · have g2 : decide ((m : Int) ≤ 1099511627776) = true := by rw [decide_eq_true_iff]; omega
          go_wp2
          go_round
          case rel => exact ⟨k + 1, m * 10 + x, by go_num, by go_num, by omega, HS.out hx hm2⟩
          case measure => simp [intOf]; omega
        · have g2 : decide ((m : Int) ≤ 1099511627776) = false := by rw [decide_eq_false_iff_not]; omega
          go_wp2
          go_round
          case rel => exact ⟨k + 1, m, by go_num, rfl, by omega, HG.out hx hm2⟩
          case measure => simp [intOf]; omega
      · have g1 : decide ((10 : Int) ≤ (x : Int)) = true := by rw [decide_eq_true_iff]; omega
        have HR := Lib.hid (HB.out hx)
        go_wp2
        go_ret2
        exact ⟨by rw [HR.out]; rfl, rfl⟩
    · have hkl : k = l.length := by omega
      subst hkl
      by_cases h0 : l.length = 0
      · have HR := Lib.hid (HN.out (List.eq_nil_of_length_eq_zero h0))
        have g0 : ((l.length : Int) == 0) = true := by simp; exact List.eq_nil_of_length_eq_zero h0
        go_wp2
        go_ret2
        exact ⟨by rw [HR.out]; rfl, rfl⟩
      · have HR := Lib.hid (HE.out m HM.out (by omega))
        have g0 : ((l.length : Int) == 0) = false := by rw [beq_eq_false_iff_ne]; omega
        by_cases hm2 : m ≤ 1099511627776
        · have g2 : decide ((1099511627776 : Int) < (m : Int)) = false := by rw [decide_eq_false_iff_not]; omega
          have HQ : Hid (r = (m, 0)) := by show _ = _; rw [HR.out, if_pos hm2]
          go_wp2
          go_ret2
          exact ⟨by rw [HQ.out]; rfl, rfl⟩
        · have g2 : decide ((1099511627776 : Int) < (m : Int)) = true := by rw [decide_eq_true_iff]; omega
          have HQ : Hid (r = (0, 11)) := by show _ = _; rw [HR.out, if_neg hm2]
          go_wp2
          go_ret2
          exact ⟨by rw [HQ.out]; rfl, rfl⟩
theorem refDecimal_any (l : Bytes) (w : World) (hl : l.length ≤ maxLen) : Calls Tryz.prog 80 #[S l] w fun e w' => e = .returned (.tuple #[.int .i64 ((number 10 l).1 : Nat), .int .i64 ((number 10 l).2 : Nat)]) ∧ w = w' := by
  have C := Lib.hid (fun w => refNumber_any l w hl)
  generalize number 10 l = r at *
  go_enter Tryz.func80, Tryz.ntmps80
  go_wp2_with fail
  refine (C.out w).mono ?_
  rintro e w1 ⟨rfl, rfl⟩
  go_wp2
  go_ret2
  exact ⟨rfl, rfl⟩

end Go.Proofs.YtahapblgmehngaaGreatDoor

