/- Parts of the proof of DealDecides_holds: the texts Pla. -/
import Derived.Lib.Bytealg
import Derived.Lib.Strings
import Derived.Test.YtahapblgmehngaaGreatDoorE1
set_option linter.unusedSimpArgs false
set_option linter.unusedVariables false
set_option linter.unnecessarySimpa false
set_option maxRecDepth 100000
set_option maxHeartbeats 64000000
namespace Go.Dr
def tokMarks : Bytes := [33, 35, 36, 37, 38, 39, 42, 43, 45, 46, 94, 95, 96, 124, 126]
def isMark (c : UInt8) : Bool := tokMarks.contains c
def tokB (c : UInt8) : Bool := decide (48 ≤ c.toNat ∧ c.toNat ≤ 57) || decide (97 ≤ c.toNat ∧ c.toNat ≤ 122) || decide (65 ≤ c.toNat ∧ c.toNat ≤ 90) || isMark c
def token (l : Bytes) : Bool := l.all tokB && !l.isEmpty
def digitN (c : UInt8) : Nat := if 48 ≤ c.toNat ∧ c.toNat ≤ 57 then c.toNat - 48 else if 97 ≤ c.toNat ∧ c.toNat ≤ 102 then c.toNat - 87 else if 65 ≤ c.toNat ∧ c.toNat ≤ 70 then c.toNat - 55 else 16
def numTo (base : Nat) (l : Bytes) : Nat := l.foldl (fun n c => n * base + digitN c) 0
def greatest : Nat := 1099511627776
def number (base : Nat) (l : Bytes) : Nat × Nat := if l.isEmpty || !l.all (fun c => decide (digitN c < base)) then (0, 10) else if numTo base l ≤ greatest then (numTo base l, 0) else (0, 11)
theorem digitN_le (c : UInt8) : digitN c ≤ 16 := by
 unfold digitN
 repeat' split
 all_goals omega
theorem numTo_snoc (base : Nat) (l : Bytes) (k : Nat) (h : k < l.length) : numTo base (l.take (k + 1)) = numTo base (l.take k) * base + digitN l[k] := by
 rw [take_snoc l k h];simp only [numTo, List.foldl_append, List.foldl_cons, List.foldl_nil]
theorem numTo_from (base : Nat) (hb : 0 < base) (l : Bytes) : ∀ a : Nat, a ≤ l.foldl (fun n c => n * base + digitN c) a := by
 induction l with
 | nil => intro a;exact Nat.le_refl _
 | cons c l ih =>
  intro a;have h1 := ih (a * base + digitN c);have h2 : a ≤ a * base := Nat.le_mul_of_pos_right _ hb;simp only [List.foldl_cons];omega
theorem numTo_take (base : Nat) (hb : 0 < base) (l : Bytes) (k : Nat) : numTo base (l.take k) ≤ numTo base l := by
 conv => rhs;rw [← List.take_append_drop k l]
 unfold numTo;rw [List.foldl_append];exact numTo_from base hb _ _
theorem number_le (base : Nat) (l : Bytes) : (number base l).1 ≤ greatest := by
 unfold number greatest
 split
 ·simp
 ·split
  ·rename_i h;exact h
  ·simp
def eqName (l : Bytes) : Bytes := l.takeWhile fun c => c != 61
def eqArg (l : Bytes) : Bytes := (l.dropWhile fun c => c != 61).drop 1
def unq (out : Bytes) : Bytes → Bytes × Bool
 | [] => ([], false)
 | [c] => if c = 34 then (out, true) else ([], false)
 | c :: d :: r =>
  if c = 34 then (out, false)
  else if c = 92 then unq (out ++ [d]) r
  else unq (out ++ [c]) (d :: r)
def unquote (l : Bytes) : Bytes × Bool := unq [] (l.drop 1)
def directive (l : Bytes) : Bytes × Bytes × Bool :=
 if token (eqName l) then
  (if Lib.hasPrefix (eqArg l) [34] then (if (unquote (eqArg l)).2 then (low (eqName l), (unquote (eqArg l)).1, true) else ([], [], false)) else (low (eqName l), eqArg l, true))
 else ([], [], false)
theorem unq_end (out l : Bytes) (k : Nat) (h : l.length ≤ k) : unq out (l.drop k) = ([], false) := by
 rw [List.drop_eq_nil_of_le h];rfl
theorem unq_quote (out l : Bytes) (k : Nat) (h : k < l.length) (hc : l[k] = 34) : unq out (l.drop k) = (out, decide (k + 1 = l.length)) := by
 rw [drop_get l k h, hc];by_cases e : k + 1 = l.length
 ·rw [List.drop_eq_nil_of_le (by omega)];simp [unq, e]
 ·rw [drop_get l (k + 1) (by omega)];simp [unq, e]
theorem unq_last (out l : Bytes) (k : Nat) (h : k < l.length) (hc : l[k] = 92) (he : k + 1 = l.length) : unq out (l.drop k) = ([], false) := by
 rw [drop_get l k h, hc, List.drop_eq_nil_of_le (by omega)];simp [unq]
theorem unq_two (out l : Bytes) (k : Nat) (h : k + 1 < l.length) (hc : l[k] = 92) : unq out (l.drop k) = unq (out ++ [l[k + 1]]) (l.drop (k + 1 + 1)) := by
 rw [drop_get l k (by omega), hc, drop_get l (k + 1) h];simp [unq]
theorem unq_one (out l : Bytes) (k : Nat) (h : k < l.length) (h1 : l[k] ≠ 34) (h2 : l[k] ≠ 92) : unq out (l.drop k) = unq (out ++ [l[k]]) (l.drop (k + 1)) := by
 rw [drop_get l k h];by_cases e : k + 1 = l.length
 ·rw [List.drop_eq_nil_of_le (by omega)];simp [unq, h1]
 ·rw [drop_get l (k + 1) (by omega)];simp [unq, h1, h2]
theorem cut_at (l : Bytes) : (∃ k : Nat, Lib.indexByte l 61 = (k : Int) ∧ k < l.length ∧ eqName l = l.take k ∧ eqArg l = l.drop (k + 1)) ∨ (Lib.indexByte l 61 = -1 ∧ eqName l = l ∧ eqArg l = []) := by
 induction l with
 | nil => exact .inr ⟨rfl, rfl, rfl⟩
 | cons c r ih =>
  by_cases hc : c = 61
  ·subst hc
   exact .inl ⟨0, by simp [Lib.indexByte], by simp, by simp [eqName], by simp [eqArg]⟩
  ·have e1 : eqName (c :: r) = c :: eqName r := by simp [eqName, hc]
   have e2 : eqArg (c :: r) = eqArg r := (by simp [eqArg, hc])
   rcases ih with ⟨k, h1, h2, h3, h4⟩ | ⟨h1, h2, h3⟩
   ·refine .inl ⟨k + 1, ?_, by simp;omega, by rw [e1, h3];simp, by rw [e2, h4];simp⟩
    simp only [Lib.indexByte, h1];rw [if_neg (by simpa using hc), if_neg (by simp)];simp
   ·refine .inr ⟨?_, by rw [e1, h2], by rw [e2, h3]⟩
    simp only [Lib.indexByte, h1];rw [if_neg (by simpa using hc)];simp
def numArg (a : Bytes) : Nat := if (number 10 a).2 = 11 then greatest else (number 10 a).1
structure Ctl where
 ns : Bool
 nc : Bool
 nt : Bool
 pu : Bool
 pr : Bool
 mr : Bool
 px : Bool
 oi : Bool
 ma : Int
 sm : Int
 mf : Int
 ms : Int
 deriving DecidableEq
def Ctl.none : Ctl := ⟨false, false, false, false, false, false, false, false, -1, -1, -1, -1⟩
def Ctl.zero : Ctl := ⟨false, false, false, false, false, false, false, false, 0, 0, 0, 0⟩
def least (a b : Int) : Int := if a < 0 then b else if b < 0 then a else if a ≤ b then a else b
def most (a b : Int) : Int := if a ≤ b then b else a
def Ctl.join (a b : Ctl) : Ctl :=
 ⟨a.ns || b.ns, a.nc || b.nc, a.nt || b.nt, a.pu || b.pu, a.pr || b.pr, a.mr || b.mr, a.px || b.px, a.oi || b.oi, least a.ma b.ma, least a.sm b.sm, most a.mf b.mf, least a.ms b.ms⟩
def noStore : Bytes := [110, 111, 45, 115, 116, 111, 114, 101]
def noCache : Bytes := [110, 111, 45, 99, 97, 99, 104, 101]
def noTransform : Bytes := [110, 111, 45, 116, 114, 97, 110, 115, 102, 111, 114, 109]
def pubName : Bytes := [112, 117, 98, 108, 105, 99]
def privName : Bytes := [112, 114, 105, 118, 97, 116, 101]
def mustRe : Bytes := [109, 117, 115, 116, 45, 114, 101, 118, 97, 108, 105, 100, 97, 116, 101]
def proxyRe : Bytes := [112, 114, 111, 120, 121, 45, 114, 101, 118, 97, 108, 105, 100, 97, 116, 101]
def onlyIf : Bytes := [111, 110, 108, 121, 45, 105, 102, 45, 99, 97, 99, 104, 101, 100]
def maxAge : Bytes := [109, 97, 120, 45, 97, 103, 101]
def sMaxage : Bytes := [115, 45, 109, 97, 120, 97, 103, 101]
def minFresh : Bytes := [109, 105, 110, 45, 102, 114, 101, 115, 104]
def maxStale : Bytes := [109, 97, 120, 45, 115, 116, 97, 108, 101]
def cacheControl : Bytes := [99, 97, 99, 104, 101, 45, 99, 111, 110, 116, 114, 111, 108]
def ctlSays (n a : Bytes) : Ctl :=
 if n = noStore then { Ctl.none with ns := true } else if n = noCache then { Ctl.none with nc := true } else if n = noTransform then { Ctl.none with nt := true }
 else if n = pubName then { Ctl.none with pu := true } else if n = privName then { Ctl.none with pr := true } else if n = mustRe then { Ctl.none with mr := true }
 else if n = proxyRe then { Ctl.none with px := true } else if n = onlyIf then { Ctl.none with oi := true }
 else if n = maxAge then { Ctl.none with ma := numArg a } else if n = sMaxage then { Ctl.none with sm := numArg a } else if n = minFresh then { Ctl.none with mf := numArg a }
 else if n = maxStale then { Ctl.none with ms := if a = [] then greatest else numArg a }
 else Ctl.none
def ctlOf (s : Bytes) : Ctl := if (directive s).2.2 then ctlSays (directive s).1 (directive s).2.1 else Ctl.none
def ctlAll (l : List Bytes) : Ctl := l.foldl (fun c s => c.join (ctlOf s)) Ctl.none
def readC (l : List F) : Ctl := ctlAll (allOf l cacheControl)
def Ctl.cells (c : Ctl) : Array Value := #[.bool c.ns, .bool c.nc, .bool c.nt, .bool c.pu, .bool c.pr, .bool c.mr, .bool c.px, .bool c.oi, .int .i64 c.ma, .int .i64 c.sm, .int .i64 c.mf, .int .i64 c.ms]
abbrev Ctl.val (c : Ctl) : Value := .agg #[.bool c.ns, .bool c.nc, .bool c.nt, .bool c.pu, .bool c.pr, .bool c.mr, .bool c.px, .bool c.oi, .int .i64 c.ma, .int .i64 c.sm, .int .i64 c.mf, .int .i64 c.ms]
def Ctl.ok (c : Ctl) : Prop := (-1 ≤ c.ma ∧ c.ma ≤ 1099511627776) ∧ (-1 ≤ c.sm ∧ c.sm ≤ 1099511627776) ∧ (-1 ≤ c.mf ∧ c.mf ≤ 1099511627776) ∧ (-1 ≤ c.ms ∧ c.ms ≤ 1099511627776)
theorem most_none (a : Int) (h : -1 ≤ a) : most a (-1) = a := by unfold most;split <;> omega
theorem least_none' (a : Int) (h : -1 ≤ a) : least a (-1) = a := by unfold least;split <;> (try split) <;> omega
theorem join_none (c : Ctl) (h : c.ok) : c.join Ctl.none = c := by
 obtain ⟨⟨h1, -⟩, ⟨h2, -⟩, ⟨h3, -⟩, h4, -⟩ := h
 cases c
 simp [Ctl.join, Ctl.none, least_none' _ h1, least_none' _ h2, most_none _ h3, least_none' _ h4]
theorem numArg_le (a : Bytes) : numArg a ≤ 1099511627776 := by
 unfold numArg
 split
 ·exact Nat.le_refl _
 ·exact number_le 10 a
theorem least_ok {a b : Int} (h : -1 ≤ a ∧ a ≤ 1099511627776) (h' : -1 ≤ b ∧ b ≤ 1099511627776) : -1 ≤ least a b ∧ least a b ≤ 1099511627776 := by
 unfold least;repeat' split
 all_goals omega
theorem most_ok {a b : Int} (h : -1 ≤ a ∧ a ≤ 1099511627776) (h' : -1 ≤ b ∧ b ≤ 1099511627776) : -1 ≤ most a b ∧ most a b ≤ 1099511627776 := by
 unfold most;split <;> omega
theorem Ctl.ok_join {a b : Ctl} (h : a.ok) (h' : b.ok) : (a.join b).ok := ⟨least_ok h.1 h'.1, least_ok h.2.1 h'.2.1, most_ok h.2.2.1 h'.2.2.1, least_ok h.2.2.2 h'.2.2.2⟩
theorem Ctl.ok_none : Ctl.none.ok := by simp [Ctl.ok, Ctl.none]
theorem ite_p {α : Type} (P : α → Prop) {c : Prop} [Decidable c] {a b : α} (h1 : P a) (h2 : P b) : P (if c then a else b) := by
 split
 ·exact h1
 ·exact h2
theorem ctlSays_ok (n a : Bytes) : (ctlSays n a).ok := by
 have h := numArg_le a;have hg : greatest = 1099511627776 := rfl;unfold ctlSays
 repeat' (refine ite_p Ctl.ok ?_ ?_)
 all_goals (simp only [Ctl.ok, Ctl.none];omega)
theorem ctlOf_ok (s : Bytes) : (ctlOf s).ok := by
 unfold ctlOf
 split
 ·exact ctlSays_ok _ _
 ·exact Ctl.ok_none
theorem ctlAll_snoc (l : List Bytes) (k : Nat) (h : k < l.length) : ctlAll (l.take (k + 1)) = (ctlAll (l.take k)).join (ctlOf l[k]) := by
 rw [take_snoc l k h];simp only [ctlAll, List.foldl_append, List.foldl_cons, List.foldl_nil]
theorem ctlAll_ok (l : List Bytes) : (ctlAll l).ok := by
 unfold ctlAll
 have : ∀ (l : List Bytes) (c : Ctl), c.ok → (l.foldl (fun c s => c.join (ctlOf s)) c).ok := by
  intro l
  induction l with
  | nil => intro c h;exact h
  | cons s l ih => intro c h;exact ih _ (Ctl.ok_join h (ctlOf_ok s))
 exact this l _ Ctl.ok_none
theorem readC_ok (l : List F) : (readC l).ok := ctlAll_ok _
def leapY (y : Nat) : Bool := decide (y % 4 = 0) && (decide (y % 100 ≠ 0) || decide (y % 400 = 0))
def mLens : List Nat := [31, 28, 31, 30, 31, 30, 31, 31, 30, 31, 30, 31]
def mLen (y m : Nat) : Nat := if m = 1 ∧ leapY y = true then 29 else mLens.getD m 0
def begY (y : Nat) : Nat := 365 * (y - 1970) + (y - 1) / 4 - (y - 1) / 100 + (y - 1) / 400 - 477
def aheadM (y : Nat) : Nat → Nat
 | 0 => 0
 | m + 1 => aheadM y m + mLen y m
def dayOf (y m n : Nat) : Nat := begY y + n - 1 + aheadM y m
def yUp (at' : Nat) : Nat → Nat → Nat
 | 0, y => y
 | k + 1, y => if begY (y + 1) ≤ at' then yUp at' k (y + 1) else y
def yearOf (at' : Nat) : Nat := yUp at' (at' + 1) (1970 + at' / 366)
theorem begY_int (y : Nat) (h : 1970 ≤ y) : (365 * ((y : Int) - 1970) + ((y : Int) - 1) / 4 - ((y : Int) - 1) / 100 + ((y : Int) - 1) / 400 - 477) = (begY y : Nat) := by
 unfold begY;omega
theorem begY_enough (n : Nat) (h : 1969 ≤ n) : 477 ≤ n / 4 - n / 100 + n / 400 ∧ n / 100 ≤ n / 4 := by
 have e1 : n / 100 = n / 4 / 25 := (by rw [Nat.div_div_eq_div_mul]);have e2 : n / 400 = n / 4 / 100 := (by rw [Nat.div_div_eq_div_mul]);have hq : 492 ≤ n / 4 := (by omega);rw [e1, e2];generalize n / 4 = q at *;by_cases h20 : 20 ≤ q / 25
 ·omega
 ·have : q / 25 = 19 := by omega
  omega
theorem div_step (n k : Nat) (hk : 0 < k) (h : 0 < n) : (n % k = 0 ∧ n / k = (n - 1) / k + 1) ∨ (n % k ≠ 0 ∧ n / k = (n - 1) / k) := by
 obtain ⟨m, rfl⟩ : ∃ m, n = m + 1 := ⟨n - 1, by omega⟩;have e : (m + 1) / k = m / k + if k ∣ m + 1 then 1 else 0 := Nat.succ_div
 simp only [Nat.dvd_iff_mod_eq_zero] at e;by_cases hm : (m + 1) % k = 0
 ·rw [if_pos hm] at e;exact .inl ⟨hm, e⟩
 ·rw [if_neg hm] at e;exact .inr ⟨hm, e⟩
theorem mod_part (y : Nat) : (y % 400 = 0 → y % 100 = 0) ∧ (y % 100 = 0 → y % 4 = 0) := by omega
theorem begY_step (y : Nat) (h : 1970 ≤ y) : begY (y + 1) = begY y + 365 + (if leapY y = true then 1 else 0) := by
 have h1 := begY_enough (y - 1) (by omega);have h2 := begY_enough y (by omega);have d1 := div_step y 4 (by decide) (by omega);have d2 := div_step y 100 (by decide) (by omega);have d3 := div_step y 400 (by decide) (by omega);have hm := mod_part y;unfold begY leapY;simp only [Bool.and_eq_true, Bool.or_eq_true, decide_eq_true_iff];rw [show y + 1 - 1 = y by omega, show y + 1 - 1970 = y - 1970 + 1 by omega];generalize y / 4 = a at *;generalize y / 100 = b at *;generalize y / 400 = c at *;generalize (y - 1) / 4 = a' at *;generalize (y - 1) / 100 = b' at *;generalize (y - 1) / 400 = c' at *;generalize y % 4 = m4 at *;generalize y % 100 = m100 at *;generalize y % 400 = m400 at *
 split <;> omega
theorem begY_lt (y : Nat) (h : 1970 ≤ y) : begY y + 365 ≤ begY (y + 1) ∧ begY (y + 1) ≤ begY y + 366 := by
 rw [begY_step y h];split <;> omega
theorem begY_low (y : Nat) (h : 1970 ≤ y) : begY y ≤ 366 * (y - 1970) := by
 unfold begY;omega
theorem begY_high (y : Nat) (h : 1970 ≤ y) : 365 * (y - 1970) ≤ begY y := by
 unfold begY;omega
theorem begY_mono (y k : Nat) (h : 1970 ≤ y) : begY y ≤ begY (y + k) := by
 induction k with
 | zero => exact Nat.le_refl _
 | succ k ih =>
  have := begY_lt (y + k) (by omega)
  rw [show y + (k + 1) = y + k + 1 by omega];omega
theorem year_unique (at' x y : Nat) (hx : 1970 ≤ x) (hy : 1970 ≤ y) (h1 : begY x ≤ at') (h2 : at' < begY (x + 1)) (h3 : begY y ≤ at') (h4 : at' < begY (y + 1)) : x = y := by
 by_cases hlt : x < y
 ·have := begY_mono (x + 1) (y - (x + 1)) (by omega)
  rw [show x + 1 + (y - (x + 1)) = y by omega] at this;omega
 ·by_cases hgt : y < x
  ·have := begY_mono (y + 1) (x - (y + 1)) (by omega)
   rw [show y + 1 + (x - (y + 1)) = x by omega] at this;omega
  ·omega
theorem yUp_spec (at' : Nat) (k : Nat) : ∀ y : Nat, 1970 ≤ y → begY y ≤ at' → at' < begY (y + k) → 1970 ≤ yUp at' k y ∧ begY (yUp at' k y) ≤ at' ∧ at' < begY (yUp at' k y + 1) := by
 induction k with
 | zero => intro y h1 h2 h3;simp at h3;omega
 | succ k ih =>
  intro y h1 h2 h3;unfold yUp
  split
  ·rename_i h
   exact ih (y + 1) (by omega) h (by rw [show y + 1 + k = y + (k + 1) by omega];exact h3)
  ·rename_i h
   exact ⟨h1, h2, by omega⟩
theorem yearOf_spec (at' : Nat) : 1970 ≤ yearOf at' ∧ begY (yearOf at') ≤ at' ∧ at' < begY (yearOf at' + 1) := by
 unfold yearOf;refine yUp_spec at' _ _ (by omega) ?_ ?_
 ·have := begY_low (1970 + at' / 366) (by omega);omega
 ·have := begY_high (1970 + at' / 366 + (at' + 1)) (by omega);omega
theorem yearOf_eq (at' y : Nat) (h : 1970 ≤ y) (h1 : begY y ≤ at') (h2 : at' < begY (y + 1)) : y = yearOf at' :=
 have s := yearOf_spec at'
 year_unique at' y _ h s.1 h1 h2 s.2.1 s.2.2
theorem mLen_le (y m : Nat) : mLen y m ≤ 31 := by
 unfold mLen
 split
 ·omega
 ·by_cases h : m < 12
  ·match m, h with
   | 0, _ | 1, _ | 2, _ | 3, _ | 4, _ | 5, _ | 6, _ | 7, _ | 8, _ | 9, _ | 10, _ | 11, _ => decide
  ·rw [List.getD_eq_getElem?_getD, List.getElem?_eq_none (by simp [mLens];omega)];decide
theorem aheadM_le (y m : Nat) : aheadM y m ≤ 31 * m := by
 induction m with
 | zero => exact Nat.le_refl _
 | succ m ih => have := mLen_le y m;unfold aheadM;omega
structure Pt where
 left : Bytes
 week : Nat := 0
 year : Nat := 0
 month : Nat := 0
 day : Nat := 0
 hour : Nat := 0
 min : Nat := 0
 sec : Nat := 0
 bad : Bool := false
def dayTab : List Bytes := [[84, 104, 117], [70, 114, 105], [83, 97, 116], [83, 117, 110], [77, 111, 110], [84, 117, 101], [87, 101, 100]]
def monTab : List Bytes := [[74, 97, 110], [70, 101, 98], [77, 97, 114], [65, 112, 114], [77, 97, 121], [74, 117, 110], [74, 117, 108], [65, 117, 103], [83, 101, 112], [79, 99, 116], [78, 111, 118], [68, 101, 99]]
def longTab : List Bytes := [[84, 104, 117, 114, 115, 100, 97, 121], [70, 114, 105, 100, 97, 121], [83, 97, 116, 117, 114, 100, 97, 121], [83, 117, 110, 100, 97, 121], [77, 111, 110, 100, 97, 121], [84, 117, 101, 115, 100, 97, 121], [87, 101, 100, 110, 101, 115, 100, 97, 121]]
def longF (d : Nat) : Bytes := longTab.getD d []
def Pt.word (p : Pt) (s : Bytes) : Pt := { p with left := Lib.trimPrefix p.left s, bad := p.bad || !Lib.hasPrefix p.left s }
def isDig (c : UInt8) : Bool := decide (48 ≤ c.toNat ∧ c.toNat ≤ 57)
def digOk (p : Pt) (n : Nat) : Bool := decide (n ≤ p.left.length) && (p.left.take n).all isDig
def decN (l : Bytes) : Nat := l.foldl (fun v c => 10 * v + (c.toNat - 48)) 0
def Pt.dig (p : Pt) (n : Nat) : Pt := if digOk p n = true then { p with left := p.left.drop n } else { p with bad := true }
def Pt.digV (p : Pt) (n : Nat) : Nat := if digOk p n = true then decN (p.left.take n) else 0
def nameOk (p : Pt) (tab : List Bytes) : Bool := decide (3 ≤ p.left.length) && decide (tab.findIdx (fun t => t == p.left.take 3) < tab.length)
def Pt.nam (p : Pt) (tab : List Bytes) : Pt := if nameOk p tab = true then { p with left := p.left.drop 3 } else { p with bad := true }
def Pt.namV (p : Pt) (tab : List Bytes) : Nat := if nameOk p tab = true then tab.findIdx (fun t => t == p.left.take 3) else 0
def Pt.aWeek (p : Pt) : Pt := { p.nam dayTab with week := p.namV dayTab }
def Pt.aMonth (p : Pt) : Pt := { p.nam monTab with month := p.namV monTab }
def Pt.aDay (p : Pt) (n : Nat) : Pt := { p.dig n with day := p.digV n }
def Pt.aYear (p : Pt) : Pt := { p.dig 4 with year := p.digV 4 }
def Pt.aHour (p : Pt) : Pt := { p.dig 2 with hour := p.digV 2 }
def Pt.aMin (p : Pt) : Pt := { p.dig 2 with min := p.digV 2 }
def Pt.aSec (p : Pt) : Pt := { p.dig 2 with sec := p.digV 2 }
def Pt.clock (p : Pt) : Pt := ((((p.aHour).word [58]).aMin).word [58]).aSec
def commaT : Bytes := [44, 32]
def gmtT : Bytes := [32, 71, 77, 84]
def Pt.own (p : Pt) : Pt := ((((((((p.aWeek.word commaT).aDay 2).word [32]).aMonth).word [32]).aYear).word [32]).clock).word gmtT
def Pt.oldWeek (p : Pt) : Pt := if p.bad = true then p else p.word ((longF p.week).drop 3)
def Pt.oldYear (p : Pt) (now : Nat) : Pt := { p.dig 2 with year := if now + 50 < now - now % 100 + p.digV 2 then now - now % 100 + p.digV 2 - 100 else now - now % 100 + p.digV 2 }
def Pt.old (p : Pt) (now : Nat) : Pt := ((((((((p.aWeek.oldWeek.word commaT).aDay 2).word [45]).aMonth).word [45]).oldYear now).word [32]).clock).word gmtT
def Pt.bareDay (p : Pt) : Pt := if Lib.hasPrefix p.left [32] = true then (p.word [32]).aDay 1 else { p.aDay 2 with bad := (p.aDay 2).bad || decide ((p.aDay 2).day < 10) }
def Pt.bare (p : Pt) : Pt := (((((((p.aWeek.word [32]).aMonth).word [32]).bareDay).word [32]).clock).word [32]).aYear
def Pt.wrong (p : Pt) : Bool := p.bad || !p.left.isEmpty || decide (p.year < 1970) || decide (p.day < 1) || decide (mLen p.year p.month < p.day) || decide (23 < p.hour) || decide (59 < p.min) || decide (59 < p.sec)
def Pt.at (p : Pt) : Nat := dayOf p.year p.month p.day * 86400 + (3600 * p.hour + 60 * p.min + p.sec)
def Pt.moment (p : Pt) : Nat × Bool := if p.wrong = true then (0, false) else (p.at, decide (dayOf p.year p.month p.day % 7 = p.week))
def clampD (now : Int) : Nat := (max 0 (Min.min now 253402300799)).toNat
def parseY (s : Bytes) (y : Nat) : Nat × Nat :=
 if (Pt.moment (Pt.own ⟨s, 0, 0, 0, 0, 0, 0, 0, false⟩)).2 = true then ((Pt.moment (Pt.own ⟨s, 0, 0, 0, 0, 0, 0, 0, false⟩)).1, 0)
 else if (Pt.moment (Pt.old ⟨s, 0, 0, 0, 0, 0, 0, 0, false⟩ y)).2 = true then ((Pt.moment (Pt.old ⟨s, 0, 0, 0, 0, 0, 0, 0, false⟩ y)).1, 0)
 else if (Pt.moment (Pt.bare ⟨s, 0, 0, 0, 0, 0, 0, 0, false⟩)).2 = true then ((Pt.moment (Pt.bare ⟨s, 0, 0, 0, 0, 0, 0, 0, false⟩)).1, 0)
 else (0, 10)
def parseF (s : Bytes) (now : Int) : Nat × Nat := parseY s (yearOf (clampD now / 86400))
def dg (n : Nat) : UInt8 := UInt8.ofNat (48 + n % 10)
def pad2 (n : Nat) : Bytes := [dg (n / 10), dg n]
def pad4 (n : Nat) : Bytes := [dg (n / 1000), dg (n / 100), dg (n / 10), dg n]
structure Dt where
 year : Nat
 month : Nat
 day : Nat
 hour : Nat
 min : Nat
 sec : Nat
 week : Nat
def monF (m : Nat) : Bytes := monTab.getD m []
def dayF (d : Nat) : Bytes := dayTab.getD d []
def Dt.clockT (x : Dt) (r : Bytes) : Bytes := pad2 x.hour ++ ([58] ++ (pad2 x.min ++ ([58] ++ (pad2 x.sec ++ r))))
def lowDay (d : Nat) : Bytes := if d < 10 then [32, dg d] else pad2 d
def Dt.text (x : Dt) : Nat → Bytes
 | 0 => dayF x.week ++ (commaT ++ (pad2 x.day ++ ([32] ++ (monF x.month ++ ([32] ++ (pad4 x.year ++ ([32] ++ x.clockT gmtT)))))))
 | 1 => longF x.week ++ (commaT ++ (pad2 x.day ++ ([45] ++ (monF x.month ++ ([45] ++ (pad2 (x.year % 100) ++ ([32] ++ x.clockT gmtT)))))))
 | _ => dayF x.week ++ ([32] ++ (monF x.month ++ ([32] ++ (lowDay x.day ++ ([32] ++ x.clockT ([32] ++ pad4 x.year))))))
theorem dg_nat (n : Nat) : (dg n).toNat = 48 + n % 10 := by
 unfold dg;simp
 omega
theorem dg_dig (n : Nat) : isDig (dg n) = true := by
 simp only [isDig, decide_eq_true_iff, dg_nat];omega
theorem dg_of (c : UInt8) (n : Nat) (h : isDig c = true) (e : n % 10 = c.toNat - 48) : dg n = c := by
 simp only [isDig, decide_eq_true_iff] at h;apply UInt8.toNat_inj.1
 rw [dg_nat];omega
theorem word_eat {p : Pt} {s r : Bytes} (h : p.left = s ++ r) : p.word s = { p with left := r } := by
 have e : s.isPrefixOf (s ++ r) = true := (by simp);unfold Pt.word Lib.trimPrefix Lib.hasPrefix;rw [h, e];simp
theorem word_inv {p : Pt} {s : Bytes} (h : (p.word s).bad = false) : p.bad = false ∧ p.left = s ++ (p.word s).left := by
 unfold Pt.word at h ⊢;simp only [Bool.or_eq_false_iff, Bool.not_eq_false'] at h;refine ⟨h.1, ?_⟩;have h2 := h.2;unfold Lib.trimPrefix;simp only [h2, if_true];unfold Lib.hasPrefix at h2;rw [List.isPrefixOf_iff_prefix] at h2;obtain ⟨t, ht⟩ := h2;rw [← ht];simp
theorem dig_eat {p : Pt} {s r : Bytes} (h : p.left = s ++ r) (hd : s.all isDig = true) : p.dig s.length = { p with left := r } ∧ p.digV s.length = decN s := by
 have e : digOk p s.length = true := by
  unfold digOk;rw [h];simp only [List.take_left', Bool.and_eq_true, decide_eq_true_iff];exact ⟨by simp, hd⟩
 unfold Pt.dig Pt.digV;rw [if_pos e, if_pos e, h];simp
theorem dig_inv {p : Pt} {n : Nat} (h : (p.dig n).bad = false) : p.bad = false ∧ ∃ s : Bytes, s.length = n ∧ s.all isDig = true ∧ p.left = s ++ (p.dig n).left ∧ p.digV n = decN s := by
 unfold Pt.dig at h
 split at h
 ·rename_i e
  have e2 := e;unfold digOk at e2;simp only [Bool.and_eq_true, decide_eq_true_iff] at e2;refine ⟨h, p.left.take n, by simp;omega, e2.2, ?_, ?_⟩
  ·unfold Pt.dig;rw [if_pos e];simp
  ·unfold Pt.digV;rw [if_pos e]
 ·cases h
theorem pad2_ok (v : Nat) (h : v < 100) : (pad2 v).all isDig = true ∧ decN (pad2 v) = v := by
 refine ⟨by simp [pad2, dg_dig], ?_⟩;simp only [pad2, decN, List.foldl_cons, List.foldl_nil, dg_nat];omega
theorem pad4_ok (v : Nat) (h : v < 10000) : (pad4 v).all isDig = true ∧ decN (pad4 v) = v := by
 refine ⟨by simp [pad4, dg_dig], ?_⟩;simp only [pad4, decN, List.foldl_cons, List.foldl_nil, dg_nat];omega
theorem pad2_of {s : Bytes} (h : s.length = 2) (hd : s.all isDig = true) : s = pad2 (decN s) ∧ decN s < 100 := by
 match s, h with
 | [a, b], _ =>
  simp only [List.all_cons, List.all_nil, Bool.and_true, Bool.and_eq_true] at hd;have ha := hd.1;have hb := hd.2;simp only [isDig, decide_eq_true_iff] at ha hb;simp only [decN, List.foldl_cons, List.foldl_nil];refine ⟨?_, by omega⟩;unfold pad2;rw [dg_of a _ hd.1 (by omega), dg_of b _ hd.2 (by omega)]
theorem pad4_of {s : Bytes} (h : s.length = 4) (hd : s.all isDig = true) : s = pad4 (decN s) ∧ decN s < 10000 := by
 match s, h with
 | [a, b, c, d], _ =>
  simp only [List.all_cons, List.all_nil, Bool.and_true, Bool.and_eq_true] at hd;obtain ⟨h1, h2, h3, h4⟩ := hd;have ha := h1;have hb := h2;have hc := h3;have he := h4;simp only [isDig, decide_eq_true_iff] at ha hb hc he;simp only [decN, List.foldl_cons, List.foldl_nil];refine ⟨?_, by omega⟩;unfold pad4;rw [dg_of a _ h1 (by omega), dg_of b _ h2 (by omega), dg_of c _ h3 (by omega), dg_of d _ h4 (by omega)]
theorem one_of {s : Bytes} (h : s.length = 1) (hd : s.all isDig = true) : s = [dg (decN s)] ∧ decN s < 10 := by
 match s, h with
 | [a], _ =>
  simp only [List.all_cons, List.all_nil, Bool.and_true] at hd;have ha := hd;simp only [isDig, decide_eq_true_iff] at ha;simp only [decN, List.foldl_cons, List.foldl_nil];refine ⟨?_, by omega⟩;rw [dg_of a _ hd (by omega)]
theorem dig2_eat {p : Pt} {v : Nat} {r : Bytes} (h : p.left = pad2 v ++ r) (hv : v < 100) : p.dig 2 = { p with left := r } ∧ p.digV 2 = v := by
 have := dig_eat h (pad2_ok v hv).1
 rw [(pad2_ok v hv).2] at this;exact this
theorem dig4_eat {p : Pt} {v : Nat} {r : Bytes} (h : p.left = pad4 v ++ r) (hv : v < 10000) : p.dig 4 = { p with left := r } ∧ p.digV 4 = v := by
 have := dig_eat h (pad4_ok v hv).1
 rw [(pad4_ok v hv).2] at this;exact this
theorem dig1_eat {p : Pt} {v : Nat} {r : Bytes} (h : p.left = [dg v] ++ r) (hv : v < 10) : p.dig 1 = { p with left := r } ∧ p.digV 1 = v := by
 have := dig_eat h (by simp [dg_dig])
 have e : decN [dg v] = v := (by simp only [decN, List.foldl_cons, List.foldl_nil, dg_nat];omega);rw [e] at this;exact this
theorem dig2_inv {p : Pt} (h : (p.dig 2).bad = false) : p.bad = false ∧ p.left = pad2 (p.digV 2) ++ (p.dig 2).left ∧ p.digV 2 < 100 := by
 obtain ⟨h0, s, h1, h2, h3, h4⟩ := dig_inv h;have := pad2_of h1 h2
 rw [← h4] at this;exact ⟨h0, by rw [← this.1];exact h3, this.2⟩
theorem dig4_inv {p : Pt} (h : (p.dig 4).bad = false) : p.bad = false ∧ p.left = pad4 (p.digV 4) ++ (p.dig 4).left ∧ p.digV 4 < 10000 := by
 obtain ⟨h0, s, h1, h2, h3, h4⟩ := dig_inv h;have := pad4_of h1 h2
 rw [← h4] at this;exact ⟨h0, by rw [← this.1];exact h3, this.2⟩
theorem dig1_inv {p : Pt} (h : (p.dig 1).bad = false) : p.bad = false ∧ p.left = [dg (p.digV 1)] ++ (p.dig 1).left ∧ p.digV 1 < 10 := by
 obtain ⟨h0, s, h1, h2, h3, h4⟩ := dig_inv h;have := one_of h1 h2
 rw [← h4] at this;exact ⟨h0, by rw [← this.1];exact h3, this.2⟩
theorem nam_eat_day {p : Pt} {k : Nat} {r : Bytes} (h : p.left = dayF k ++ r) (hk : k < 7) : p.nam dayTab = { p with left := r } ∧ p.namV dayTab = k := by
 unfold Pt.nam Pt.namV nameOk;rw [h]
 match k, hk with
 | 0, _ | 1, _ | 2, _ | 3, _ | 4, _ | 5, _ | 6, _ => exact ⟨by simp [dayF, dayTab, List.findIdx_cons], by simp [dayF, dayTab, List.findIdx_cons]⟩
theorem nam_eat_mon {p : Pt} {k : Nat} {r : Bytes} (h : p.left = monF k ++ r) (hk : k < 12) : p.nam monTab = { p with left := r } ∧ p.namV monTab = k := by
 unfold Pt.nam Pt.namV nameOk;rw [h]
 match k, hk with
 | 0, _ | 1, _ | 2, _ | 3, _ | 4, _ | 5, _ | 6, _ | 7, _ | 8, _ | 9, _ | 10, _ | 11, _ => exact ⟨by simp [monF, monTab, List.findIdx_cons], by simp [monF, monTab, List.findIdx_cons]⟩
theorem nam_inv {p : Pt} {tab : List Bytes} (h : (p.nam tab).bad = false) : p.bad = false ∧ p.left = tab.getD (p.namV tab) [] ++ (p.nam tab).left ∧ p.namV tab < tab.length := by
 unfold Pt.nam at h
 split at h
 ·rename_i e
  have e2 := e;unfold nameOk at e2;simp only [Bool.and_eq_true, decide_eq_true_iff] at e2;have e3 := List.findIdx_getElem (p := fun t => t == p.left.take 3) (w := e2.2);refine ⟨h, ?_, ?_⟩
  ·unfold Pt.nam Pt.namV
   rw [if_pos e, if_pos e, List.getD_eq_getElem?_getD, List.getElem?_eq_getElem e2.2];simp only [beq_iff_eq] at e3;simp only [Option.getD_some];rw [e3];simp
  ·unfold Pt.namV;rw [if_pos e];exact e2.2
 ·cases h
theorem w_week (p : Pt) (s : Bytes) : (p.word s).week = p.week := rfl
theorem d_week (p : Pt) (n : Nat) : (p.dig n).week = p.week := by unfold Pt.dig;split <;> rfl
theorem n_week (p : Pt) (t : List Bytes) : (p.nam t).week = p.week := by unfold Pt.nam;split <;> rfl
theorem w_year (p : Pt) (s : Bytes) : (p.word s).year = p.year := rfl
theorem d_year (p : Pt) (n : Nat) : (p.dig n).year = p.year := by unfold Pt.dig;split <;> rfl
theorem w_month (p : Pt) (s : Bytes) : (p.word s).month = p.month := rfl
theorem d_month (p : Pt) (n : Nat) : (p.dig n).month = p.month := by unfold Pt.dig;split <;> rfl
theorem w_day (p : Pt) (s : Bytes) : (p.word s).day = p.day := rfl
theorem d_day (p : Pt) (n : Nat) : (p.dig n).day = p.day := by unfold Pt.dig;split <;> rfl
theorem n_day (p : Pt) (t : List Bytes) : (p.nam t).day = p.day := by unfold Pt.nam;split <;> rfl
theorem w_hour (p : Pt) (s : Bytes) : (p.word s).hour = p.hour := rfl
theorem d_hour (p : Pt) (n : Nat) : (p.dig n).hour = p.hour := by unfold Pt.dig;split <;> rfl
theorem w_min (p : Pt) (s : Bytes) : (p.word s).min = p.min := rfl
theorem d_min (p : Pt) (n : Nat) : (p.dig n).min = p.min := by unfold Pt.dig;split <;> rfl
theorem w_sec (p : Pt) (s : Bytes) : (p.word s).sec = p.sec := rfl
theorem d_sec (p : Pt) (n : Nat) : (p.dig n).sec = p.sec := by unfold Pt.dig;split <;> rfl
def Dt.Small (x : Dt) : Prop := x.year < 10000 ∧ x.month < 12 ∧ x.day < 100 ∧ x.hour < 100 ∧ x.min < 100 ∧ x.sec < 100 ∧ x.week < 7
def Pt.dt (p : Pt) : Dt := ⟨p.year, p.month, p.day, p.hour, p.min, p.sec, p.week⟩
def Dt.pt (x : Dt) : Pt := ⟨[], x.week, x.year, x.month, x.day, x.hour, x.min, x.sec, false⟩
theorem clock_inv {p : Pt} (h : p.clock.bad = false) : p.bad = false ∧ p.left = pad2 p.clock.hour ++ ([58] ++ (pad2 p.clock.min ++ ([58] ++ (pad2 p.clock.sec ++ p.clock.left)))) ∧ p.clock.hour < 100 ∧ p.clock.min < 100 ∧ p.clock.sec < 100 := by
 have e1 : p.clock.hour = p.digV 2 := (by simp only [Pt.clock, Pt.aSec, Pt.aMin, Pt.aHour, w_hour, d_hour]);have e2 : p.clock.min = (p.aHour.word [58]).digV 2 := (by simp only [Pt.clock, Pt.aSec, Pt.aMin, w_min, d_min]);have e3 : p.clock.sec = ((p.aHour.word [58]).aMin.word [58]).digV 2 := (by simp only [Pt.clock, Pt.aSec]);have h5 := dig2_inv (p := (p.aHour.word [58]).aMin.word [58]) h;have h4 := word_inv h5.1;have h3 := dig2_inv (p := p.aHour.word [58]) h4.1;have h2 := word_inv h3.1;have h1 := dig2_inv (p := p) h2.1;refine ⟨h1.1, ?_, by rw [e1];exact h1.2.2, by rw [e2];exact h3.2.2, by rw [e3];exact h5.2.2⟩;rw [h1.2.1, e1, show (p.dig 2).left = p.aHour.left from rfl, h2.2, h3.2.1, e2, show ((p.aHour.word [58]).dig 2).left = (p.aHour.word [58]).aMin.left from rfl, h4.2, h5.2.1, e3];rfl
theorem clock_week (p : Pt) : p.clock.week = p.week ∧ p.clock.year = p.year ∧ p.clock.month = p.month ∧ p.clock.day = p.day := by
 simp only [Pt.clock, Pt.aSec, Pt.aMin, Pt.aHour, w_week, w_year, w_month, w_day, d_week, d_year, d_month, d_day, and_self]
theorem word_at (s r : Bytes) (w y m d h mi sc : Nat) (b : Bool) : Pt.word ⟨s ++ r, w, y, m, d, h, mi, sc, b⟩ s = ⟨r, w, y, m, d, h, mi, sc, b⟩ := word_eat (p := ⟨s ++ r, w, y, m, d, h, mi, sc, b⟩) rfl
theorem word_end (s : Bytes) (w y m d h mi sc : Nat) (b : Bool) : Pt.word ⟨s, w, y, m, d, h, mi, sc, b⟩ s = ⟨[], w, y, m, d, h, mi, sc, b⟩ := word_eat (p := ⟨s, w, y, m, d, h, mi, sc, b⟩) (by simp)
theorem aDay_at (v : Nat) (r : Bytes) (w y m d h mi sc : Nat) (b : Bool) (hv : v < 100) : Pt.aDay ⟨pad2 v ++ r, w, y, m, d, h, mi, sc, b⟩ 2 = ⟨r, w, y, m, v, h, mi, sc, b⟩ := by
 have := dig2_eat (p := ⟨pad2 v ++ r, w, y, m, d, h, mi, sc, b⟩) rfl hv
 unfold Pt.aDay;rw [this.1, this.2]
theorem aHour_at (v : Nat) (r : Bytes) (w y m d h mi sc : Nat) (b : Bool) (hv : v < 100) : Pt.aHour ⟨pad2 v ++ r, w, y, m, d, h, mi, sc, b⟩ = ⟨r, w, y, m, d, v, mi, sc, b⟩ := by
 have := dig2_eat (p := ⟨pad2 v ++ r, w, y, m, d, h, mi, sc, b⟩) rfl hv
 unfold Pt.aHour;rw [this.1, this.2]
theorem aMin_at (v : Nat) (r : Bytes) (w y m d h mi sc : Nat) (b : Bool) (hv : v < 100) : Pt.aMin ⟨pad2 v ++ r, w, y, m, d, h, mi, sc, b⟩ = ⟨r, w, y, m, d, h, v, sc, b⟩ := by
 have := dig2_eat (p := ⟨pad2 v ++ r, w, y, m, d, h, mi, sc, b⟩) rfl hv
 unfold Pt.aMin;rw [this.1, this.2]
theorem aSec_at (v : Nat) (r : Bytes) (w y m d h mi sc : Nat) (b : Bool) (hv : v < 100) : Pt.aSec ⟨pad2 v ++ r, w, y, m, d, h, mi, sc, b⟩ = ⟨r, w, y, m, d, h, mi, v, b⟩ := by
 have := dig2_eat (p := ⟨pad2 v ++ r, w, y, m, d, h, mi, sc, b⟩) rfl hv
 unfold Pt.aSec;rw [this.1, this.2]
theorem aYear_at (v : Nat) (r : Bytes) (w y m d h mi sc : Nat) (b : Bool) (hv : v < 10000) : Pt.aYear ⟨pad4 v ++ r, w, y, m, d, h, mi, sc, b⟩ = ⟨r, w, v, m, d, h, mi, sc, b⟩ := by
 have := dig4_eat (p := ⟨pad4 v ++ r, w, y, m, d, h, mi, sc, b⟩) rfl hv
 unfold Pt.aYear;rw [this.1, this.2]
theorem aYear_end (v : Nat) (w y m d h mi sc : Nat) (b : Bool) (hv : v < 10000) : Pt.aYear ⟨pad4 v, w, y, m, d, h, mi, sc, b⟩ = ⟨[], w, v, m, d, h, mi, sc, b⟩ := by
 have := dig4_eat (p := ⟨pad4 v, w, y, m, d, h, mi, sc, b⟩) (r := []) (by simp) hv
 unfold Pt.aYear;rw [this.1, this.2]
theorem aWeek_at (k : Nat) (r : Bytes) (w y m d h mi sc : Nat) (b : Bool) (hk : k < 7) : Pt.aWeek ⟨dayF k ++ r, w, y, m, d, h, mi, sc, b⟩ = ⟨r, k, y, m, d, h, mi, sc, b⟩ := by
 have := nam_eat_day (p := ⟨dayF k ++ r, w, y, m, d, h, mi, sc, b⟩) rfl hk
 unfold Pt.aWeek;rw [this.1, this.2]
theorem aMonth_at (k : Nat) (r : Bytes) (w y m d h mi sc : Nat) (b : Bool) (hk : k < 12) : Pt.aMonth ⟨monF k ++ r, w, y, m, d, h, mi, sc, b⟩ = ⟨r, w, y, k, d, h, mi, sc, b⟩ := by
 have := nam_eat_mon (p := ⟨monF k ++ r, w, y, m, d, h, mi, sc, b⟩) rfl hk
 unfold Pt.aMonth;rw [this.1, this.2]
theorem clock_at (x : Dt) (r : Bytes) (w y m d h mi sc : Nat) (b : Bool) (h1 : x.hour < 100) (h2 : x.min < 100) (h3 : x.sec < 100) : Pt.clock ⟨x.clockT r, w, y, m, d, h, mi, sc, b⟩ = ⟨r, w, y, m, d, x.hour, x.min, x.sec, b⟩ := by
 unfold Pt.clock Dt.clockT;simp only [aHour_at, aMin_at, aSec_at, word_at, h1, h2, h3]
theorem f_year (p : Pt) : p.aYear.year = p.digV 4 := rfl
theorem f_month (p : Pt) : p.aMonth.month = p.namV monTab := rfl
theorem f_day (p : Pt) (n : Nat) : (p.aDay n).day = p.digV n := rfl
theorem f_week (p : Pt) : p.aWeek.week = p.namV dayTab := rfl
def Eats (p q : Pt) (s : Bytes) : Prop := q.bad = false → p.bad = false ∧ p.left = s ++ q.left
theorem Eats.trans {p q r : Pt} {s t : Bytes} (h : Eats p q s) (k : Eats q r t) : Eats p r (s ++ t) := fun hb =>
 have h2 := k hb;have h1 := h h2.1
 ⟨h1.1, by rw [h1.2, h2.2, List.append_assoc]⟩
theorem Eats.word (p : Pt) (s : Bytes) : Eats p (p.word s) s := fun h => word_inv h
theorem Eats.week (p : Pt) : Eats p p.aWeek (dayF p.aWeek.week) := fun h => have k := nam_inv (p := p) (tab := dayTab) h;⟨k.1, k.2.1⟩
theorem Eats.month (p : Pt) : Eats p p.aMonth (monF p.aMonth.month) := fun h => have k := nam_inv (p := p) (tab := monTab) h;⟨k.1, k.2.1⟩
theorem Eats.day (p : Pt) : Eats p (p.aDay 2) (pad2 (p.aDay 2).day) := fun h => have k := dig2_inv (p := p) h;⟨k.1, k.2.1⟩
theorem Eats.year (p : Pt) : Eats p p.aYear (pad4 p.aYear.year) := fun h => have k := dig4_inv (p := p) h;⟨k.1, k.2.1⟩
theorem Eats.clock (p : Pt) : Eats p p.clock (pad2 p.clock.hour ++ ([58] ++ (pad2 p.clock.min ++ ([58] ++ pad2 p.clock.sec)))) := fun h => have k := clock_inv h;⟨k.1, by rw [k.2.1];simp only [List.append_assoc]⟩
theorem bad_word {p : Pt} {s : Bytes} (h : (p.word s).bad = false) : p.bad = false := (word_inv h).1
theorem bad_week {p : Pt} (h : p.aWeek.bad = false) : p.bad = false ∧ p.aWeek.week < 7 := have k := nam_inv (p := p) (tab := dayTab) h;⟨k.1, k.2.2⟩
theorem bad_month {p : Pt} (h : p.aMonth.bad = false) : p.bad = false ∧ p.aMonth.month < 12 := have k := nam_inv (p := p) (tab := monTab) h;⟨k.1, k.2.2⟩
theorem bad_day {p : Pt} (h : (p.aDay 2).bad = false) : p.bad = false ∧ (p.aDay 2).day < 100 := have k := dig2_inv (p := p) h;⟨k.1, k.2.2⟩
theorem bad_year {p : Pt} (h : p.aYear.bad = false) : p.bad = false ∧ p.aYear.year < 10000 := have k := dig4_inv (p := p) h;⟨k.1, k.2.2⟩
theorem bad_clock {p : Pt} (h : p.clock.bad = false) : p.bad = false ∧ p.clock.hour < 100 ∧ p.clock.min < 100 ∧ p.clock.sec < 100 := have k := clock_inv h;⟨k.1, k.2.2.1, k.2.2.2.1, k.2.2.2.2⟩
theorem own_inv {p : Pt} (h : p.own.bad = false) (hl : p.own.left = []) : p.bad = false ∧ p.left = p.own.dt.text 0 ∧ p.own.dt.Small := by
 obtain ⟨q0, e0⟩ : ∃ q, q = p.aWeek := ⟨_, rfl⟩;obtain ⟨q1, e1⟩ : ∃ q, q = q0.word commaT := ⟨_, rfl⟩;obtain ⟨q2, e2⟩ : ∃ q, q = q1.aDay 2 := ⟨_, rfl⟩;obtain ⟨q3, e3⟩ : ∃ q, q = q2.word [32] := ⟨_, rfl⟩;obtain ⟨q4, e4⟩ : ∃ q, q = q3.aMonth := ⟨_, rfl⟩;obtain ⟨q5, e5⟩ : ∃ q, q = q4.word [32] := ⟨_, rfl⟩;obtain ⟨q6, e6⟩ : ∃ q, q = q5.aYear := ⟨_, rfl⟩;obtain ⟨q7, e7⟩ : ∃ q, q = q6.word [32] := ⟨_, rfl⟩;obtain ⟨q8, e8⟩ : ∃ q, q = q7.clock := ⟨_, rfl⟩;obtain ⟨q9, e9⟩ : ∃ q, q = q8.word gmtT := ⟨_, rfl⟩;have e : p.own = q9 := (by rw [e9, e8, e7, e6, e5, e4, e3, e2, e1, e0];rfl);rw [e] at h hl ⊢;have b9 : q8.bad = false := bad_word (by rw [← e9];exact h);have b8 := bad_clock (p := q7) (by rw [← e8];exact b9);have b7 : q6.bad = false := bad_word (by rw [← e7];exact b8.1);have b6 := bad_year (p := q5) (by rw [← e6];exact b7);have b5 : q4.bad = false := bad_word (by rw [← e5];exact b6.1);have b4 := bad_month (p := q3) (by rw [← e4];exact b5);have b3 : q2.bad = false := bad_word (by rw [← e3];exact b4.1);have b2 := bad_day (p := q1) (by rw [← e2];exact b3);have b1 : q0.bad = false := bad_word (by rw [← e1];exact b2.1);have b0 := bad_week (p := p) (by rw [← e0];exact b1);have t9 := Eats.word q8 gmtT;have t8 := Eats.clock q7;have t7 := Eats.word q6 [32];have t6 := Eats.year q5;have t5 := Eats.word q4 [32];have t4 := Eats.month q3;have t3 := Eats.word q2 [32];have t2 := Eats.day q1;have t1 := Eats.word q0 commaT;have t0 := Eats.week p;have c := clock_week q7;rw [← e9] at t9;rw [← e8] at t8 b8 c;rw [← e7] at t7;rw [← e6] at t6 b6;rw [← e5] at t5;rw [← e4] at t4 b4;rw [← e3] at t3;rw [← e2] at t2 b2;rw [← e1] at t1;rw [← e0] at t0 b0;have fy : q9.year = q6.year := (by rw [e9, w_year, c.2.1, e7, w_year]);have fM : q9.month = q4.month := (by rw [e9, w_month, c.2.2.1, e7, w_month, e6];unfold Pt.aYear;simp only [d_month];rw [e5, w_month]);have fd : q9.day = q2.day := (by rw [e9, w_day, c.2.2.2, e7, w_day, e6];unfold Pt.aYear;simp only [d_day];rw [e5, w_day, e4];unfold Pt.aMonth;simp only [n_day];rw [e3, w_day]);have fw : q9.week = q0.week := (by rw [e9, w_week, c.1, e7, w_week, e6];unfold Pt.aYear;simp only [d_week];rw [e5, w_week, e4];unfold Pt.aMonth;simp only [n_week];rw [e3, w_week, e2];unfold Pt.aDay;simp only [d_week];rw [e1, w_week]);have fh : q9.hour = q8.hour := (by rw [e9, w_hour]);have fm : q9.min = q8.min := (by rw [e9, w_min]);have fs : q9.sec = q8.sec := (by rw [e9, w_sec]);have T := (((((((((t0.trans t1).trans t2).trans t3).trans t4).trans t5).trans t6).trans t7).trans t8).trans t9) h;clear e e0 e1 e2 e3 e4 e5 e6 e7 e8 e9;refine ⟨T.1, ?_, by rw [show q9.dt.Small = (q9.year < 10000 ∧ q9.month < 12 ∧ q9.day < 100 ∧ q9.hour < 100 ∧ q9.min < 100 ∧ q9.sec < 100 ∧ q9.week < 7) from rfl, fy, fM, fd, fw, fh, fm, fs];exact ⟨b6.2, b4.2, b2.2, b8.2.1, b8.2.2.1, b8.2.2.2, b0.2⟩⟩;rw [T.2, hl, show q9.dt.text 0 = dayF q9.week ++ (commaT ++ (pad2 q9.day ++ ([32] ++ (monF q9.month ++ ([32] ++ (pad4 q9.year ++ ([32] ++ (pad2 q9.hour ++ ([58] ++ (pad2 q9.min ++ ([58] ++ (pad2 q9.sec ++ gmtT)))))))))))) from rfl, fy, fM, fd, fw, fh, fm, fs]
 simp only [List.append_assoc, List.append_nil]
theorem own_eat (x : Dt) (hx : x.Small) : Pt.own ⟨x.text 0, 0, 0, 0, 0, 0, 0, 0, false⟩ = x.pt := by
 obtain ⟨hy, hm, hd, hh, hmi, hs, hw⟩ := hx;unfold Pt.own Dt.text Dt.pt;simp only [aWeek_at, aMonth_at, aDay_at, aYear_at, clock_at, word_at, word_end, hy, hm, hd, hh, hmi, hs, hw]
def winY (now v : Nat) : Nat := if now + 50 < now - now % 100 + v then now - now % 100 + v - 100 else now - now % 100 + v
theorem winY_mod (now v : Nat) (h : 1970 ≤ now) (hv : v < 100) : winY now v % 100 = v := by
 unfold winY
 split <;> omega
theorem winY_lt (now v : Nat) (h : now ≤ 9999) (hv : v < 100) : winY now v < 10000 := by
 unfold winY
 split <;> omega
theorem oldYear_eq (p : Pt) (now : Nat) : p.oldYear now = { p.dig 2 with year := winY now (p.digV 2) } := rfl
theorem long_day (k : Nat) (h : k < 7) : longF k = dayF k ++ (longF k).drop 3 := by
 match k, h with
 | 0, _ | 1, _ | 2, _ | 3, _ | 4, _ | 5, _ | 6, _ => rfl
theorem f_old (p : Pt) (now : Nat) : (p.oldYear now).year = winY now (p.digV 2) := rfl
theorem oldWeek_inv {p : Pt} (h : p.oldWeek.bad = false) : p.bad = false ∧ p.oldWeek = p.word ((longF p.week).drop 3) := by
 unfold Pt.oldWeek at h ⊢;by_cases hb : p.bad = true
 ·rw [if_pos hb] at h;rw [hb] at h;cases h
 ·rw [if_neg hb];exact ⟨by simpa using hb, rfl⟩
theorem Eats.oldWeek (p : Pt) : Eats p p.oldWeek ((longF p.week).drop 3) := fun h => by
 have k := oldWeek_inv h;rw [k.2] at h ⊢;exact word_inv h
theorem Eats.oldYear (p : Pt) (now : Nat) (hn : 1970 ≤ now) : Eats p (p.oldYear now) (pad2 ((p.oldYear now).year % 100)) := fun h => by
 have k := dig2_inv (p := p) h;rw [show (p.oldYear now).year = winY now (p.digV 2) from rfl, winY_mod now _ hn k.2.2];exact ⟨k.1, k.2.1⟩
theorem bad_oldYear {p : Pt} {now : Nat} (hn : 1970 ≤ now) (hn2 : now ≤ 9999) (h : (p.oldYear now).bad = false) : p.bad = false ∧ (p.oldYear now).year < 10000 ∧ (p.oldYear now).year = winY now ((p.oldYear now).year % 100) := by
 have k := dig2_inv (p := p) h;rw [show (p.oldYear now).year = winY now (p.digV 2) from rfl];exact ⟨k.1, winY_lt _ _ hn2 k.2.2, by rw [winY_mod now _ hn k.2.2]⟩
theorem old_fields (p : Pt) : p.oldWeek.week = p.week := by unfold Pt.oldWeek;split <;> rfl
theorem old_inv {p : Pt} {now : Nat} (hn : 1970 ≤ now) (hn2 : now ≤ 9999) (h : (p.old now).bad = false) (hl : (p.old now).left = []) : p.bad = false ∧ p.left = (p.old now).dt.text 1 ∧ (p.old now).dt.Small ∧ (p.old now).year = winY now ((p.old now).year % 100) := by
 obtain ⟨q0, e0⟩ : ∃ q, q = p.aWeek := ⟨_, rfl⟩;obtain ⟨qo, eo⟩ : ∃ q, q = q0.oldWeek := ⟨_, rfl⟩;obtain ⟨q1, e1⟩ : ∃ q, q = qo.word commaT := ⟨_, rfl⟩;obtain ⟨q2, e2⟩ : ∃ q, q = q1.aDay 2 := ⟨_, rfl⟩;obtain ⟨q3, e3⟩ : ∃ q, q = q2.word [45] := ⟨_, rfl⟩;obtain ⟨q4, e4⟩ : ∃ q, q = q3.aMonth := ⟨_, rfl⟩;obtain ⟨q5, e5⟩ : ∃ q, q = q4.word [45] := ⟨_, rfl⟩;obtain ⟨q6, e6⟩ : ∃ q, q = q5.oldYear now := ⟨_, rfl⟩;obtain ⟨q7, e7⟩ : ∃ q, q = q6.word [32] := ⟨_, rfl⟩;obtain ⟨q8, e8⟩ : ∃ q, q = q7.clock := ⟨_, rfl⟩;obtain ⟨q9, e9⟩ : ∃ q, q = q8.word gmtT := ⟨_, rfl⟩;have e : p.old now = q9 := (by rw [e9, e8, e7, e6, e5, e4, e3, e2, e1, eo, e0];rfl);rw [e] at h hl ⊢;have b9 : q8.bad = false := bad_word (by rw [← e9];exact h);have b8 := bad_clock (p := q7) (by rw [← e8];exact b9);have b7 : q6.bad = false := bad_word (by rw [← e7];exact b8.1);have b6 := bad_oldYear (p := q5) hn hn2 (by rw [← e6];exact b7);have b5 : q4.bad = false := bad_word (by rw [← e5];exact b6.1);have b4 := bad_month (p := q3) (by rw [← e4];exact b5);have b3 : q2.bad = false := bad_word (by rw [← e3];exact b4.1);have b2 := bad_day (p := q1) (by rw [← e2];exact b3);have b1 : qo.bad = false := bad_word (by rw [← e1];exact b2.1);have bo := oldWeek_inv (p := q0) (by rw [← eo];exact b1);have b0 := bad_week (p := p) (by rw [← e0];exact bo.1);have t9 := Eats.word q8 gmtT;have t8 := Eats.clock q7;have t7 := Eats.word q6 [32];have t6 := Eats.oldYear q5 now hn;have t5 := Eats.word q4 [45];have t4 := Eats.month q3;have t3 := Eats.word q2 [45];have t2 := Eats.day q1;have t1 := Eats.word qo commaT;have to := Eats.oldWeek q0;have t0 := Eats.week p;have c := clock_week q7;rw [← e9] at t9;rw [← e8] at t8 b8 c;rw [← e7] at t7;rw [← e6] at t6 b6;rw [← e5] at t5;rw [← e4] at t4 b4;rw [← e3] at t3;rw [← e2] at t2 b2;rw [← e1] at t1;rw [← e0] at t0 b0;rw [← eo] at to;have fy : q9.year = q6.year := (by rw [e9, w_year, c.2.1, e7, w_year]);have fM : q9.month = q4.month := (by rw [e9, w_month, c.2.2.1, e7, w_month, e6];rw [oldYear_eq];simp only [d_month];rw [e5, w_month]);have fd : q9.day = q2.day := (by rw [e9, w_day, c.2.2.2, e7, w_day, e6];rw [oldYear_eq];simp only [d_day];rw [e5, w_day, e4];unfold Pt.aMonth;simp only [n_day];rw [e3, w_day]);have fw : q9.week = q0.week := (by rw [e9, w_week, c.1, e7, w_week, e6];rw [oldYear_eq];simp only [d_week];rw [e5, w_week, e4];unfold Pt.aMonth;simp only [n_week];rw [e3, w_week, e2];unfold Pt.aDay;simp only [d_week];rw [e1, w_week, eo, old_fields]);have fh : q9.hour = q8.hour := (by rw [e9, w_hour]);have fm : q9.min = q8.min := (by rw [e9, w_min]);have fs : q9.sec = q8.sec := (by rw [e9, w_sec]);have T := ((((((((((t0.trans to).trans t1).trans t2).trans t3).trans t4).trans t5).trans t6).trans t7).trans t8).trans t9) h;clear e e0 eo e1 e2 e3 e4 e5 e6 e7 e8 e9;refine ⟨T.1, ?_, by rw [show q9.dt.Small = (q9.year < 10000 ∧ q9.month < 12 ∧ q9.day < 100 ∧ q9.hour < 100 ∧ q9.min < 100 ∧ q9.sec < 100 ∧ q9.week < 7) from rfl, fy, fM, fd, fw, fh, fm, fs];exact ⟨b6.2.1, b4.2, b2.2, b8.2.1, b8.2.2.1, b8.2.2.2, b0.2⟩, by rw [fy];exact b6.2.2⟩
 rw [T.2, hl, show q9.dt.text 1 = longF q9.week ++ (commaT ++ (pad2 q9.day ++ ([45] ++ (monF q9.month ++ ([45] ++ (pad2 (q9.year % 100) ++ ([32] ++ (pad2 q9.hour ++ ([58] ++ (pad2 q9.min ++ ([58] ++ (pad2 q9.sec ++ gmtT)))))))))))) from rfl, fy, fM, fd, fw, fh, fm, fs];have hL := long_day q0.week b0.2;generalize List.drop 3 (longF q0.week) = z at *;rw [hL];simp only [List.append_assoc, List.append_nil]
theorem oldWeek_at (r : Bytes) (w y m d h mi sc : Nat) : Pt.oldWeek ⟨(longF w).drop 3 ++ r, w, y, m, d, h, mi, sc, false⟩ = ⟨r, w, y, m, d, h, mi, sc, false⟩ := by
 unfold Pt.oldWeek;rw [if_neg (by simp)];exact word_at _ _ _ _ _ _ _ _ _ _
theorem oldYear_at (now v : Nat) (r : Bytes) (w y m d h mi sc : Nat) (b : Bool) (hv : v < 100) : Pt.oldYear ⟨pad2 v ++ r, w, y, m, d, h, mi, sc, b⟩ now = ⟨r, w, winY now v, m, d, h, mi, sc, b⟩ := by
 have := dig2_eat (p := ⟨pad2 v ++ r, w, y, m, d, h, mi, sc, b⟩) rfl hv
 rw [oldYear_eq, this.1, this.2]
theorem old_eat (x : Dt) (now : Nat) (hx : x.Small) (hy2 : x.year = winY now (x.year % 100)) : Pt.old ⟨x.text 1, 0, 0, 0, 0, 0, 0, 0, false⟩ now = x.pt := by
 obtain ⟨hy, hm, hd, hh, hmi, hs, hw⟩ := hx;have hv : x.year % 100 < 100 := Nat.mod_lt _ (by decide);unfold Pt.old Dt.text Dt.pt;rw [long_day _ hw, List.append_assoc];simp only [aWeek_at, oldWeek_at, oldYear_at, aMonth_at, aDay_at, clock_at, word_at, word_end, hv, hm, hd, hh, hmi, hs, hw, ← hy2]
theorem bareDay_inv {p : Pt} (h : p.bareDay.bad = false) : p.bad = false ∧ p.left = lowDay p.bareDay.day ++ p.bareDay.left ∧ p.bareDay.day < 100 := by
 unfold Pt.bareDay at h ⊢;by_cases hs : Lib.hasPrefix p.left [32] = true
 ·rw [if_pos hs] at h ⊢
  have h2 := dig1_inv (p := p.word [32]) h;have h1 := word_inv h2.1;have e : ((p.word [32]).aDay 1).day = (p.word [32]).digV 1 := rfl;refine ⟨h1.1, ?_, by rw [e];omega⟩;rw [e];unfold lowDay;rw [if_pos h2.2.2, h1.2, h2.2.1];rfl
 ·rw [if_neg hs] at h ⊢
  simp only [Bool.or_eq_false_iff, decide_eq_false_iff_not] at h;have h2 := dig2_inv (p := p) h.1;have h3 : ¬ p.digV 2 < 10 := h.2;refine ⟨h2.1, ?_, h2.2.2⟩
  show _ = lowDay (p.digV 2) ++ _
  unfold lowDay;rw [if_neg h3];exact h2.2.1
theorem bareDay_at (v : Nat) (r : Bytes) (w y m d h mi sc : Nat) (b : Bool) (hv : v < 100) : Pt.bareDay ⟨lowDay v ++ r, w, y, m, d, h, mi, sc, b⟩ = ⟨r, w, y, m, v, h, mi, sc, b⟩ := by
 unfold Pt.bareDay lowDay;by_cases h10 : v < 10
 ·rw [if_pos h10]
  have e : Lib.hasPrefix ([32, dg v] ++ r) [32] = true := (by simp [Lib.hasPrefix]);simp only [e, if_true];have a := word_at [32] ([dg v] ++ r) w y m d h mi sc b;have a2 := dig1_eat (p := ⟨[dg v] ++ r, w, y, m, d, h, mi, sc, b⟩) rfl h10;rw [show ([32, dg v] ++ r : Bytes) = [32] ++ ([dg v] ++ r) from rfl, a];unfold Pt.aDay;rw [a2.1, a2.2]
 ·rw [if_neg h10]
  have e : ¬ Lib.hasPrefix (pad2 v ++ r) [32] = true := by
   have hn : (dg (v / 10)).toNat = 48 + v / 10 % 10 := dg_nat _
   have hne : ¬ (32 : UInt8) = dg (v / 10) := fun e => by
    have := congrArg UInt8.toNat e
    rw [hn] at this;simp at this
    omega
   simp [Lib.hasPrefix, pad2, hne]
  rw [if_neg e, aDay_at _ _ _ _ _ _ _ _ _ _ hv];simp [h10]
theorem Eats.bareDay (p : Pt) : Eats p p.bareDay (lowDay p.bareDay.day) := fun h => have k := bareDay_inv h;⟨k.1, k.2.1⟩
theorem bare_fields (p : Pt) : p.bareDay.week = p.week ∧ p.bareDay.month = p.month := by
 unfold Pt.bareDay;split <;> simp only [Pt.aDay, d_week, d_month, w_week, w_month, and_self]
theorem bare_inv {p : Pt} (h : p.bare.bad = false) (hl : p.bare.left = []) : p.bad = false ∧ p.left = p.bare.dt.text 2 ∧ p.bare.dt.Small := by
 obtain ⟨q0, e0⟩ : ∃ q, q = p.aWeek := ⟨_, rfl⟩;obtain ⟨q1, e1⟩ : ∃ q, q = q0.word [32] := ⟨_, rfl⟩;obtain ⟨q2, e2⟩ : ∃ q, q = q1.aMonth := ⟨_, rfl⟩;obtain ⟨q3, e3⟩ : ∃ q, q = q2.word [32] := ⟨_, rfl⟩;obtain ⟨q4, e4⟩ : ∃ q, q = q3.bareDay := ⟨_, rfl⟩;obtain ⟨q5, e5⟩ : ∃ q, q = q4.word [32] := ⟨_, rfl⟩;obtain ⟨q6, e6⟩ : ∃ q, q = q5.clock := ⟨_, rfl⟩;obtain ⟨q7, e7⟩ : ∃ q, q = q6.word [32] := ⟨_, rfl⟩;obtain ⟨q8, e8⟩ : ∃ q, q = q7.aYear := ⟨_, rfl⟩;have e : p.bare = q8 := (by rw [e8, e7, e6, e5, e4, e3, e2, e1, e0];rfl);rw [e] at h hl ⊢;have b8 := bad_year (p := q7) (by rw [← e8];exact h);have b7 : q6.bad = false := bad_word (by rw [← e7];exact b8.1);have b6 := bad_clock (p := q5) (by rw [← e6];exact b7);have b5 : q4.bad = false := bad_word (by rw [← e5];exact b6.1);have b4 := bareDay_inv (p := q3) (by rw [← e4];exact b5);have b3 : q2.bad = false := bad_word (by rw [← e3];exact b4.1);have b2 := bad_month (p := q1) (by rw [← e2];exact b3);have b1 : q0.bad = false := bad_word (by rw [← e1];exact b2.1);have b0 := bad_week (p := p) (by rw [← e0];exact b1);have t8 := Eats.year q7;have t7 := Eats.word q6 [32];have t6 := Eats.clock q5;have t5 := Eats.word q4 [32];have t4 := Eats.bareDay q3;have t3 := Eats.word q2 [32];have t2 := Eats.month q1;have t1 := Eats.word q0 [32];have t0 := Eats.week p;have c := clock_week q5;have bf := bare_fields q3;rw [← e8] at t8 b8;rw [← e7] at t7;rw [← e6] at t6 b6 c;rw [← e5] at t5;rw [← e4] at t4 b4 bf;rw [← e3] at t3;rw [← e2] at t2 b2;rw [← e1] at t1;rw [← e0] at t0 b0
 have g : q8.month = q7.month ∧ q8.day = q7.day ∧ q8.week = q7.week ∧ q8.hour = q7.hour ∧ q8.min = q7.min ∧ q8.sec = q7.sec := by
  rw [e8];unfold Pt.aYear;simp only [d_month, d_day, d_week, d_hour, d_min, d_sec, and_self]
 have fM : q8.month = q2.month := (by rw [g.1, e7, w_month, c.2.2.1, e5, w_month, bf.2, e3, w_month]);have fd : q8.day = q4.day := (by rw [g.2.1, e7, w_day, c.2.2.2, e5, w_day]);have fw : q8.week = q0.week := (by rw [g.2.2.1, e7, w_week, c.1, e5, w_week, bf.1, e3, w_week, e2];unfold Pt.aMonth;simp only [n_week];rw [e1, w_week]);have fh : q8.hour = q6.hour := (by rw [g.2.2.2.1, e7, w_hour]);have fm : q8.min = q6.min := (by rw [g.2.2.2.2.1, e7, w_min]);have fs : q8.sec = q6.sec := (by rw [g.2.2.2.2.2, e7, w_sec]);have T := ((((((((t0.trans t1).trans t2).trans t3).trans t4).trans t5).trans t6).trans t7).trans t8) h;clear e e0 e1 e2 e3 e4 e5 e6 e7 e8;refine ⟨T.1, ?_, by rw [show q8.dt.Small = (q8.year < 10000 ∧ q8.month < 12 ∧ q8.day < 100 ∧ q8.hour < 100 ∧ q8.min < 100 ∧ q8.sec < 100 ∧ q8.week < 7) from rfl, fM, fd, fw, fh, fm, fs];exact ⟨b8.2, b2.2, b4.2.2, b6.2.1, b6.2.2.1, b6.2.2.2, b0.2⟩⟩;rw [T.2, hl, show q8.dt.text 2 = dayF q8.week ++ ([32] ++ (monF q8.month ++ ([32] ++ (lowDay q8.day ++ ([32] ++ (pad2 q8.hour ++ ([58] ++ (pad2 q8.min ++ ([58] ++ (pad2 q8.sec ++ ([32] ++ pad4 q8.year))))))))))) from rfl, fM, fd, fw, fh, fm, fs];simp only [List.append_assoc, List.append_nil]
theorem bare_eat (x : Dt) (hx : x.Small) : Pt.bare ⟨x.text 2, 0, 0, 0, 0, 0, 0, 0, false⟩ = x.pt := by
 obtain ⟨hy, hm, hd, hh, hmi, hs, hw⟩ := hx;unfold Pt.bare Dt.text Dt.pt;simp only [aWeek_at, aMonth_at, bareDay_at, aYear_end, clock_at, word_at, hy, hm, hd, hh, hmi, hs, hw]
def twoF (s : Bytes) (a : Int) : Int := if 0 ≤ a ∧ a + 2 ≤ s.length ∧ isDig (s.getD a.toNat 0) = true ∧ isDig (s.getD (a.toNat + 1) 0) = true then (((s.getD a.toNat 0).toNat : Int) - 48) * 10 + (((s.getD (a.toNat + 1) 0).toNat : Int) - 48) else -1
def monthF (s : Bytes) (a : Int) : Nat := if 0 ≤ a ∧ a + 3 ≤ s.length ∧ monTab.findIdx (fun t => t == (s.drop a.toNat).take 3) < 12 then monTab.findIdx (fun t => t == (s.drop a.toNat).take 3) + 1 else 0
theorem two_at (pre post : Bytes) (v : Nat) (a : Int) (ha : a = (pre.length : Int)) (hv : v < 100) : twoF (pre ++ (pad2 v ++ post)) a = (v : Int) := by
 subst ha;have e0 : (pre ++ (pad2 v ++ post)).getD (pre.length : Int).toNat 0 = dg (v / 10) := (by simp [pad2]);have e1 : (pre ++ (pad2 v ++ post)).getD ((pre.length : Int).toNat + 1) 0 = dg v := (by simp [pad2]);unfold twoF;rw [e0, e1, if_pos ⟨by omega, by simp [pad2];omega, dg_dig _, dg_dig _⟩, dg_nat, dg_nat];omega
theorem month_at (pre post : Bytes) (m : Nat) (a : Int) (ha : a = (pre.length : Int)) (hm : m < 12) : monthF (pre ++ (monF m ++ post)) a = m + 1 := by
 subst ha
 have e : ((pre ++ (monF m ++ post)).drop (pre.length : Int).toNat).take 3 = monF m := by
  simp
  match m, hm with
  | 0, _ | 1, _ | 2, _ | 3, _ | 4, _ | 5, _ | 6, _ | 7, _ | 8, _ | 9, _ | 10, _ | 11, _ => simp [monF, monTab]
 have e2 : monTab.findIdx (fun t => t == monF m) = m ∧ (monF m).length = 3 := by
  match m, hm with
  | 0, _ | 1, _ | 2, _ | 3, _ | 4, _ | 5, _ | 6, _ | 7, _ | 8, _ | 9, _ | 10, _ | 11, _ => exact ⟨by decide, by decide⟩
 unfold monthF;rw [e, e2.1, if_pos ⟨by omega, by simp [e2.2];omega, hm⟩]
structure Gs where
 year : Int
 month : Nat
 day : Int
 hour : Int
 min : Int
 sec : Int
def gYear (now : Nat) (t : Int) : Int := if (now : Int) / 100 * 100 + t > (now : Int) + 50 then (now : Int) / 100 * 100 + t - 100 else (now : Int) / 100 * 100 + t
def gDay (s : Bytes) : Int := if 9 < s.length ∧ s.getD 8 0 = 32 ∧ isDig (s.getD 9 0) = true then ((s.getD 9 0).toNat : Int) - 48 else twoF s 8
def gClock (s : Bytes) (kind : Nat) : Int := if kind = 2 then (s.length : Int) - 13 else (s.length : Int) - 12
def guessF (s : Bytes) (kind now : Nat) : Gs :=
  { hour := twoF s (gClock s kind), min := twoF s (gClock s kind + 3), sec := twoF s (gClock s kind + 6),
    day := if kind = 0 then twoF s 5 else if kind = 1 then twoF s (gClock s kind - 10) else gDay s,
    month := if kind = 0 then monthF s 8 else if kind = 1 then monthF s (gClock s kind - 7) else monthF s 4,
    year := if kind = 0 then twoF s 12 * 100 + twoF s 14 else if kind = 1 then gYear now (twoF s (gClock s kind - 3)) else twoF s 20 * 100 + twoF s 22 }
def Dt.gs (x : Dt) : Gs := ⟨x.year, x.month + 1, x.day, x.hour, x.min, x.sec⟩
theorem day3 (k : Nat) (h : k < 7) : ∃ a b c, dayF k = [a, b, c] := by
 match k, h with
 | 0, _ | 1, _ | 2, _ | 3, _ | 4, _ | 5, _ | 6, _ => exact ⟨_, _, _, rfl⟩
theorem mon3 (k : Nat) (h : k < 12) : ∃ a b c, monF k = [a, b, c] := by
 match k, h with
 | 0, _ | 1, _ | 2, _ | 3, _ | 4, _ | 5, _ | 6, _ | 7, _ | 8, _ | 9, _ | 10, _ | 11, _ => exact ⟨_, _, _, rfl⟩
theorem pad4_two (y : Nat) : pad4 y = pad2 (y / 100) ++ pad2 (y % 100) := by
 unfold pad4 pad2;have e1 : dg (y / 100 / 10) = dg (y / 1000) := (by rw [Nat.div_div_eq_div_mul]);have e2 : dg (y % 100 / 10) = dg (y / 10) := (by unfold dg;congr 2;omega);have e3 : dg (y % 100) = dg y := (by unfold dg;congr 2;omega);rw [e1, e2, e3];rfl
theorem gYear_win (now v : Nat) : gYear now (v : Int) = if now + 50 < now - now % 100 + v then (now - now % 100 + v : Nat) - (100 : Int) else ((now - now % 100 + v : Nat) : Int) := by
 unfold gYear;have e : (now : Int) / 100 * 100 = ((now - now % 100 : Nat) : Int) := (by omega);rw [e];by_cases h : now + 50 < now - now % 100 + v
 ·rw [if_pos h, if_pos (by omega)];omega
 ·rw [if_neg h, if_neg (by omega)];omega
theorem gYear_win2 (now v : Nat) (hn : 1970 ≤ now) : gYear now (v : Int) = (winY now v : Nat) := by
 rw [gYear_win];unfold winY
 split <;> omega
theorem guess0 (x : Dt) (now : Nat) (hx : x.Small) : guessF (x.text 0) 0 now = x.gs := by
 obtain ⟨hy, hm, hd, hh, hmi, hs, hw⟩ := hx;obtain ⟨a, b, c, e⟩ := day3 x.week hw;obtain ⟨a', b', c', e'⟩ := mon3 x.month hm
 have hc : gClock (x.text 0) 0 = 17 := by
  unfold gClock Dt.text Dt.clockT;simp [e, e', commaT, gmtT, pad2, pad4]
 have t1 : twoF (x.text 0) 17 = x.hour := by
  unfold Dt.text Dt.clockT;rw [e, e'];exact two_at [a, b, c, 44, 32, dg (x.day / 10), dg x.day, 32, a', b', c', 32, dg (x.year / 1000), dg (x.year / 100), dg (x.year / 10), dg x.year, 32] _ x.hour _ rfl hh
 have t2 : twoF (x.text 0) (17 + 3) = x.min := by
  unfold Dt.text Dt.clockT;rw [e, e'];exact two_at [a, b, c, 44, 32, dg (x.day / 10), dg x.day, 32, a', b', c', 32, dg (x.year / 1000), dg (x.year / 100), dg (x.year / 10), dg x.year, 32, dg (x.hour / 10), dg x.hour, 58] _ x.min _ rfl hmi
 have t3 : twoF (x.text 0) (17 + 6) = x.sec := by
  unfold Dt.text Dt.clockT;rw [e, e'];exact two_at [a, b, c, 44, 32, dg (x.day / 10), dg x.day, 32, a', b', c', 32, dg (x.year / 1000), dg (x.year / 100), dg (x.year / 10), dg x.year, 32, dg (x.hour / 10), dg x.hour, 58, dg (x.min / 10), dg x.min, 58] _ x.sec _ rfl hs
 have t4 : twoF (x.text 0) 5 = x.day := by
  unfold Dt.text Dt.clockT;rw [e];exact two_at [a, b, c, 44, 32] _ x.day _ rfl hd
 have t5 : monthF (x.text 0) 8 = x.month + 1 := by
  unfold Dt.text Dt.clockT;rw [e];exact month_at [a, b, c, 44, 32, dg (x.day / 10), dg x.day, 32] _ x.month _ rfl hm
 have t6 : twoF (x.text 0) 12 = ((x.year / 100 : Nat) : Int) := by
  unfold Dt.text Dt.clockT;rw [e, e', pad4_two];exact two_at [a, b, c, 44, 32, dg (x.day / 10), dg x.day, 32, a', b', c', 32] _ (x.year / 100) _ rfl (by omega)
 have t7 : twoF (x.text 0) 14 = ((x.year % 100 : Nat) : Int) := by
  unfold Dt.text Dt.clockT;rw [e, e', pad4_two];exact two_at [a, b, c, 44, 32, dg (x.day / 10), dg x.day, 32, a', b', c', 32, dg (x.year / 100 / 10), dg (x.year / 100)] _ (x.year % 100) _ rfl (by omega)
 unfold guessF Dt.gs;rw [hc, t1, t2, t3, t4, t5, t6, t7];simp only [if_true]
 congr 1
 omega
theorem guess1 (x : Dt) (now : Nat) (hn : 1970 ≤ now) (hx : x.Small) : guessF (x.text 1) 1 now = ⟨(winY now (x.year % 100) : Nat), x.month + 1, x.day, x.hour, x.min, x.sec⟩ := by
 obtain ⟨hy, hm, hd, hh, hmi, hs, hw⟩ := hx;obtain ⟨a', b', c', e'⟩ := mon3 x.month hm
 have hc : gClock (x.text 1) 1 = ((longF x.week).length : Int) + 12 := by
  unfold gClock Dt.text Dt.clockT;simp [e', commaT, gmtT, pad2];omega
 have hv : x.year % 100 < 100 := Nat.mod_lt _ (by decide)
 have t1 : twoF (x.text 1) (((longF x.week).length : Int) + 12) = x.hour := by
  unfold Dt.text Dt.clockT;rw [e'];have := two_at (longF x.week ++ [44, 32, dg (x.day / 10), dg x.day, 45, a', b', c', 45, dg (x.year % 100 / 10), dg (x.year % 100), 32]) ([58] ++ (pad2 x.min ++ ([58] ++ (pad2 x.sec ++ gmtT)))) x.hour (((longF x.week).length : Int) + 12) (by simp) hh
  rw [List.append_assoc] at this;exact this
 have t2 : twoF (x.text 1) (((longF x.week).length : Int) + 12 + 3) = x.min := by
  unfold Dt.text Dt.clockT;rw [e'];have := two_at (longF x.week ++ [44, 32, dg (x.day / 10), dg x.day, 45, a', b', c', 45, dg (x.year % 100 / 10), dg (x.year % 100), 32, dg (x.hour / 10), dg x.hour, 58]) ([58] ++ (pad2 x.sec ++ gmtT)) x.min (((longF x.week).length : Int) + 12 + 3) (by simp;omega) hmi
  rw [List.append_assoc] at this;exact this
 have t3 : twoF (x.text 1) (((longF x.week).length : Int) + 12 + 6) = x.sec := by
  unfold Dt.text Dt.clockT;rw [e'];have := two_at (longF x.week ++ [44, 32, dg (x.day / 10), dg x.day, 45, a', b', c', 45, dg (x.year % 100 / 10), dg (x.year % 100), 32, dg (x.hour / 10), dg x.hour, 58, dg (x.min / 10), dg x.min, 58]) gmtT x.sec (((longF x.week).length : Int) + 12 + 6) (by simp;omega) hs
  rw [List.append_assoc] at this;exact this
 have t4 : twoF (x.text 1) (((longF x.week).length : Int) + 12 - 10) = x.day := by
  unfold Dt.text Dt.clockT;have := two_at (longF x.week ++ [44, 32]) ([45] ++ (monF x.month ++ ([45] ++ (pad2 (x.year % 100) ++ ([32] ++ (pad2 x.hour ++ ([58] ++ (pad2 x.min ++ ([58] ++ (pad2 x.sec ++ gmtT)))))))))) x.day (((longF x.week).length : Int) + 12 - 10) (by simp;omega) hd
  rw [List.append_assoc] at this;exact this
 have t5 : monthF (x.text 1) (((longF x.week).length : Int) + 12 - 7) = x.month + 1 := by
  unfold Dt.text Dt.clockT;have := month_at (longF x.week ++ [44, 32, dg (x.day / 10), dg x.day, 45]) ([45] ++ (pad2 (x.year % 100) ++ ([32] ++ (pad2 x.hour ++ ([58] ++ (pad2 x.min ++ ([58] ++ (pad2 x.sec ++ gmtT)))))))) x.month (((longF x.week).length : Int) + 12 - 7) (by simp;omega) hm
  rw [List.append_assoc] at this;exact this
 have t6 : twoF (x.text 1) (((longF x.week).length : Int) + 12 - 3) = ((x.year % 100 : Nat) : Int) := by
  unfold Dt.text Dt.clockT;rw [e'];have := two_at (longF x.week ++ [44, 32, dg (x.day / 10), dg x.day, 45, a', b', c', 45]) ([32] ++ (pad2 x.hour ++ ([58] ++ (pad2 x.min ++ ([58] ++ (pad2 x.sec ++ gmtT)))))) (x.year % 100) (((longF x.week).length : Int) + 12 - 3) (by simp;omega) hv
  rw [List.append_assoc] at this;exact this
 unfold guessF;rw [hc, t1, t2, t3, t4, t5, t6];simp only [if_true, if_false, Nat.one_ne_zero, gYear_win2 now _ hn]
theorem guess2 (x : Dt) (now : Nat) (hx : x.Small) : guessF (x.text 2) 2 now = x.gs := by
 obtain ⟨hy, hm, hd, hh, hmi, hs, hw⟩ := hx;obtain ⟨a, b, c, e⟩ := day3 x.week hw;obtain ⟨a', b', c', e'⟩ := mon3 x.month hm;obtain ⟨d1, d2, ed⟩ : ∃ d1 d2, lowDay x.day = [d1, d2] := by unfold lowDay pad2;split <;> exact ⟨_, _, rfl⟩
 have hc : gClock (x.text 2) 2 = 11 := by
  unfold gClock Dt.text Dt.clockT;simp [e, e', ed, pad2, pad4]
 have t1 : twoF (x.text 2) 11 = x.hour := by
  unfold Dt.text Dt.clockT;rw [e, e', ed];exact two_at [a, b, c, 32, a', b', c', 32, d1, d2, 32] _ x.hour _ rfl hh
 have t2 : twoF (x.text 2) (11 + 3) = x.min := by
  unfold Dt.text Dt.clockT;rw [e, e', ed];exact two_at [a, b, c, 32, a', b', c', 32, d1, d2, 32, dg (x.hour / 10), dg x.hour, 58] _ x.min _ rfl hmi
 have t3 : twoF (x.text 2) (11 + 6) = x.sec := by
  unfold Dt.text Dt.clockT;rw [e, e', ed];exact two_at [a, b, c, 32, a', b', c', 32, d1, d2, 32, dg (x.hour / 10), dg x.hour, 58, dg (x.min / 10), dg x.min, 58] _ x.sec _ rfl hs
 have t5 : monthF (x.text 2) 4 = x.month + 1 := by
  unfold Dt.text Dt.clockT;rw [e];exact month_at [a, b, c, 32] _ x.month _ rfl hm
 have t6 : twoF (x.text 2) 20 = ((x.year / 100 : Nat) : Int) := by
  unfold Dt.text Dt.clockT;rw [e, e', ed, pad4_two];exact two_at [a, b, c, 32, a', b', c', 32, d1, d2, 32, dg (x.hour / 10), dg x.hour, 58, dg (x.min / 10), dg x.min, 58, dg (x.sec / 10), dg x.sec, 32] _ (x.year / 100) _ rfl (by omega)
 have t7 : twoF (x.text 2) 22 = ((x.year % 100 : Nat) : Int) := by
  unfold Dt.text Dt.clockT;rw [e, e', ed, pad4_two];exact two_at [a, b, c, 32, a', b', c', 32, d1, d2, 32, dg (x.hour / 10), dg x.hour, 58, dg (x.min / 10), dg x.min, 58, dg (x.sec / 10), dg x.sec, 32, dg (x.year / 100 / 10), dg (x.year / 100)] [] (x.year % 100) _ rfl (by omega)
 have t4 : gDay (x.text 2) = x.day := by
  unfold gDay;have q8 : (x.text 2).getD 8 0 = d1 := (by unfold Dt.text Dt.clockT;rw [e, e', ed];rfl);have q9 : (x.text 2).getD 9 0 = d2 := (by unfold Dt.text Dt.clockT;rw [e, e', ed];rfl);have ql : 9 < (x.text 2).length := (by unfold Dt.text Dt.clockT;rw [e, e', ed];simp);rw [q8, q9];by_cases h10 : x.day < 10
  ·unfold lowDay at ed
   rw [if_pos h10] at ed;simp only [List.cons.injEq, and_true] at ed;obtain ⟨rfl, rfl⟩ := ed;rw [if_pos ⟨ql, rfl, dg_dig _⟩, dg_nat];omega
  ·have hlow : lowDay x.day = pad2 x.day := by unfold lowDay;rw [if_neg h10]
   have ed2 := ed;rw [hlow] at ed2;simp only [pad2, List.cons.injEq, and_true] at ed2
   have hne : ¬ d1 = 32 := fun h32 => by
    have h1 := congrArg UInt8.toNat ed2.1;rw [dg_nat, h32] at h1;simp at h1
    omega
   rw [if_neg (by intro h;exact hne h.2.1)];unfold Dt.text Dt.clockT;rw [e, e', hlow];exact two_at [a, b, c, 32, a', b', c', 32] _ x.day _ rfl hd
 unfold guessF Dt.gs;rw [hc, t1, t2, t3, t4, t5, t6, t7];simp only [if_false, show ¬ (2 : Nat) = 0 by decide, show ¬ (2 : Nat) = 1 by decide]
 congr 1
 omega
def rightG (g : Gs) : Bool := decide (1970 ≤ g.year ∧ g.year ≤ 9999 ∧ 1 ≤ g.month ∧ 1 ≤ g.day ∧ g.day ≤ (mLen g.year.toNat (g.month - 1) : Nat) ∧ 0 ≤ g.hour ∧ g.hour ≤ 23 ∧ 0 ≤ g.min ∧ g.min ≤ 59 ∧ 0 ≤ g.sec ∧ g.sec ≤ 59)
def Dt.days (x : Dt) : Nat := dayOf x.year x.month x.day
def Dt.at (x : Dt) : Nat := x.days * 86400 + (3600 * x.hour + 60 * x.min + x.sec)
def Gs.dt (g : Gs) : Dt := ⟨g.year.toNat, g.month - 1, g.day.toNat, g.hour.toNat, g.min.toNat, g.sec.toNat, dayOf g.year.toNat (g.month - 1) g.day.toNat % 7⟩
def Dt.Right (x : Dt) : Prop := 1970 ≤ x.year ∧ x.year ≤ 9999 ∧ x.month < 12 ∧ 1 ≤ x.day ∧ x.day ≤ mLen x.year x.month ∧ x.hour ≤ 23 ∧ x.min ≤ 59 ∧ x.sec ≤ 59 ∧ x.week = x.days % 7
theorem Dt.Right.small {x : Dt} (h : x.Right) : x.Small := by
 obtain ⟨h1, h2, h3, h4, h5, h6, h7, h8, h9⟩ := h;have := mLen_le x.year x.month
 exact ⟨by omega, h3, by omega, by omega, by omega, by omega, by omega⟩
theorem monthF_le (s : Bytes) (a : Int) : monthF s a ≤ 12 := by unfold monthF;split <;> omega
theorem guess_month (s : Bytes) (k now : Nat) : (guessF s k now).month ≤ 12 := by
 unfold guessF
 dsimp only
 split
 ·exact monthF_le _ _
 split
 ·exact monthF_le _ _
 ·exact monthF_le _ _
theorem rightG_dt {g : Gs} (h : rightG g = true) (hm : g.month ≤ 12) : g.dt.Right ∧ g.dt.gs = g := by
 simp only [rightG, decide_eq_true_iff] at h;obtain ⟨h1, h2, h3, h4, h5, h6, h7, h8, h9, h10, h11⟩ := h;refine ⟨⟨by show 1970 ≤ g.year.toNat;omega, by show g.year.toNat ≤ 9999;omega, by show g.month - 1 < 12;omega, by show 1 ≤ g.day.toNat;omega, by show g.day.toNat ≤ mLen g.year.toNat (g.month - 1);omega, by show g.hour.toNat ≤ 23;omega, by show g.min.toNat ≤ 59;omega, by show g.sec.toNat ≤ 59;omega, rfl⟩, ?_⟩;obtain ⟨y, m, d, hh, mm, ss⟩ := g;unfold Dt.gs Gs.dt;simp only [Gs.mk.injEq] at *;exact ⟨by omega, by omega, by omega, by omega, by omega, by omega⟩
theorem gs_right {x : Dt} (h : x.Right) : rightG x.gs = true ∧ x.gs.dt = x := by
 obtain ⟨h1, h2, h3, h4, h5, h6, h7, h8, h9⟩ := h;refine ⟨?_, ?_⟩
 ·simp only [rightG, Dt.gs, decide_eq_true_iff, Int.toNat_natCast, Nat.add_sub_cancel]
  omega
 ·obtain ⟨y, m, d, hh, mm, ss, wk⟩ := x
  simp only [Dt.gs, Gs.dt, Int.toNat_natCast, Nat.add_sub_cancel, Dt.mk.injEq, true_and];exact h9.symm
def refF (s : Bytes) (k now : Nat) : Nat × Bool := if rightG (guessF s k now) = true then ((guessF s k now).dt.at, decide ((guessF s k now).dt.text k = s)) else (0, false)
theorem pt_moment {x : Dt} (h : x.Right) : x.pt.moment = (x.at, true) := by
 obtain ⟨h1, h2, h3, h4, h5, h6, h7, h8, h9⟩ := h;unfold Pt.moment
 have e : x.pt.wrong = false := by
  show (false || !([] : Bytes).isEmpty || decide (x.year < 1970) || decide (x.day < 1) || decide (mLen x.year x.month < x.day) || decide (23 < x.hour) || decide (59 < x.min) || decide (59 < x.sec)) = false
  simp only [List.isEmpty_nil, Bool.not_true, Bool.or_false, Bool.false_or, Bool.or_eq_false_iff, decide_eq_false_iff_not];omega
 rw [if_neg (by rw [e];simp)];have e2 : dayOf x.pt.year x.pt.month x.pt.day % 7 = x.pt.week := h9.symm;rw [e2];simp only [decide_true];rfl
theorem moment_right' {p : Pt} (h : p.moment.2 = true) : p.bad = false ∧ p.left = [] ∧ 1970 ≤ p.year ∧ 1 ≤ p.day ∧ p.day ≤ mLen p.year p.month ∧ p.hour ≤ 23 ∧ p.min ≤ 59 ∧ p.sec ≤ 59 ∧ dayOf p.year p.month p.day % 7 = p.week ∧ p.moment.1 = p.dt.at := by
 unfold Pt.moment at h ⊢;by_cases hw : p.wrong = true
 ·rw [if_pos hw] at h;cases h
 ·rw [if_neg hw] at h ⊢
  simp only [Pt.wrong, Bool.or_eq_true, not_or, Bool.not_eq_true, decide_eq_false_iff_not, Bool.not_eq_eq_eq_not, Bool.not_true, Bool.not_eq_false'] at hw;obtain ⟨⟨⟨⟨⟨⟨⟨hb, hl⟩, hy⟩, hd⟩, hL⟩, hh⟩, hm⟩, hs⟩ := hw;refine ⟨by simpa using hb, by simpa using hl, by omega, by omega, by omega, by omega, by omega, by omega, by simpa using h, rfl⟩
theorem way_eq (s : Bytes) (k now : Nat) (p : Pt)
  (hinv : p.bad = false → p.left = [] → s = p.dt.text k ∧ p.dt.Small ∧ guessF s k now = p.dt.gs)
  (heat : ∀ x : Dt, x.Right → s = x.text k → guessF s k now = x.gs → p = x.pt) : p.moment.2 = (refF s k now).2 ∧ (p.moment.2 = true → p.moment.1 = (refF s k now).1) := by
 by_cases h : p.moment.2 = true
 ·obtain ⟨hb, hl, hy, hd, hL, hh, hm, hs, hw, hat⟩ := moment_right' h
  obtain ⟨hs2, hsm, hg⟩ := hinv hb hl;have hR : p.dt.Right := ⟨hy, by have := hsm.1;omega, hsm.2.1, hd, hL, hh, hm, hs, hw.symm⟩;have hG := gs_right hR;unfold refF;rw [hg, if_pos hG.1, hG.2, h, hat];exact ⟨by simp [hs2], fun _ => rfl⟩
 ·have h2 : p.moment.2 = false := by simpa using h
  refine ⟨?_, fun e => absurd e h⟩;rw [h2]
  symm
  unfold refF;by_cases hr : rightG (guessF s k now) = true
  ·rw [if_pos hr]
   have hR := rightG_dt hr (guess_month s k now);by_cases ht : (guessF s k now).dt.text k = s
   ·have := heat _ hR.1 ht.symm hR.2.symm
    rw [this, pt_moment hR.1] at h;exact absurd rfl h
   ·simp [ht]
  ·rw [if_neg hr]
theorem way0 (s : Bytes) (now : Nat) : let p := Pt.own ⟨s, 0, 0, 0, 0, 0, 0, 0, false⟩;p.moment.2 = (refF s 0 now).2 ∧ (p.moment.2 = true → p.moment.1 = (refF s 0 now).1) := by
 refine way_eq s 0 now _ (fun hb hl => ?_) (fun x hx hs hg => ?_)
 ·have h := own_inv hb hl
  have hs : s = Dt.text (Pt.dt (Pt.own ⟨s, 0, 0, 0, 0, 0, 0, 0, false⟩)) 0 := h.2.1;refine ⟨hs, h.2.2, ?_⟩;have := guess0 _ now h.2.2
  rw [← hs] at this;exact this
 ·rw [hs];exact own_eat x hx.small
theorem way2 (s : Bytes) (now : Nat) : let p := Pt.bare ⟨s, 0, 0, 0, 0, 0, 0, 0, false⟩;p.moment.2 = (refF s 2 now).2 ∧ (p.moment.2 = true → p.moment.1 = (refF s 2 now).1) := by
 refine way_eq s 2 now _ (fun hb hl => ?_) (fun x hx hs hg => ?_)
 ·have h := bare_inv hb hl
  have hs : s = Dt.text (Pt.dt (Pt.bare ⟨s, 0, 0, 0, 0, 0, 0, 0, false⟩)) 2 := h.2.1;refine ⟨hs, h.2.2, ?_⟩;have := guess2 _ now h.2.2
  rw [← hs] at this;exact this
 ·rw [hs];exact bare_eat x hx.small
theorem way1 (s : Bytes) (now : Nat) (hn : 1970 ≤ now) (hn2 : now ≤ 9999) : let p := Pt.old ⟨s, 0, 0, 0, 0, 0, 0, 0, false⟩ now;p.moment.2 = (refF s 1 now).2 ∧ (p.moment.2 = true → p.moment.1 = (refF s 1 now).1) := by
 refine way_eq s 1 now _ (fun hb hl => ?_) (fun x hx hs hg => ?_)
 ·have h := old_inv hn hn2 hb hl
  generalize Pt.old ⟨s, 0, 0, 0, 0, 0, 0, 0, false⟩ now = q at *;have hs : s = Dt.text q.dt 1 := h.2.1;refine ⟨hs, h.2.2.1, ?_⟩;have := guess1 q.dt now hn h.2.2.1
  rw [← hs] at this;have e : winY now (q.dt.year % 100) = q.dt.year := h.2.2.2.symm;rw [this, e];rfl
 ·have := guess1 x now hn hx.small
  rw [← hs, hg] at this;have hy := congrArg Gs.year this;rw [hs];refine old_eat x now hx.small ?_;have : ((x.year : Nat) : Int) = ((winY now (x.year % 100) : Nat) : Int) := hy
  omega
def refY (s : Bytes) (y : Nat) : Nat × Nat :=
 if (refF s 0 y).2 = true then ((refF s 0 y).1, 0) else if (refF s 1 y).2 = true then ((refF s 1 y).1, 0) else if (refF s 2 y).2 = true then ((refF s 2 y).1, 0) else (0, 10)
theorem refY_eq (s : Bytes) (y : Nat) (hy : 1970 ≤ y) (hy2 : y ≤ 9999) : refY s y = parseY s y := by
 have a0 := way0 s y;have a1 := way1 s y hy hy2;have a2 := way2 s y
 dsimp only at a0 a1 a2
 unfold refY parseY;rw [← a0.1, ← a1.1, ← a2.1]
 split
 ·rename_i h;rw [a0.2 h]
 split
 ·rename_i h;rw [a1.2 h]
 split
 ·rename_i h;rw [a2.2 h]
 ·rfl
def IsDt (v : Nat) (x : Dt) : Prop := 1970 ≤ x.year ∧ x.month < 12 ∧ 1 ≤ x.day ∧ x.day ≤ mLen x.year x.month ∧ x.hour ≤ 23 ∧ x.min ≤ 59 ∧ x.sec ≤ 59 ∧ x.week = x.days % 7 ∧ v = x.at
theorem aheadM_mono (y m k : Nat) : aheadM y m ≤ aheadM y (m + k) := by
 induction k with
 | zero => exact Nat.le_refl _
 | succ k ih =>
  have e : aheadM y (m + (k + 1)) = aheadM y (m + k) + mLen y (m + k) := rfl;omega
theorem aheadM_12 (y : Nat) : aheadM y 12 = 365 + (if leapY y = true then 1 else 0) := by
 cases hl : leapY y <;> simp [aheadM, mLen, mLens, hl]
theorem IsDt.unique {v : Nat} {x y : Dt} (hx : IsDt v x) (hy : IsDt v y) : x = y := by
 obtain ⟨x1, x2, x3, x4, x5, x6, x7, x8, x9⟩ := hx;obtain ⟨y1, y2, y3, y4, y5, y6, y7, y8, y9⟩ := hy;rw [x9] at y9;unfold Dt.at at y9;have hd : x.days = y.days := (by omega);have hh : x.hour = y.hour := (by omega);have hm : x.min = y.min := (by omega);have hs : x.sec = y.sec := (by omega)
 have bx : ∀ z : Dt, 1970 ≤ z.year → z.month < 12 → 1 ≤ z.day → z.day ≤ mLen z.year z.month → begY z.year ≤ z.days ∧ z.days < begY (z.year + 1) ∧ z.days = begY z.year + (z.day - 1 + aheadM z.year z.month) ∧ z.day - 1 + aheadM z.year z.month < aheadM z.year (z.month + 1) := by
  intro z z1 z2 z3 z4;have h1 := aheadM_mono z.year (z.month + 1) (12 - (z.month + 1));rw [show z.month + 1 + (12 - (z.month + 1)) = 12 by omega, aheadM_12] at h1;have h2 := begY_step z.year z1;have h3 : aheadM z.year (z.month + 1) = aheadM z.year z.month + mLen z.year z.month := rfl;unfold Dt.days dayOf;omega
 have cx := bx x x1 x2 x3 x4;have cy := bx y y1 y2 y3 y4;have hY : x.year = y.year := year_unique x.days x.year y.year x1 y1 cx.1 cx.2.1 (by rw [hd];exact cy.1) (by rw [hd];exact cy.2.1)
 have hM : x.month = y.month := by
  rw [hY] at cx;by_cases h1 : x.month < y.month
  ·have := aheadM_mono y.year (x.month + 1) (y.month - (x.month + 1))
   rw [show x.month + 1 + (y.month - (x.month + 1)) = y.month by omega] at this;omega
  ·by_cases h2 : y.month < x.month
   ·have := aheadM_mono y.year (y.month + 1) (x.month - (y.month + 1))
    rw [show y.month + 1 + (x.month - (y.month + 1)) = x.month by omega] at this;omega
   ·omega
 have hD : x.day = y.day := by
  rw [hY, hM] at cx;omega
 have hW : x.week = y.week := (by rw [x8, y8, hd]);clear bx cx cy x1 x2 x3 x4 x5 x6 x7 x8 x9 y1 y2 y3 y4 y5 y6 y7 y8 y9 hd;obtain ⟨a1, a2, a3, a4, a5, a6, a7⟩ := x;obtain ⟨b1, b2, b3, b4, b5, b6, b7⟩ := y;simp only at *;subst hY hM hD hh hm hs hW;rfl
theorem Dt.Right.is {x : Dt} (h : x.Right) : IsDt x.at x := ⟨h.1, h.2.2.1, h.2.2.2.1, h.2.2.2.2.1, h.2.2.2.2.2.1, h.2.2.2.2.2.2.1, h.2.2.2.2.2.2.2.1, h.2.2.2.2.2.2.2.2, rfl⟩
def dateN : Bytes := [100, 97, 116, 101]
def ageN : Bytes := [97, 103, 101]
def expiresN : Bytes := [101, 120, 112, 105, 114, 101, 115]
def lastN : Bytes := [108, 97, 115, 116, 45, 109, 111, 100, 105, 102, 105, 101, 100]
def clampT (t : Int) : Nat := (max 0 (min t 1099511627776)).toNat
theorem clampT_int (t : Int) : max 0 (min t 1099511627776) = (clampT t : Nat) := by unfold clampT;omega
theorem clampT_le (t : Int) : clampT t ≤ 1099511627776 := by unfold clampT;omega
def parseB (x : Bytes) (now : Int) : Bool := decide ((parseF x now).2 = 0)
def momV (l : List F) (name : Bytes) (came : Int) : Nat := match values l name with | [x] => (parseF x (clampT came : Nat)).1 | _ => 0
def momB (l : List F) (name : Bytes) (came : Int) : Bool := match values l name with | [x] => parseB x (clampT came : Nat) | _ => false
def toldF (l : List F) : Nat := match values l ageN with | [] => 0 | x :: _ => numArg x
def appF (l : List F) (came : Int) : Nat := if momB l dateN came = true then clampT came - momV l dateN came else 0
def ageF (l : List F) (asked came now : Int) : Nat := min 1099511627776 (max (appF l came) (toldF l + (clampT came - clampT asked)) + (clampT now - clampT came))
def knownL : List Int := [200, 203, 204, 300, 301, 308, 404, 405, 410, 414, 501]
def knownB (st : Int) : Bool := knownL.contains st
def madeF (l : List F) (came : Int) : Nat := if momB l dateN came = true then momV l dateN came else clampT came
def hasN (l : List F) (n : Bytes) : Bool := decide (0 < (values l n).length)
def lifeF (l : List F) (st came : Int) : Nat :=
 if 0 ≤ (readC l).sm then (readC l).sm.toNat
 else if 0 ≤ (readC l).ma then (readC l).ma.toNat
 else if hasN l expiresN = true then (if momB l expiresN came = true then momV l expiresN came - madeF l came else 0)
 else if momB l lastN came = true ∧ knownB st = true ∧ momV l lastN came ≤ madeF l came then min 86400 ((madeF l came - momV l lastN came) / 10)
 else 0
theorem momV_one {l : List F} {name x : Bytes} {came : Int} (h : values l name = [x]) : momV l name came = (parseF x (clampT came : Nat)).1 := by unfold momV;rw [h]
theorem momB_one {l : List F} {name x : Bytes} {came : Int} (h : values l name = [x]) : momB l name came = parseB x (clampT came : Nat) := by unfold momB;rw [h]
theorem momV_nil {l : List F} {name : Bytes} {came : Int} (h : values l name = []) : momV l name came = 0 := by unfold momV;rw [h]
theorem momB_nil {l : List F} {name : Bytes} {came : Int} (h : values l name = []) : momB l name came = false := by unfold momB;rw [h]
theorem momV_more {l : List F} {name x y : Bytes} {r : List Bytes} {came : Int} (h : values l name = x :: y :: r) : momV l name came = 0 := by unfold momV;rw [h]
theorem momB_more {l : List F} {name x y : Bytes} {r : List Bytes} {came : Int} (h : values l name = x :: y :: r) : momB l name came = false := by unfold momB;rw [h]
theorem parseB_int (x : Bytes) (n : Int) : (((parseF x n).2 : Int) == 0) = parseB x n := by
 unfold parseB;by_cases h : (parseF x n).2 = 0
 ·simp [h]
 ·simp [h]
theorem toldF_le (l : List F) : toldF l ≤ 1099511627776 := by
 unfold toldF
 split
 ·omega
 ·exact numArg_le _
theorem ageF_le (l : List F) (asked came now : Int) : ageF l asked came now ≤ 1099511627776 := by unfold ageF;omega
theorem moment_le (p : Pt) (h1 : p.year ≤ 20000) (h2 : p.month < 12) : p.moment.1 ≤ 1000000000000 := by
 unfold Pt.moment
 split
 ·exact Nat.zero_le _
 ·rename_i hw
  simp only [Pt.wrong, Bool.or_eq_true, not_or, Bool.not_eq_true, decide_eq_false_iff_not, Bool.not_eq_eq_eq_not, Bool.not_true, Bool.not_eq_false'] at hw;obtain ⟨⟨⟨⟨⟨⟨⟨-, -⟩, hy⟩, hd⟩, hL⟩, hh⟩, hm⟩, hs⟩ := hw;have a1 := begY_low p.year (by omega);have a2 := aheadM_le p.year p.month;have a3 := mLen_le p.year p.month;have hd2 : p.day ≤ 31 := (by omega)
  show dayOf p.year p.month p.day * 86400 + (3600 * p.hour + 60 * p.min + p.sec) ≤ _
  have a4 : dayOf p.year p.month p.day ≤ 10000000 := (by unfold dayOf;omega);omega
end Go.Dr
