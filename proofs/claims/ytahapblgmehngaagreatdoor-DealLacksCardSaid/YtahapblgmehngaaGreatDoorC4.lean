/- Parts of the proof of DealLacks_holds: the texts Pla. -/
import Derived.Lib.Bytealg
import Derived.Lib.Strings
import Derived.Test.YtahapblgmehngaaGreatDoorC1
set_option linter.unusedSimpArgs false
set_option linter.unusedVariables false
set_option linter.unnecessarySimpa false
namespace Go.Dr

/-- May a byte stand in a token? is a text a token? -/
def tokMarks : Bytes := [33, 35, 36, 37, 38, 39, 42, 43, 45, 46, 94, 95, 96, 124, 126]
def isMark (c : UInt8) : Bool := tokMarks.contains c
def tokB (c : UInt8) : Bool := decide (48 ≤ c.toNat ∧ c.toNat ≤ 57) || decide (97 ≤ c.toNat ∧ c.toNat ≤ 122) || decide (65 ≤ c.toNat ∧ c.toNat ≤ 90) || isMark c
def token (l : Bytes) : Bool := l.all tokB && !l.isEmpty

/-- What a digit of a base up to sixteen says (sixteen: it is none); a number's digits: its value, and the error's number. -/
def digitN (c : UInt8) : Nat := if 48 ≤ c.toNat ∧ c.toNat ≤ 57 then c.toNat - 48 else if 97 ≤ c.toNat ∧ c.toNat ≤ 102 then c.toNat - 87 else if 65 ≤ c.toNat ∧ c.toNat ≤ 70 then c.toNat - 55 else 16
def numTo (base : Nat) (l : Bytes) : Nat := l.foldl (fun n c => n * base + digitN c) 0
def greatest : Nat := 1099511627776
def number (base : Nat) (l : Bytes) : Nat × Nat := if l.isEmpty || !l.all (fun c => decide (digitN c < base)) then (0, 10) else if numTo base l ≤ greatest then (numTo base l, 0) else (0, 11)

theorem digitN_le (c : UInt8) : digitN c ≤ 16 := by
  unfold digitN
  repeat' split
  all_goals omega
theorem numTo_snoc (base : Nat) (l : Bytes) (k : Nat) (h : k < l.length) : numTo base (l.take (k + 1)) = numTo base (l.take k) * base + digitN l[k] := by
  rw [take_snoc l k h]; simp only [numTo, List.foldl_append, List.foldl_cons, List.foldl_nil]
theorem numTo_from (base : Nat) (hb : 0 < base) (l : Bytes) : ∀ a : Nat, a ≤ l.foldl (fun n c => n * base + digitN c) a := by
  induction l with
  | nil => intro a; exact Nat.le_refl _
  | cons c l ih =>
    intro a
    have h1 := ih (a * base + digitN c)
    have h2 : a ≤ a * base := Nat.le_mul_of_pos_right _ hb
    simp only [List.foldl_cons]
    omega
theorem numTo_take (base : Nat) (hb : 0 < base) (l : Bytes) (k : Nat) : numTo base (l.take k) ≤ numTo base l := by
  conv => rhs; rw [← List.take_append_drop k l]
  unfold numTo
  rw [List.foldl_append]
  exact numTo_from base hb _ _
theorem number_le (base : Nat) (l : Bytes) : (number base l).1 ≤ greatest := by
  unfold number greatest
  split
  · simp
  · split
    · rename_i h; exact h
    · simp

/-- A text up to its first sign of equality; what stands behind that. -/
def eqName (l : Bytes) : Bytes := l.takeWhile fun c => c != 61
def eqArg (l : Bytes) : Bytes := (l.dropWhile fun c => c != 61).drop 1
/-- What stands between quotes, its first one gone, and whether it is well ended. -/
def unq (out : Bytes) : Bytes → Bytes × Bool
  | [] => ([], false)
  | [c] => if c = 34 then (out, true) else ([], false)
  | c :: d :: r =>
    if c = 34 then (out, false)
    else if c = 92 then unq (out ++ [d]) r
    else unq (out ++ [c]) (d :: r)
def unquote (l : Bytes) : Bytes × Bool := unq [] (l.drop 1)
/-- A directive's name and argument, and whether it is one. -/
def directive (l : Bytes) : Bytes × Bytes × Bool :=
  if token (eqName l) then
    (if Lib.hasPrefix (eqArg l) [34] then (if (unquote (eqArg l)).2 then (low (eqName l), (unquote (eqArg l)).1, true) else ([], [], false)) else (low (eqName l), eqArg l, true))
  else ([], [], false)

theorem unq_end (out l : Bytes) (k : Nat) (h : l.length ≤ k) : unq out (l.drop k) = ([], false) := by
  rw [List.drop_eq_nil_of_le h]; rfl
theorem unq_quote (out l : Bytes) (k : Nat) (h : k < l.length) (hc : l[k] = 34) : unq out (l.drop k) = (out, decide (k + 1 = l.length)) := by
  rw [drop_get l k h, hc]
  by_cases e : k + 1 = l.length
  · rw [List.drop_eq_nil_of_le (by omega)]; simp [unq, e]
  · rw [drop_get l (k + 1) (by omega)]; simp [unq, e]
theorem unq_last (out l : Bytes) (k : Nat) (h : k < l.length) (hc : l[k] = 92) (he : k + 1 = l.length) : unq out (l.drop k) = ([], false) := by
  rw [drop_get l k h, hc, List.drop_eq_nil_of_le (by omega)]
  simp [unq]
theorem unq_two (out l : Bytes) (k : Nat) (h : k + 1 < l.length) (hc : l[k] = 92) : unq out (l.drop k) = unq (out ++ [l[k + 1]]) (l.drop (k + 1 + 1)) := by
  rw [drop_get l k (by omega), hc, drop_get l (k + 1) h]
  simp [unq]
theorem unq_one (out l : Bytes) (k : Nat) (h : k < l.length) (h1 : l[k] ≠ 34) (h2 : l[k] ≠ 92) : unq out (l.drop k) = unq (out ++ [l[k]]) (l.drop (k + 1)) := by
  rw [drop_get l k h]
  by_cases e : k + 1 = l.length
  · rw [List.drop_eq_nil_of_le (by omega)]; simp [unq, h1]
  · rw [drop_get l (k + 1) (by omega)]; simp [unq, h1, h2]

theorem cut_at (l : Bytes) : (∃ k : Nat, Lib.indexByte l 61 = (k : Int) ∧ k < l.length ∧ eqName l = l.take k ∧ eqArg l = l.drop (k + 1)) ∨ (Lib.indexByte l 61 = -1 ∧ eqName l = l ∧ eqArg l = []) := by
  induction l with
  | nil => exact .inr ⟨rfl, rfl, rfl⟩
  | cons c r ih =>
    by_cases hc : c = 61
    · subst hc
      exact .inl ⟨0, by simp [Lib.indexByte], by simp, by simp [eqName], by simp [eqArg]⟩
    · have e1 : eqName (c :: r) = c :: eqName r := by simp [eqName, hc]
      have e2 : eqArg (c :: r) = eqArg r := by simp [eqArg, hc]
      rcases ih with ⟨k, h1, h2, h3, h4⟩ | ⟨h1, h2, h3⟩
      · refine .inl ⟨k + 1, ?_, by simp; omega, by rw [e1, h3]; simp, by rw [e2, h4]; simp⟩
        simp only [Lib.indexByte, h1]
        rw [if_neg (by simpa using hc), if_neg (by simp)]
        simp
      · refine .inr ⟨?_, by rw [e1, h2], by rw [e2, h3]⟩
        simp only [Lib.indexByte, h1]
        rw [if_neg (by simpa using hc)]
        simp

def numArg (a : Bytes) : Nat := if (number 10 a).2 = 11 then greatest else (number 10 a).1

/-- What is said of keeping. -/
structure Ctl where
  ns : Bool
  nc : Bool
  nt : Bool
  pu : Bool
  pr : Bool
  mr : Bool
  px : Bool
  oi : Bool
  ma : Int
  sm : Int
  mf : Int
  ms : Int
  deriving DecidableEq
def Ctl.none : Ctl := ⟨false, false, false, false, false, false, false, false, -1, -1, -1, -1⟩
def Ctl.zero : Ctl := ⟨false, false, false, false, false, false, false, false, 0, 0, 0, 0⟩
def least (a b : Int) : Int := if a < 0 then b else if b < 0 then a else if a ≤ b then a else b
def most (a b : Int) : Int := if a ≤ b then b else a
def Ctl.join (a b : Ctl) : Ctl :=
  ⟨a.ns || b.ns, a.nc || b.nc, a.nt || b.nt, a.pu || b.pu, a.pr || b.pr, a.mr || b.mr, a.px || b.px, a.oi || b.oi, least a.ma b.ma, least a.sm b.sm, most a.mf b.mf, least a.ms b.ms⟩

def noStore : Bytes := [110, 111, 45, 115, 116, 111, 114, 101]
def noCache : Bytes := [110, 111, 45, 99, 97, 99, 104, 101]
def noTransform : Bytes := [110, 111, 45, 116, 114, 97, 110, 115, 102, 111, 114, 109]
def pubName : Bytes := [112, 117, 98, 108, 105, 99]
def privName : Bytes := [112, 114, 105, 118, 97, 116, 101]
def mustRe : Bytes := [109, 117, 115, 116, 45, 114, 101, 118, 97, 108, 105, 100, 97, 116, 101]
def proxyRe : Bytes := [112, 114, 111, 120, 121, 45, 114, 101, 118, 97, 108, 105, 100, 97, 116, 101]
def onlyIf : Bytes := [111, 110, 108, 121, 45, 105, 102, 45, 99, 97, 99, 104, 101, 100]
def maxAge : Bytes := [109, 97, 120, 45, 97, 103, 101]
def sMaxage : Bytes := [115, 45, 109, 97, 120, 97, 103, 101]
def minFresh : Bytes := [109, 105, 110, 45, 102, 114, 101, 115, 104]
def maxStale : Bytes := [109, 97, 120, 45, 115, 116, 97, 108, 101]
def cacheControl : Bytes := [99, 97, 99, 104, 101, 45, 99, 111, 110, 116, 114, 111, 108]

/-- What one directive says by itself. -/
def ctlSays (n a : Bytes) : Ctl :=
  if n = noStore then { Ctl.none with ns := true } else if n = noCache then { Ctl.none with nc := true } else if n = noTransform then { Ctl.none with nt := true }
  else if n = pubName then { Ctl.none with pu := true } else if n = privName then { Ctl.none with pr := true } else if n = mustRe then { Ctl.none with mr := true }
  else if n = proxyRe then { Ctl.none with px := true } else if n = onlyIf then { Ctl.none with oi := true }
  else if n = maxAge then { Ctl.none with ma := numArg a } else if n = sMaxage then { Ctl.none with sm := numArg a } else if n = minFresh then { Ctl.none with mf := numArg a }
  else if n = maxStale then { Ctl.none with ms := if a = [] then greatest else numArg a }
  else Ctl.none
def ctlOf (s : Bytes) : Ctl := if (directive s).2.2 then ctlSays (directive s).1 (directive s).2.1 else Ctl.none
def ctlAll (l : List Bytes) : Ctl := l.foldl (fun c s => c.join (ctlOf s)) Ctl.none
def readC (l : List F) : Ctl := ctlAll (allOf l cacheControl)

/-- What is said of keeping, cell by cell. -/
def Ctl.cells (c : Ctl) : Array Value := #[.bool c.ns, .bool c.nc, .bool c.nt, .bool c.pu, .bool c.pr, .bool c.mr, .bool c.px, .bool c.oi, .int .i64 c.ma, .int .i64 c.sm, .int .i64 c.mf, .int .i64 c.ms]
/-- .. as a value. -/
abbrev Ctl.val (c : Ctl) : Value := .agg #[.bool c.ns, .bool c.nc, .bool c.nt, .bool c.pu, .bool c.pr, .bool c.mr, .bool c.px, .bool c.oi, .int .i64 c.ma, .int .i64 c.sm, .int .i64 c.mf, .int .i64 c.ms]
/-- The numbers are -1 or some. -/
def Ctl.ok (c : Ctl) : Prop := (-1 ≤ c.ma ∧ c.ma ≤ 1099511627776) ∧ (-1 ≤ c.sm ∧ c.sm ≤ 1099511627776) ∧ (-1 ≤ c.mf ∧ c.mf ≤ 1099511627776) ∧ (-1 ≤ c.ms ∧ c.ms ≤ 1099511627776)

theorem most_none (a : Int) (h : -1 ≤ a) : most a (-1) = a := by unfold most; split <;> omega
theorem least_none' (a : Int) (h : -1 ≤ a) : least a (-1) = a := by unfold least; split <;> (try split) <;> omega
theorem join_none (c : Ctl) (h : c.ok) : c.join Ctl.none = c := by
  obtain ⟨⟨h1, -⟩, ⟨h2, -⟩, ⟨h3, -⟩, h4, -⟩ := h
  cases c
  simp [Ctl.join, Ctl.none, least_none' _ h1, least_none' _ h2, most_none _ h3, least_none' _ h4]
theorem numArg_le (a : Bytes) : numArg a ≤ 1099511627776 := by
  unfold numArg
  split
  · exact Nat.le_refl _
  · exact number_le 10 a
theorem least_ok {a b : Int} (h : -1 ≤ a ∧ a ≤ 1099511627776) (h' : -1 ≤ b ∧ b ≤ 1099511627776) : -1 ≤ least a b ∧ least a b ≤ 1099511627776 := by
  unfold least; repeat' split
  all_goals omega
theorem most_ok {a b : Int} (h : -1 ≤ a ∧ a ≤ 1099511627776) (h' : -1 ≤ b ∧ b ≤ 1099511627776) : -1 ≤ most a b ∧ most a b ≤ 1099511627776 := by
  unfold most; split <;> omega
theorem Ctl.ok_join {a b : Ctl} (h : a.ok) (h' : b.ok) : (a.join b).ok := ⟨least_ok h.1 h'.1, least_ok h.2.1 h'.2.1, most_ok h.2.2.1 h'.2.2.1, least_ok h.2.2.2 h'.2.2.2⟩
theorem Ctl.ok_none : Ctl.none.ok := by simp [Ctl.ok, Ctl.none]
theorem ite_p {α : Type} (P : α → Prop) {c : Prop} [Decidable c] {a b : α} (h1 : P a) (h2 : P b) : P (if c then a else b) := by
  split
  · exact h1
  · exact h2
theorem ctlSays_ok (n a : Bytes) : (ctlSays n a).ok := by
  have h := numArg_le a
  have hg : greatest = 1099511627776 := rfl
  unfold ctlSays
  repeat' (refine ite_p Ctl.ok ?_ ?_)
  all_goals (simp only [Ctl.ok, Ctl.none]; omega)
theorem ctlOf_ok (s : Bytes) : (ctlOf s).ok := by
  unfold ctlOf
  split
  · exact ctlSays_ok _ _
  · exact Ctl.ok_none
theorem ctlAll_snoc (l : List Bytes) (k : Nat) (h : k < l.length) : ctlAll (l.take (k + 1)) = (ctlAll (l.take k)).join (ctlOf l[k]) := by
  rw [take_snoc l k h]; simp only [ctlAll, List.foldl_append, List.foldl_cons, List.foldl_nil]
theorem ctlAll_ok (l : List Bytes) : (ctlAll l).ok := by
  unfold ctlAll
  have : ∀ (l : List Bytes) (c : Ctl), c.ok → (l.foldl (fun c s => c.join (ctlOf s)) c).ok := by
    intro l
    induction l with
    | nil => intro c h; exact h
    | cons s l ih => intro c h; exact ih _ (Ctl.ok_join h (ctlOf_ok s))
  exact this l _ Ctl.ok_none
end Go.Dr
namespace Go.Dr

theorem least_comm {a b : Int} (ha : -1 ≤ a) (hb : -1 ≤ b) : least a b = least b a := by
  unfold least; repeat' split
  all_goals omega
theorem least_assoc {a b c : Int} (ha : -1 ≤ a) (hb : -1 ≤ b) (hc : -1 ≤ c) : least (least a b) c = least a (least b c) := by
  unfold least; repeat' split
  all_goals omega
theorem most_comm {a b : Int} : most a b = most b a := by unfold most; repeat' split
                                                          all_goals omega
theorem most_assoc {a b c : Int} : most (most a b) c = most a (most b c) := by
  unfold most; repeat' split
  all_goals omega
theorem join_comm {a b : Ctl} (h : a.ok) (h' : b.ok) : a.join b = b.join a := by
  simp only [Ctl.join, Bool.or_comm, least_comm h.1.1 h'.1.1, least_comm h.2.1.1 h'.2.1.1, least_comm h.2.2.2.1 h'.2.2.2.1, @most_comm a.mf]
theorem join_assoc {a b c : Ctl} (h : a.ok) (h' : b.ok) (h'' : c.ok) : (a.join b).join c = a.join (b.join c) := by
  simp only [Ctl.join, Bool.or_assoc, least_assoc h.1.1 h'.1.1 h''.1.1, least_assoc h.2.1.1 h'.2.1.1 h''.2.1.1, least_assoc h.2.2.2.1 h'.2.2.2.1 h''.2.2.2.1, most_assoc]
theorem none_join {c : Ctl} (h : c.ok) : Ctl.none.join c = c := by rw [join_comm Ctl.ok_none h, join_none c h]
theorem ctlAll_from (l : List Bytes) : ∀ c : Ctl, c.ok → l.foldl (fun c s => c.join (ctlOf s)) c = c.join (ctlAll l) := by
  induction l with
  | nil => intro c h; exact (join_none c h).symm
  | cons s l ih =>
    intro c h
    have e : ctlAll (s :: l) = (ctlOf s).join (ctlAll l) := by
      show l.foldl _ (Ctl.none.join (ctlOf s)) = _
      rw [none_join (ctlOf_ok s), ih _ (ctlOf_ok s)]
    rw [e, ← join_assoc h (ctlOf_ok s) (ctlAll_ok l), List.foldl_cons, ih _ (Ctl.ok_join h (ctlOf_ok s))]
theorem ctlAll_append (a b : List Bytes) : ctlAll (a ++ b) = (ctlAll a).join (ctlAll b) := by
  show (a ++ b).foldl _ Ctl.none = _
  rw [List.foldl_append]
  exact ctlAll_from b (ctlAll a) (ctlAll_ok a)
theorem allOf_append (a b : List F) (n : Bytes) : allOf (a ++ b) n = allOf a n ++ allOf b n := by simp [allOf, values]
theorem readC_append (a b : List F) : readC (a ++ b) = (readC a).join (readC b) := by
  unfold readC; rw [allOf_append, ctlAll_append]
theorem readC_ok (l : List F) : (readC l).ok := ctlAll_ok _
def CacheControl : Bytes := [67, 97, 99, 104, 101, 45, 67, 111, 110, 116, 114, 111, 108]
def flagName : Nat → Bytes
  | 0 => noStore | 1 => noCache | 2 => noTransform | 3 => pubName | 4 => privName | 5 => mustRe | 6 => proxyRe | _ => onlyIf
def Ctl.flag (c : Ctl) : Nat → Ctl
  | 0 => { c with ns := true } | 1 => { c with nc := true } | 2 => { c with nt := true } | 3 => { c with pu := true } | 4 => { c with pr := true } | 5 => { c with mr := true } | 6 => { c with px := true } | _ => { c with oi := true }
theorem readC_flag (k : Nat) (hk : k < 8) : readC [⟨CacheControl, flagName k, false⟩] = Ctl.none.flag k := by
  match k, hk with
  | 0, _ => decide +kernel
  | 1, _ => decide +kernel
  | 2, _ => decide +kernel
  | 3, _ => decide +kernel
  | 4, _ => decide +kernel
  | 5, _ => decide +kernel
  | 6, _ => decide +kernel
  | 7, _ => decide +kernel
theorem join_flag {c : Ctl} (h : c.ok) (k : Nat) (hk : k < 8) : c.join (Ctl.none.flag k) = c.flag k := by
  have e1 := least_none' c.ma h.1.1
  have e2 := least_none' c.sm h.2.1.1
  have e3 := most_none c.mf h.2.2.1.1
  have e4 := least_none' c.ms h.2.2.2.1
  match k, hk with
  | 0, _ => simp [Ctl.join, Ctl.flag, Ctl.none, e1, e2, e3, e4]
  | 1, _ => simp [Ctl.join, Ctl.flag, Ctl.none, e1, e2, e3, e4]
  | 2, _ => simp [Ctl.join, Ctl.flag, Ctl.none, e1, e2, e3, e4]
  | 3, _ => simp [Ctl.join, Ctl.flag, Ctl.none, e1, e2, e3, e4]
  | 4, _ => simp [Ctl.join, Ctl.flag, Ctl.none, e1, e2, e3, e4]
  | 5, _ => simp [Ctl.join, Ctl.flag, Ctl.none, e1, e2, e3, e4]
  | 6, _ => simp [Ctl.join, Ctl.flag, Ctl.none, e1, e2, e3, e4]
  | 7, _ => simp [Ctl.join, Ctl.flag, Ctl.none, e1, e2, e3, e4]
theorem readC_adds (l : List F) (k : Nat) (hk : k < 8) : readC (l ++ [⟨CacheControl, flagName k, false⟩]) = (readC l).flag k := by
  rw [readC_append, readC_flag k hk, join_flag (readC_ok l) k hk]
end Go.Dr
namespace Go.Dr

/-- A year's leap day, its months' days, the days ahead of it, the days ahead of a date; the year of a day. -/
def leapY (y : Nat) : Bool := decide (y % 4 = 0) && (decide (y % 100 ≠ 0) || decide (y % 400 = 0))
def mLens : List Nat := [31, 28, 31, 30, 31, 30, 31, 31, 30, 31, 30, 31]
def mLen (y m : Nat) : Nat := if m = 1 ∧ leapY y = true then 29 else mLens.getD m 0
def begY (y : Nat) : Nat := 365 * (y - 1970) + (y - 1) / 4 - (y - 1) / 100 + (y - 1) / 400 - 477
def aheadM (y : Nat) : Nat → Nat
  | 0 => 0
  | m + 1 => aheadM y m + mLen y m
def dayOf (y m n : Nat) : Nat := begY y + n - 1 + aheadM y m
def yUp (at' : Nat) : Nat → Nat → Nat
  | 0, y => y
  | k + 1, y => if begY (y + 1) ≤ at' then yUp at' k (y + 1) else y
def yearOf (at' : Nat) : Nat := yUp at' (at' + 1) (1970 + at' / 366)

theorem begY_int (y : Nat) (h : 1970 ≤ y) : (365 * ((y : Int) - 1970) + ((y : Int) - 1) / 4 - ((y : Int) - 1) / 100 + ((y : Int) - 1) / 400 - 477) = (begY y : Nat) := by
  unfold begY; omega
theorem begY_enough (n : Nat) (h : 1969 ≤ n) : 477 ≤ n / 4 - n / 100 + n / 400 ∧ n / 100 ≤ n / 4 := by
  have e1 : n / 100 = n / 4 / 25 := by rw [Nat.div_div_eq_div_mul]
  have e2 : n / 400 = n / 4 / 100 := by rw [Nat.div_div_eq_div_mul]
  have hq : 492 ≤ n / 4 := by omega
  rw [e1, e2]
  generalize n / 4 = q at *
  by_cases h20 : 20 ≤ q / 25
  · omega
  · have : q / 25 = 19 := by omega
    omega
theorem div_step (n k : Nat) (hk : 0 < k) (h : 0 < n) : (n % k = 0 ∧ n / k = (n - 1) / k + 1) ∨ (n % k ≠ 0 ∧ n / k = (n - 1) / k) := by
  obtain ⟨m, rfl⟩ : ∃ m, n = m + 1 := ⟨n - 1, by omega⟩
  have e : (m + 1) / k = m / k + if k ∣ m + 1 then 1 else 0 := Nat.succ_div
  simp only [Nat.dvd_iff_mod_eq_zero] at e
  by_cases hm : (m + 1) % k = 0
  · rw [if_pos hm] at e; exact .inl ⟨hm, e⟩
  · rw [if_neg hm] at e; exact .inr ⟨hm, e⟩
theorem mod_part (y : Nat) : (y % 400 = 0 → y % 100 = 0) ∧ (y % 100 = 0 → y % 4 = 0) := by omega
theorem begY_step (y : Nat) (h : 1970 ≤ y) : begY (y + 1) = begY y + 365 + (if leapY y = true then 1 else 0) := by
  have h1 := begY_enough (y - 1) (by omega)
  have h2 := begY_enough y (by omega)
  have d1 := div_step y 4 (by decide) (by omega)
  have d2 := div_step y 100 (by decide) (by omega)
  have d3 := div_step y 400 (by decide) (by omega)
  have hm := mod_part y
  unfold begY leapY
  simp only [Bool.and_eq_true, Bool.or_eq_true, decide_eq_true_iff]
  rw [show y + 1 - 1 = y by omega, show y + 1 - 1970 = y - 1970 + 1 by omega]
  generalize y / 4 = a at *
  generalize y / 100 = b at *
  generalize y / 400 = c at *
  generalize (y - 1) / 4 = a' at *
  generalize (y - 1) / 100 = b' at *
  generalize (y - 1) / 400 = c' at *
  generalize y % 4 = m4 at *
  generalize y % 100 = m100 at *
  generalize y % 400 = m400 at *
  split <;> omega
theorem begY_lt (y : Nat) (h : 1970 ≤ y) : begY y + 365 ≤ begY (y + 1) ∧ begY (y + 1) ≤ begY y + 366 := by
  rw [begY_step y h]; split <;> omega
theorem begY_low (y : Nat) (h : 1970 ≤ y) : begY y ≤ 366 * (y - 1970) := by
  unfold begY; omega
theorem begY_high (y : Nat) (h : 1970 ≤ y) : 365 * (y - 1970) ≤ begY y := by
  unfold begY; omega
theorem begY_mono (y k : Nat) (h : 1970 ≤ y) : begY y ≤ begY (y + k) := by
  induction k with
  | zero => exact Nat.le_refl _
  | succ k ih =>
    have := begY_lt (y + k) (by omega)
    rw [show y + (k + 1) = y + k + 1 by omega]
    omega
theorem year_unique (at' x y : Nat) (hx : 1970 ≤ x) (hy : 1970 ≤ y) (h1 : begY x ≤ at') (h2 : at' < begY (x + 1)) (h3 : begY y ≤ at') (h4 : at' < begY (y + 1)) : x = y := by
  by_cases hlt : x < y
  · have := begY_mono (x + 1) (y - (x + 1)) (by omega)
    rw [show x + 1 + (y - (x + 1)) = y by omega] at this
    omega
  · by_cases hgt : y < x
    · have := begY_mono (y + 1) (x - (y + 1)) (by omega)
      rw [show y + 1 + (x - (y + 1)) = x by omega] at this
      omega
    · omega
theorem yUp_spec (at' : Nat) (k : Nat) : ∀ y : Nat, 1970 ≤ y → begY y ≤ at' → at' < begY (y + k) → 1970 ≤ yUp at' k y ∧ begY (yUp at' k y) ≤ at' ∧ at' < begY (yUp at' k y + 1) := by
  induction k with
  | zero => intro y h1 h2 h3; simp at h3; omega
  | succ k ih =>
    intro y h1 h2 h3
    unfold yUp
    split
    · rename_i h
      exact ih (y + 1) (by omega) h (by rw [show y + 1 + k = y + (k + 1) by omega]; exact h3)
    · rename_i h
      exact ⟨h1, h2, by omega⟩
theorem yearOf_spec (at' : Nat) : 1970 ≤ yearOf at' ∧ begY (yearOf at') ≤ at' ∧ at' < begY (yearOf at' + 1) := by
  unfold yearOf
  refine yUp_spec at' _ _ (by omega) ?_ ?_
  · have := begY_low (1970 + at' / 366) (by omega); omega
  · have := begY_high (1970 + at' / 366 + (at' + 1)) (by omega); omega
theorem yearOf_eq (at' y : Nat) (h : 1970 ≤ y) (h1 : begY y ≤ at') (h2 : at' < begY (y + 1)) : y = yearOf at' :=
  have s := yearOf_spec at'
  year_unique at' y _ h s.1 h1 h2 s.2.1 s.2.2
theorem mLen_le (y m : Nat) : mLen y m ≤ 31 := by
  unfold mLen
  split
  · omega
  · by_cases h : m < 12
    · match m, h with
      | 0, _ | 1, _ | 2, _ | 3, _ | 4, _ | 5, _ | 6, _ | 7, _ | 8, _ | 9, _ | 10, _ | 11, _ => decide
    · rw [List.getD_eq_getElem?_getD, List.getElem?_eq_none (by simp [mLens]; omega)]; decide
theorem aheadM_le (y m : Nat) : aheadM y m ≤ 31 * m := by
  induction m with
  | zero => exact Nat.le_refl _
  | succ m ih => have := mLen_le y m; unfold aheadM; omega

/-- What a date's text says, as far as it is read. -/
structure Pt where
  left : Bytes
  week : Nat := 0
  year : Nat := 0
  month : Nat := 0
  day : Nat := 0
  hour : Nat := 0
  min : Nat := 0
  sec : Nat := 0
  bad : Bool := false
def dayTab : List Bytes := [[84, 104, 117], [70, 114, 105], [83, 97, 116], [83, 117, 110], [77, 111, 110], [84, 117, 101], [87, 101, 100]]
def monTab : List Bytes := [[74, 97, 110], [70, 101, 98], [77, 97, 114], [65, 112, 114], [77, 97, 121], [74, 117, 110], [74, 117, 108], [65, 117, 103], [83, 101, 112], [79, 99, 116], [78, 111, 118], [68, 101, 99]]
/-- What stands behind the three letters in a weekday's whole name. -/
def longTab : List Bytes := [[84, 104, 117, 114, 115, 100, 97, 121], [70, 114, 105, 100, 97, 121], [83, 97, 116, 117, 114, 100, 97, 121], [83, 117, 110, 100, 97, 121], [77, 111, 110, 100, 97, 121], [84, 117, 101, 115, 100, 97, 121], [87, 101, 100, 110, 101, 115, 100, 97, 121]]
def longF (d : Nat) : Bytes := longTab.getD d []
def Pt.word (p : Pt) (s : Bytes) : Pt := { p with left := Lib.trimPrefix p.left s, bad := p.bad || !Lib.hasPrefix p.left s }
def isDig (c : UInt8) : Bool := decide (48 ≤ c.toNat ∧ c.toNat ≤ 57)
def digOk (p : Pt) (n : Nat) : Bool := decide (n ≤ p.left.length) && (p.left.take n).all isDig
def decN (l : Bytes) : Nat := l.foldl (fun v c => 10 * v + (c.toNat - 48)) 0
def Pt.dig (p : Pt) (n : Nat) : Pt := if digOk p n = true then { p with left := p.left.drop n } else { p with bad := true }
def Pt.digV (p : Pt) (n : Nat) : Nat := if digOk p n = true then decN (p.left.take n) else 0
def nameOk (p : Pt) (tab : List Bytes) : Bool := decide (3 ≤ p.left.length) && decide (tab.findIdx (fun t => t == p.left.take 3) < tab.length)
def Pt.nam (p : Pt) (tab : List Bytes) : Pt := if nameOk p tab = true then { p with left := p.left.drop 3 } else { p with bad := true }
def Pt.namV (p : Pt) (tab : List Bytes) : Nat := if nameOk p tab = true then tab.findIdx (fun t => t == p.left.take 3) else 0
def Pt.aWeek (p : Pt) : Pt := { p.nam dayTab with week := p.namV dayTab }
def Pt.aMonth (p : Pt) : Pt := { p.nam monTab with month := p.namV monTab }
def Pt.aDay (p : Pt) (n : Nat) : Pt := { p.dig n with day := p.digV n }
def Pt.aYear (p : Pt) : Pt := { p.dig 4 with year := p.digV 4 }
def Pt.aHour (p : Pt) : Pt := { p.dig 2 with hour := p.digV 2 }
def Pt.aMin (p : Pt) : Pt := { p.dig 2 with min := p.digV 2 }
def Pt.aSec (p : Pt) : Pt := { p.dig 2 with sec := p.digV 2 }
def Pt.clock (p : Pt) : Pt := ((((p.aHour).word [58]).aMin).word [58]).aSec
def commaT : Bytes := [44, 32]
def gmtT : Bytes := [32, 71, 77, 84]
def Pt.own (p : Pt) : Pt := ((((((((p.aWeek.word commaT).aDay 2).word [32]).aMonth).word [32]).aYear).word [32]).clock).word gmtT
def Pt.oldWeek (p : Pt) : Pt := if p.bad = true then p else p.word ((longF p.week).drop 3)
def Pt.oldYear (p : Pt) (now : Nat) : Pt := { p.dig 2 with year := if now + 50 < now - now % 100 + p.digV 2 then now - now % 100 + p.digV 2 - 100 else now - now % 100 + p.digV 2 }
def Pt.old (p : Pt) (now : Nat) : Pt := ((((((((p.aWeek.oldWeek.word commaT).aDay 2).word [45]).aMonth).word [45]).oldYear now).word [32]).clock).word gmtT
def Pt.bareDay (p : Pt) : Pt := if Lib.hasPrefix p.left [32] = true then (p.word [32]).aDay 1 else { p.aDay 2 with bad := (p.aDay 2).bad || decide ((p.aDay 2).day < 10) }
def Pt.bare (p : Pt) : Pt := (((((((p.aWeek.word [32]).aMonth).word [32]).bareDay).word [32]).clock).word [32]).aYear
def Pt.wrong (p : Pt) : Bool := p.bad || !p.left.isEmpty || decide (p.year < 1970) || decide (p.day < 1) || decide (mLen p.year p.month < p.day) || decide (23 < p.hour) || decide (59 < p.min) || decide (59 < p.sec)
def Pt.at (p : Pt) : Nat := dayOf p.year p.month p.day * 86400 + (3600 * p.hour + 60 * p.min + p.sec)
def Pt.moment (p : Pt) : Nat × Bool := if p.wrong = true then (0, false) else (p.at, decide (dayOf p.year p.month p.day % 7 = p.week))
def clampD (now : Int) : Nat := (max 0 (Min.min now 253402300799)).toNat
/-- The moment of a text, and the error's number. -/
def parseY (s : Bytes) (y : Nat) : Nat × Nat :=
  if (Pt.moment (Pt.own ⟨s, 0, 0, 0, 0, 0, 0, 0, false⟩)).2 = true then ((Pt.moment (Pt.own ⟨s, 0, 0, 0, 0, 0, 0, 0, false⟩)).1, 0)
  else if (Pt.moment (Pt.old ⟨s, 0, 0, 0, 0, 0, 0, 0, false⟩ y)).2 = true then ((Pt.moment (Pt.old ⟨s, 0, 0, 0, 0, 0, 0, 0, false⟩ y)).1, 0)
  else if (Pt.moment (Pt.bare ⟨s, 0, 0, 0, 0, 0, 0, 0, false⟩)).2 = true then ((Pt.moment (Pt.bare ⟨s, 0, 0, 0, 0, 0, 0, 0, false⟩)).1, 0)
  else (0, 10)
def parseF (s : Bytes) (now : Int) : Nat × Nat := parseY s (yearOf (clampD now / 86400))

end Go.Dr
namespace Go.Dr

def dg (n : Nat) : UInt8 := UInt8.ofNat (48 + n % 10)
def pad2 (n : Nat) : Bytes := [dg (n / 10), dg n]
def pad4 (n : Nat) : Bytes := [dg (n / 1000), dg (n / 100), dg (n / 10), dg n]
/-- A date's parts; months and weekdays from 0. -/
structure Dt where
  year : Nat
  month : Nat
  day : Nat
  hour : Nat
  min : Nat
  sec : Nat
  week : Nat
def monF (m : Nat) : Bytes := monTab.getD m []
def dayF (d : Nat) : Bytes := dayTab.getD d []
def lowDay (d : Nat) : Bytes := if d < 10 then [32, dg d] else pad2 d
theorem dg_nat (n : Nat) : (dg n).toNat = 48 + n % 10 := by
  unfold dg
  simp
  omega
theorem dg_of (c : UInt8) (n : Nat) (h : isDig c = true) (e : n % 10 = c.toNat - 48) : dg n = c := by
  simp only [isDig, decide_eq_true_iff] at h
  apply UInt8.toNat_inj.1
  rw [dg_nat]
  omega

theorem word_inv {p : Pt} {s : Bytes} (h : (p.word s).bad = false) : p.bad = false ∧ p.left = s ++ (p.word s).left := by
  unfold Pt.word at h ⊢
  simp only [Bool.or_eq_false_iff, Bool.not_eq_false'] at h
  refine ⟨h.1, ?_⟩
  have h2 := h.2
  unfold Lib.trimPrefix
  simp only [h2, if_true]
  unfold Lib.hasPrefix at h2
  rw [List.isPrefixOf_iff_prefix] at h2
  obtain ⟨t, ht⟩ := h2
  rw [← ht]
  simp
theorem dig_inv {p : Pt} {n : Nat} (h : (p.dig n).bad = false) : p.bad = false ∧ ∃ s : Bytes, s.length = n ∧ s.all isDig = true ∧ p.left = s ++ (p.dig n).left ∧ p.digV n = decN s := by
  unfold Pt.dig at h
  split at h
  · rename_i e
    have e2 := e
    unfold digOk at e2
    simp only [Bool.and_eq_true, decide_eq_true_iff] at e2
    refine ⟨h, p.left.take n, by simp; omega, e2.2, ?_, ?_⟩
    · unfold Pt.dig; rw [if_pos e]; simp
    · unfold Pt.digV; rw [if_pos e]
  · cases h
theorem pad2_of {s : Bytes} (h : s.length = 2) (hd : s.all isDig = true) : s = pad2 (decN s) ∧ decN s < 100 := by
  match s, h with
  | [a, b], _ =>
    simp only [List.all_cons, List.all_nil, Bool.and_true, Bool.and_eq_true] at hd
    have ha := hd.1
    have hb := hd.2
    simp only [isDig, decide_eq_true_iff] at ha hb
    simp only [decN, List.foldl_cons, List.foldl_nil]
    refine ⟨?_, by omega⟩
    unfold pad2
    rw [dg_of a _ hd.1 (by omega), dg_of b _ hd.2 (by omega)]
theorem pad4_of {s : Bytes} (h : s.length = 4) (hd : s.all isDig = true) : s = pad4 (decN s) ∧ decN s < 10000 := by
  match s, h with
  | [a, b, c, d], _ =>
    simp only [List.all_cons, List.all_nil, Bool.and_true, Bool.and_eq_true] at hd
    obtain ⟨h1, h2, h3, h4⟩ := hd
    have ha := h1
    have hb := h2
    have hc := h3
    have he := h4
    simp only [isDig, decide_eq_true_iff] at ha hb hc he
    simp only [decN, List.foldl_cons, List.foldl_nil]
    refine ⟨?_, by omega⟩
    unfold pad4
    rw [dg_of a _ h1 (by omega), dg_of b _ h2 (by omega), dg_of c _ h3 (by omega), dg_of d _ h4 (by omega)]
theorem one_of {s : Bytes} (h : s.length = 1) (hd : s.all isDig = true) : s = [dg (decN s)] ∧ decN s < 10 := by
  match s, h with
  | [a], _ =>
    simp only [List.all_cons, List.all_nil, Bool.and_true] at hd
    have ha := hd
    simp only [isDig, decide_eq_true_iff] at ha
    simp only [decN, List.foldl_cons, List.foldl_nil]
    refine ⟨?_, by omega⟩
    rw [dg_of a _ hd (by omega)]
theorem dig2_inv {p : Pt} (h : (p.dig 2).bad = false) : p.bad = false ∧ p.left = pad2 (p.digV 2) ++ (p.dig 2).left ∧ p.digV 2 < 100 := by
  obtain ⟨h0, s, h1, h2, h3, h4⟩ := dig_inv h
  have := pad2_of h1 h2
  rw [← h4] at this
  exact ⟨h0, by rw [← this.1]; exact h3, this.2⟩
theorem dig4_inv {p : Pt} (h : (p.dig 4).bad = false) : p.bad = false ∧ p.left = pad4 (p.digV 4) ++ (p.dig 4).left ∧ p.digV 4 < 10000 := by
  obtain ⟨h0, s, h1, h2, h3, h4⟩ := dig_inv h
  have := pad4_of h1 h2
  rw [← h4] at this
  exact ⟨h0, by rw [← this.1]; exact h3, this.2⟩
theorem dig1_inv {p : Pt} (h : (p.dig 1).bad = false) : p.bad = false ∧ p.left = [dg (p.digV 1)] ++ (p.dig 1).left ∧ p.digV 1 < 10 := by
  obtain ⟨h0, s, h1, h2, h3, h4⟩ := dig_inv h
  have := one_of h1 h2
  rw [← h4] at this
  exact ⟨h0, by rw [← this.1]; exact h3, this.2⟩
theorem nam_inv {p : Pt} {tab : List Bytes} (h : (p.nam tab).bad = false) : p.bad = false ∧ p.left = tab.getD (p.namV tab) [] ++ (p.nam tab).left ∧ p.namV tab < tab.length := by
  unfold Pt.nam at h
  split at h
  · rename_i e
    have e2 := e
    unfold nameOk at e2
    simp only [Bool.and_eq_true, decide_eq_true_iff] at e2
    have e3 := List.findIdx_getElem (p := fun t => t == p.left.take 3) (w := e2.2)
    refine ⟨h, ?_, ?_⟩
    · unfold Pt.nam Pt.namV
      rw [if_pos e, if_pos e, List.getD_eq_getElem?_getD, List.getElem?_eq_getElem e2.2]
      simp only [beq_iff_eq] at e3
      simp only [Option.getD_some]
      rw [e3]
      simp
    · unfold Pt.namV; rw [if_pos e]; exact e2.2
  · cases h

theorem w_week (p : Pt) (s : Bytes) : (p.word s).week = p.week := rfl
theorem d_week (p : Pt) (n : Nat) : (p.dig n).week = p.week := by unfold Pt.dig; split <;> rfl
theorem n_week (p : Pt) (t : List Bytes) : (p.nam t).week = p.week := by unfold Pt.nam; split <;> rfl
theorem w_year (p : Pt) (s : Bytes) : (p.word s).year = p.year := rfl
theorem d_year (p : Pt) (n : Nat) : (p.dig n).year = p.year := by unfold Pt.dig; split <;> rfl
theorem w_month (p : Pt) (s : Bytes) : (p.word s).month = p.month := rfl
theorem d_month (p : Pt) (n : Nat) : (p.dig n).month = p.month := by unfold Pt.dig; split <;> rfl
theorem w_day (p : Pt) (s : Bytes) : (p.word s).day = p.day := rfl
theorem d_day (p : Pt) (n : Nat) : (p.dig n).day = p.day := by unfold Pt.dig; split <;> rfl
theorem n_day (p : Pt) (t : List Bytes) : (p.nam t).day = p.day := by unfold Pt.nam; split <;> rfl
theorem w_hour (p : Pt) (s : Bytes) : (p.word s).hour = p.hour := rfl
theorem d_hour (p : Pt) (n : Nat) : (p.dig n).hour = p.hour := by unfold Pt.dig; split <;> rfl
theorem w_min (p : Pt) (s : Bytes) : (p.word s).min = p.min := rfl
theorem d_min (p : Pt) (n : Nat) : (p.dig n).min = p.min := by unfold Pt.dig; split <;> rfl
theorem w_sec (p : Pt) (s : Bytes) : (p.word s).sec = p.sec := rfl
theorem d_sec (p : Pt) (n : Nat) : (p.dig n).sec = p.sec := by unfold Pt.dig; split <;> rfl
/-- A date that a text may say. -/
def Dt.Small (x : Dt) : Prop := x.year < 10000 ∧ x.month < 12 ∧ x.day < 100 ∧ x.hour < 100 ∧ x.min < 100 ∧ x.sec < 100 ∧ x.week < 7
theorem clock_inv {p : Pt} (h : p.clock.bad = false) : p.bad = false ∧ p.left = pad2 p.clock.hour ++ ([58] ++ (pad2 p.clock.min ++ ([58] ++ (pad2 p.clock.sec ++ p.clock.left)))) ∧ p.clock.hour < 100 ∧ p.clock.min < 100 ∧ p.clock.sec < 100 := by
  have e1 : p.clock.hour = p.digV 2 := by simp only [Pt.clock, Pt.aSec, Pt.aMin, Pt.aHour, w_hour, d_hour]
  have e2 : p.clock.min = (p.aHour.word [58]).digV 2 := by simp only [Pt.clock, Pt.aSec, Pt.aMin, w_min, d_min]
  have e3 : p.clock.sec = ((p.aHour.word [58]).aMin.word [58]).digV 2 := by simp only [Pt.clock, Pt.aSec]
  have h5 := dig2_inv (p := (p.aHour.word [58]).aMin.word [58]) h
  have h4 := word_inv h5.1
  have h3 := dig2_inv (p := p.aHour.word [58]) h4.1
  have h2 := word_inv h3.1
  have h1 := dig2_inv (p := p) h2.1
  refine ⟨h1.1, ?_, by rw [e1]; exact h1.2.2, by rw [e2]; exact h3.2.2, by rw [e3]; exact h5.2.2⟩
  rw [h1.2.1, e1, show (p.dig 2).left = p.aHour.left from rfl, h2.2, h3.2.1, e2, show ((p.aHour.word [58]).dig 2).left = (p.aHour.word [58]).aMin.left from rfl, h4.2, h5.2.1, e3]
  rfl
theorem clock_week (p : Pt) : p.clock.week = p.week ∧ p.clock.year = p.year ∧ p.clock.month = p.month ∧ p.clock.day = p.day := by
  simp only [Pt.clock, Pt.aSec, Pt.aMin, Pt.aHour, w_week, w_year, w_month, w_day, d_week, d_year, d_month, d_day, and_self]
theorem f_year (p : Pt) : p.aYear.year = p.digV 4 := rfl
theorem f_month (p : Pt) : p.aMonth.month = p.namV monTab := rfl
theorem f_day (p : Pt) (n : Nat) : (p.aDay n).day = p.digV n := rfl
theorem f_week (p : Pt) : p.aWeek.week = p.namV dayTab := rfl
/-- From p to q the text s was taken. -/
def Eats (p q : Pt) (s : Bytes) : Prop := q.bad = false → p.bad = false ∧ p.left = s ++ q.left
theorem Eats.trans {p q r : Pt} {s t : Bytes} (h : Eats p q s) (k : Eats q r t) : Eats p r (s ++ t) := fun hb =>
  have h2 := k hb
  have h1 := h h2.1
  ⟨h1.1, by rw [h1.2, h2.2, List.append_assoc]⟩
theorem Eats.to {p q : Pt} {s t : Bytes} (h : Eats p q s) (e : s = t) : Eats p q t := e ▸ h
theorem Eats.word (p : Pt) (s : Bytes) : Eats p (p.word s) s := fun h => word_inv h
theorem Eats.week (p : Pt) : Eats p p.aWeek (dayF p.aWeek.week) := fun h => have k := nam_inv (p := p) (tab := dayTab) h; ⟨k.1, k.2.1⟩
theorem Eats.month (p : Pt) : Eats p p.aMonth (monF p.aMonth.month) := fun h => have k := nam_inv (p := p) (tab := monTab) h; ⟨k.1, k.2.1⟩
theorem Eats.day (p : Pt) : Eats p (p.aDay 2) (pad2 (p.aDay 2).day) := fun h => have k := dig2_inv (p := p) h; ⟨k.1, k.2.1⟩
theorem Eats.year (p : Pt) : Eats p p.aYear (pad4 p.aYear.year) := fun h => have k := dig4_inv (p := p) h; ⟨k.1, k.2.1⟩
theorem Eats.clock (p : Pt) : Eats p p.clock (pad2 p.clock.hour ++ ([58] ++ (pad2 p.clock.min ++ ([58] ++ pad2 p.clock.sec)))) := fun h => have k := clock_inv h; ⟨k.1, by rw [k.2.1]; simp only [List.append_assoc]⟩
/-- The year that two digits say. -/
def winY (now v : Nat) : Nat := if now + 50 < now - now % 100 + v then now - now % 100 + v - 100 else now - now % 100 + v
theorem winY_mod (now v : Nat) (h : 1970 ≤ now) (hv : v < 100) : winY now v % 100 = v := by
  unfold winY
  split <;> omega
theorem winY_lt (now v : Nat) (h : now ≤ 9999) (hv : v < 100) : winY now v < 10000 := by
  unfold winY
  split <;> omega
theorem oldYear_eq (p : Pt) (now : Nat) : p.oldYear now = { p.dig 2 with year := winY now (p.digV 2) } := rfl
theorem f_old (p : Pt) (now : Nat) : (p.oldYear now).year = winY now (p.digV 2) := rfl
theorem oldWeek_inv {p : Pt} (h : p.oldWeek.bad = false) : p.bad = false ∧ p.oldWeek = p.word ((longF p.week).drop 3) := by
  unfold Pt.oldWeek at h ⊢
  by_cases hb : p.bad = true
  · rw [if_pos hb] at h; rw [hb] at h; cases h
  · rw [if_neg hb]; exact ⟨by simpa using hb, rfl⟩
theorem Eats.oldWeek (p : Pt) : Eats p p.oldWeek ((longF p.week).drop 3) := fun h => by
  have k := oldWeek_inv h
  rw [k.2] at h ⊢
  exact word_inv h
theorem Eats.oldYear (p : Pt) (now : Nat) (hn : 1970 ≤ now) : Eats p (p.oldYear now) (pad2 ((p.oldYear now).year % 100)) := fun h => by
  have k := dig2_inv (p := p) h
  rw [show (p.oldYear now).year = winY now (p.digV 2) from rfl, winY_mod now _ hn k.2.2]
  exact ⟨k.1, k.2.1⟩
theorem old_fields (p : Pt) : p.oldWeek.week = p.week := by unfold Pt.oldWeek; split <;> rfl
theorem bareDay_inv {p : Pt} (h : p.bareDay.bad = false) : p.bad = false ∧ p.left = lowDay p.bareDay.day ++ p.bareDay.left ∧ p.bareDay.day < 100 := by
  unfold Pt.bareDay at h ⊢
  by_cases hs : Lib.hasPrefix p.left [32] = true
  · rw [if_pos hs] at h ⊢
    have h2 := dig1_inv (p := p.word [32]) h
    have h1 := word_inv h2.1
    have e : ((p.word [32]).aDay 1).day = (p.word [32]).digV 1 := rfl
    refine ⟨h1.1, ?_, by rw [e]; omega⟩
    rw [e]
    unfold lowDay
    rw [if_pos h2.2.2, h1.2, h2.2.1]
    rfl
  · rw [if_neg hs] at h ⊢
    simp only [Bool.or_eq_false_iff, decide_eq_false_iff_not] at h
    have h2 := dig2_inv (p := p) h.1
    have h3 : ¬ p.digV 2 < 10 := h.2
    refine ⟨h2.1, ?_, h2.2.2⟩
    show _ = lowDay (p.digV 2) ++ _
    unfold lowDay
    rw [if_neg h3]
    exact h2.2.1
theorem Eats.bareDay (p : Pt) : Eats p p.bareDay (lowDay p.bareDay.day) := fun h => have k := bareDay_inv h; ⟨k.1, k.2.1⟩
theorem bare_fields (p : Pt) : p.bareDay.week = p.week ∧ p.bareDay.month = p.month := by
  unfold Pt.bareDay; split <;> simp only [Pt.aDay, d_week, d_month, w_week, w_month, and_self]
end Go.Dr
namespace Go.Dr

/-- What the reference reads. -/
structure Gs where
  year : Int
  month : Nat
  day : Int
  hour : Int
  min : Int
  sec : Int
def Dt.gs (x : Dt) : Gs := ⟨x.year, x.month + 1, x.day, x.hour, x.min, x.sec⟩
def Dt.days (x : Dt) : Nat := dayOf x.year x.month x.day
def Dt.at (x : Dt) : Nat := x.days * 86400 + (3600 * x.hour + 60 * x.min + x.sec)
def Dt.Right (x : Dt) : Prop := 1970 ≤ x.year ∧ x.year ≤ 9999 ∧ x.month < 12 ∧ 1 ≤ x.day ∧ x.day ≤ mLen x.year x.month ∧ x.hour ≤ 23 ∧ x.min ≤ 59 ∧ x.sec ≤ 59 ∧ x.week = x.days % 7
theorem Dt.Right.small {x : Dt} (h : x.Right) : x.Small := by
  obtain ⟨h1, h2, h3, h4, h5, h6, h7, h8, h9⟩ := h
  have := mLen_le x.year x.month
  exact ⟨by omega, h3, by omega, by omega, by omega, by omega, by omega⟩
end Go.Dr
namespace Go.Dr
def dateN : Bytes := [100, 97, 116, 101]
def ageN : Bytes := [97, 103, 101]
def expiresN : Bytes := [101, 120, 112, 105, 114, 101, 115]
def lastN : Bytes := [108, 97, 115, 116, 45, 109, 111, 100, 105, 102, 105, 101, 100]
/-- A time within the times there are. -/
def clampT (t : Int) : Nat := (max 0 (min t 1099511627776)).toNat
theorem clampT_int (t : Int) : max 0 (min t 1099511627776) = (clampT t : Nat) := by unfold clampT; omega
theorem clampT_le (t : Int) : clampT t ≤ 1099511627776 := by unfold clampT; omega
/-- The moment of a date, and whether it is one. -/
def parseB (x : Bytes) (now : Int) : Bool := decide ((parseF x now).2 = 0)
def momV (l : List F) (name : Bytes) (came : Int) : Nat := match values l name with | [x] => (parseF x (clampT came : Nat)).1 | _ => 0
def momB (l : List F) (name : Bytes) (came : Int) : Bool := match values l name with | [x] => parseB x (clampT came : Nat) | _ => false
def toldF (l : List F) : Nat := match values l ageN with | [] => 0 | x :: _ => numArg x
def appF (l : List F) (came : Int) : Nat := if momB l dateN came = true then clampT came - momV l dateN came else 0
def ageF (l : List F) (asked came now : Int) : Nat := min 1099511627776 (max (appF l came) (toldF l + (clampT came - clampT asked)) + (clampT now - clampT came))
def knownL : List Int := [200, 203, 204, 300, 301, 308, 404, 405, 410, 414, 501]
def knownB (st : Int) : Bool := knownL.contains st
def madeF (l : List F) (came : Int) : Nat := if momB l dateN came = true then momV l dateN came else clampT came
def hasN (l : List F) (n : Bytes) : Bool := decide (0 < (values l n).length)
/-- How long an answer is fresh. -/
def lifeF (l : List F) (st came : Int) : Nat :=
  if 0 ≤ (readC l).sm then (readC l).sm.toNat
  else if 0 ≤ (readC l).ma then (readC l).ma.toNat
  else if hasN l expiresN = true then (if momB l expiresN came = true then momV l expiresN came - madeF l came else 0)
  else if momB l lastN came = true ∧ knownB st = true ∧ momV l lastN came ≤ madeF l came then min 86400 ((madeF l came - momV l lastN came) / 10)
  else 0
theorem momV_one {l : List F} {name x : Bytes} {came : Int} (h : values l name = [x]) : momV l name came = (parseF x (clampT came : Nat)).1 := by unfold momV; rw [h]
theorem momB_one {l : List F} {name x : Bytes} {came : Int} (h : values l name = [x]) : momB l name came = parseB x (clampT came : Nat) := by unfold momB; rw [h]
theorem momV_nil {l : List F} {name : Bytes} {came : Int} (h : values l name = []) : momV l name came = 0 := by unfold momV; rw [h]
theorem momB_nil {l : List F} {name : Bytes} {came : Int} (h : values l name = []) : momB l name came = false := by unfold momB; rw [h]
theorem momV_more {l : List F} {name x y : Bytes} {r : List Bytes} {came : Int} (h : values l name = x :: y :: r) : momV l name came = 0 := by unfold momV; rw [h]
theorem momB_more {l : List F} {name x y : Bytes} {r : List Bytes} {came : Int} (h : values l name = x :: y :: r) : momB l name came = false := by unfold momB; rw [h]
theorem parseB_int (x : Bytes) (n : Int) : (((parseF x n).2 : Int) == 0) = parseB x n := by
  unfold parseB
  by_cases h : (parseF x n).2 = 0
  · simp [h]
  · simp [h]
theorem toldF_le (l : List F) : toldF l ≤ 1099511627776 := by
  unfold toldF
  split
  · omega
  · exact numArg_le _
theorem ageF_le (l : List F) (asked came now : Int) : ageF l asked came now ≤ 1099511627776 := by unfold ageF; omega

theorem moment_le (p : Pt) (h1 : p.year ≤ 20000) (h2 : p.month < 12) : p.moment.1 ≤ 1000000000000 := by
  unfold Pt.moment
  split
  · exact Nat.zero_le _
  · rename_i hw
    simp only [Pt.wrong, Bool.or_eq_true, not_or, Bool.not_eq_true, decide_eq_false_iff_not, Bool.not_eq_eq_eq_not, Bool.not_true, Bool.not_eq_false'] at hw
    obtain ⟨⟨⟨⟨⟨⟨⟨-, -⟩, hy⟩, hd⟩, hL⟩, hh⟩, hm⟩, hs⟩ := hw
    have a1 := begY_low p.year (by omega)
    have a2 := aheadM_le p.year p.month
    have a3 := mLen_le p.year p.month
    have hd2 : p.day ≤ 31 := by omega
    show dayOf p.year p.month p.day * 86400 + (3600 * p.hour + 60 * p.min + p.sec) ≤ _
    have a4 : dayOf p.year p.month p.day ≤ 10000000 := by unfold dayOf; omega
    omega
end Go.Dr

