
/- What layer 13 (what is said of keeping answers) says, as plain functions on lists: no program in sight. -/
import Derived.Test.YtcicpboblppfiaaDoorSpec
import Derived.Lib.Strings
import Derived.Lib.Bytealg
namespace Go.Dr

/-- May a byte stand in a token? is a text a token? -/
def tokMarks : Bytes := [33, 35, 36, 37, 38, 39, 42, 43, 45, 46, 94, 95, 96, 124, 126]
def isMark (c : UInt8) : Bool := tokMarks.contains c
def tokB (c : UInt8) : Bool := decide (48 ≤ c.toNat ∧ c.toNat ≤ 57) || decide (97 ≤ c.toNat ∧ c.toNat ≤ 122) || decide (65 ≤ c.toNat ∧ c.toNat ≤ 90) || isMark c
def token (l : Bytes) : Bool := l.all tokB && !l.isEmpty

/-- What a digit of a base up to sixteen says (sixteen: it is none); a number's digits: its value, and the error's number. -/
def digitN (c : UInt8) : Nat := if 48 ≤ c.toNat ∧ c.toNat ≤ 57 then c.toNat - 48 else if 97 ≤ c.toNat ∧ c.toNat ≤ 102 then c.toNat - 87 else if 65 ≤ c.toNat ∧ c.toNat ≤ 70 then c.toNat - 55 else 16
def numTo (base : Nat) (l : Bytes) : Nat := l.foldl (fun n c => n * base + digitN c) 0
def greatest : Nat := 1099511627776
def number (base : Nat) (l : Bytes) : Nat × Nat := if l.isEmpty || !l.all (fun c => decide (digitN c < base)) then (0, 10) else if numTo base l ≤ greatest then (numTo base l, 0) else (0, 11)

theorem digitN_le (c : UInt8) : digitN c ≤ 16 := by
  unfold digitN
  repeat' split
  all_goals omega
theorem numTo_snoc (base : Nat) (l : Bytes) (k : Nat) (h : k < l.length) : numTo base (l.take (k + 1)) = numTo base (l.take k) * base + digitN l[k] := by
  rw [take_snoc l k h]; simp only [numTo, List.foldl_append, List.foldl_cons, List.foldl_nil]
theorem numTo_from (base : Nat) (hb : 0 < base) (l : Bytes) : ∀ a : Nat, a ≤ l.foldl (fun n c => n * base + digitN c) a := by
  induction l with
  | nil => intro a; exact Nat.le_refl _
  | cons c l ih =>
    intro a
    have h1 := ih (a * base + digitN c)
    have h2 : a ≤ a * base := Nat.le_mul_of_pos_right _ hb
    simp only [List.foldl_cons]
    omega
theorem numTo_take (base : Nat) (hb : 0 < base) (l : Bytes) (k : Nat) : numTo base (l.take k) ≤ numTo base l := by
  conv => rhs; rw [← List.take_append_drop k l]
  unfold numTo
  rw [List.foldl_append]
  exact numTo_from base hb _ _
theorem number_le (base : Nat) (l : Bytes) : (number base l).1 ≤ greatest := by
  unfold number greatest
  split
  · simp
  · split
    · rename_i h; exact h
    · simp

/-- A text up to its first sign of equality; what stands behind that. -/
def eqName (l : Bytes) : Bytes := l.takeWhile fun c => c != 61
def eqArg (l : Bytes) : Bytes := (l.dropWhile fun c => c != 61).drop 1
/-- What stands between quotes, its first one gone, and whether it is well ended. -/
def unq (out : Bytes) : Bytes → Bytes × Bool
  | [] => ([], false)
  | [c] => if c = 34 then (out, true) else ([], false)
  | c :: d :: r =>
    if c = 34 then (out, false)
    else if c = 92 then unq (out ++ [d]) r
    else unq (out ++ [c]) (d :: r)
def unquote (l : Bytes) : Bytes × Bool := unq [] (l.drop 1)
/-- A directive's name and argument, and whether it is one. -/
def directive (l : Bytes) : Bytes × Bytes × Bool :=
  if token (eqName l) then
    (if Lib.hasPrefix (eqArg l) [34] then (if (unquote (eqArg l)).2 then (low (eqName l), (unquote (eqArg l)).1, true) else ([], [], false)) else (low (eqName l), eqArg l, true))
  else ([], [], false)

theorem unq_end (out l : Bytes) (k : Nat) (h : l.length ≤ k) : unq out (l.drop k) = ([], false) := by
  rw [List.drop_eq_nil_of_le h]; rfl
theorem unq_quote (out l : Bytes) (k : Nat) (h : k < l.length) (hc : l[k] = 34) : unq out (l.drop k) = (out, decide (k + 1 = l.length)) := by
  rw [drop_get l k h, hc]
  by_cases e : k + 1 = l.length
  · rw [List.drop_eq_nil_of_le (by omega)]; simp [unq, e]
  · rw [drop_get l (k + 1) (by omega)]; simp [unq, e]
theorem unq_last (out l : Bytes) (k : Nat) (h : k < l.length) (hc : l[k] = 92) (he : k + 1 = l.length) : unq out (l.drop k) = ([], false) := by
  rw [drop_get l k h, hc, List.drop_eq_nil_of_le (by omega)]
  simp [unq]
theorem unq_two (out l : Bytes) (k : Nat) (h : k + 1 < l.length) (hc : l[k] = 92) : unq out (l.drop k) = unq (out ++ [l[k + 1]]) (l.drop (k + 1 + 1)) := by
  rw [drop_get l k (by omega), hc, drop_get l (k + 1) h]
  simp [unq]
theorem unq_one (out l : Bytes) (k : Nat) (h : k < l.length) (h1 : l[k] ≠ 34) (h2 : l[k] ≠ 92) : unq out (l.drop k) = unq (out ++ [l[k]]) (l.drop (k + 1)) := by
  rw [drop_get l k h]
  by_cases e : k + 1 = l.length
  · rw [List.drop_eq_nil_of_le (by omega)]; simp [unq, h1]
  · rw [drop_get l (k + 1) (by omega)]; simp [unq, h1, h2]

theorem cut_at (l : Bytes) : (∃ k : Nat, Lib.indexByte l 61 = (k : Int) ∧ k < l.length ∧ eqName l = l.take k ∧ eqArg l = l.drop (k + 1)) ∨ (Lib.indexByte l 61 = -1 ∧ eqName l = l ∧ eqArg l = []) := by
  induction l with
  | nil => exact .inr ⟨rfl, rfl, rfl⟩
  | cons c r ih =>
    by_cases hc : c = 61
    · subst hc
      exact .inl ⟨0, by simp [Lib.indexByte], by simp, by simp [eqName], by simp [eqArg]⟩
    · have e1 : eqName (c :: r) = c :: eqName r := by simp [eqName, hc]
      have e2 : eqArg (c :: r) = eqArg r := by simp [eqArg, hc]
      rcases ih with ⟨k, h1, h2, h3, h4⟩ | ⟨h1, h2, h3⟩
      · refine .inl ⟨k + 1, ?_, by simp; omega, by rw [e1, h3]; simp, by rw [e2, h4]; simp⟩
        simp only [Lib.indexByte, h1]
        rw [if_neg (by simpa using hc), if_neg (by simp)]
        simp
      · refine .inr ⟨?_, by rw [e1, h2], by rw [e2, h3]⟩
        simp only [Lib.indexByte, h1]
        rw [if_neg (by simpa using hc)]
        simp

def numArg (a : Bytes) : Nat := if (number 10 a).2 = 11 then greatest else (number 10 a).1

/-- What is said of keeping. -/
structure Ctl where
  ns : Bool
  nc : Bool
  nt : Bool
  pu : Bool
  pr : Bool
  mr : Bool
  px : Bool
  oi : Bool
  ma : Int
  sm : Int
  mf : Int
  ms : Int
  deriving DecidableEq
def Ctl.none : Ctl := ⟨false, false, false, false, false, false, false, false, -1, -1, -1, -1⟩
def Ctl.zero : Ctl := ⟨false, false, false, false, false, false, false, false, 0, 0, 0, 0⟩
def least (a b : Int) : Int := if a < 0 then b else if b < 0 then a else if a ≤ b then a else b
def most (a b : Int) : Int := if a ≤ b then b else a
def Ctl.join (a b : Ctl) : Ctl :=
  ⟨a.ns || b.ns, a.nc || b.nc, a.nt || b.nt, a.pu || b.pu, a.pr || b.pr, a.mr || b.mr, a.px || b.px, a.oi || b.oi, least a.ma b.ma, least a.sm b.sm, most a.mf b.mf, least a.ms b.ms⟩

def noStore : Bytes := [110, 111, 45, 115, 116, 111, 114, 101]
def noCache : Bytes := [110, 111, 45, 99, 97, 99, 104, 101]
def noTransform : Bytes := [110, 111, 45, 116, 114, 97, 110, 115, 102, 111, 114, 109]
def pubName : Bytes := [112, 117, 98, 108, 105, 99]
def privName : Bytes := [112, 114, 105, 118, 97, 116, 101]
def mustRe : Bytes := [109, 117, 115, 116, 45, 114, 101, 118, 97, 108, 105, 100, 97, 116, 101]
def proxyRe : Bytes := [112, 114, 111, 120, 121, 45, 114, 101, 118, 97, 108, 105, 100, 97, 116, 101]
def onlyIf : Bytes := [111, 110, 108, 121, 45, 105, 102, 45, 99, 97, 99, 104, 101, 100]
def maxAge : Bytes := [109, 97, 120, 45, 97, 103, 101]
def sMaxage : Bytes := [115, 45, 109, 97, 120, 97, 103, 101]
def minFresh : Bytes := [109, 105, 110, 45, 102, 114, 101, 115, 104]
def maxStale : Bytes := [109, 97, 120, 45, 115, 116, 97, 108, 101]
def cacheControl : Bytes := [99, 97, 99, 104, 101, 45, 99, 111, 110, 116, 114, 111, 108]

/-- What one directive says by itself. -/
def ctlSays (n a : Bytes) : Ctl :=
  if n = noStore then { Ctl.none with ns := true } else if n = noCache then { Ctl.none with nc := true } else if n = noTransform then { Ctl.none with nt := true }
  else if n = pubName then { Ctl.none with pu := true } else if n = privName then { Ctl.none with pr := true } else if n = mustRe then { Ctl.none with mr := true }
  else if n = proxyRe then { Ctl.none with px := true } else if n = onlyIf then { Ctl.none with oi := true }
  else if n = maxAge then { Ctl.none with ma := numArg a } else if n = sMaxage then { Ctl.none with sm := numArg a } else if n = minFresh then { Ctl.none with mf := numArg a }
  else if n = maxStale then { Ctl.none with ms := if a = [] then greatest else numArg a }
  else Ctl.none
def ctlOf (s : Bytes) : Ctl := if (directive s).2.2 then ctlSays (directive s).1 (directive s).2.1 else Ctl.none
def ctlAll (l : List Bytes) : Ctl := l.foldl (fun c s => c.join (ctlOf s)) Ctl.none
def readC (l : List F) : Ctl := ctlAll (allOf l cacheControl)

theorem least_none (a : Int) : least a (-1) = if a < 0 then -1 else a := by unfold least; split <;> simp
/-- What is said of keeping, cell by cell. -/
def Ctl.cells (c : Ctl) : Array Value := #[.bool c.ns, .bool c.nc, .bool c.nt, .bool c.pu, .bool c.pr, .bool c.mr, .bool c.px, .bool c.oi, .int .i64 c.ma, .int .i64 c.sm, .int .i64 c.mf, .int .i64 c.ms]
/-- .. as a value. -/
abbrev Ctl.val (c : Ctl) : Value := .agg #[.bool c.ns, .bool c.nc, .bool c.nt, .bool c.pu, .bool c.pr, .bool c.mr, .bool c.px, .bool c.oi, .int .i64 c.ma, .int .i64 c.sm, .int .i64 c.mf, .int .i64 c.ms]
/-- The numbers are -1 or some. -/
def Ctl.ok (c : Ctl) : Prop := (-1 ≤ c.ma ∧ c.ma ≤ 1099511627776) ∧ (-1 ≤ c.sm ∧ c.sm ≤ 1099511627776) ∧ (-1 ≤ c.mf ∧ c.mf ≤ 1099511627776) ∧ (-1 ≤ c.ms ∧ c.ms ≤ 1099511627776)

theorem most_none (a : Int) (h : -1 ≤ a) : most a (-1) = a := by unfold most; split <;> omega
theorem least_none' (a : Int) (h : -1 ≤ a) : least a (-1) = a := by unfold least; split <;> (try split) <;> omega
theorem join_none (c : Ctl) (h : c.ok) : c.join Ctl.none = c := by
  obtain ⟨⟨h1, -⟩, ⟨h2, -⟩, ⟨h3, -⟩, h4, -⟩ := h
  cases c
  simp [Ctl.join, Ctl.none, least_none' _ h1, least_none' _ h2, most_none _ h3, least_none' _ h4]
theorem numArg_le (a : Bytes) : numArg a ≤ 1099511627776 := by
  unfold numArg
  split
  · exact Nat.le_refl _
  · exact number_le 10 a
theorem least_ok {a b : Int} (h : -1 ≤ a ∧ a ≤ 1099511627776) (h' : -1 ≤ b ∧ b ≤ 1099511627776) : -1 ≤ least a b ∧ least a b ≤ 1099511627776 := by
  unfold least; repeat' split
  all_goals omega
theorem most_ok {a b : Int} (h : -1 ≤ a ∧ a ≤ 1099511627776) (h' : -1 ≤ b ∧ b ≤ 1099511627776) : -1 ≤ most a b ∧ most a b ≤ 1099511627776 := by
  unfold most; split <;> omega
theorem Ctl.ok_join {a b : Ctl} (h : a.ok) (h' : b.ok) : (a.join b).ok := ⟨least_ok h.1 h'.1, least_ok h.2.1 h'.2.1, most_ok h.2.2.1 h'.2.2.1, least_ok h.2.2.2 h'.2.2.2⟩
theorem Ctl.ok_none : Ctl.none.ok := by simp [Ctl.ok, Ctl.none]
theorem ite_p {α : Type} (P : α → Prop) {c : Prop} [Decidable c] {a b : α} (h1 : P a) (h2 : P b) : P (if c then a else b) := by
  split
  · exact h1
  · exact h2
theorem ctlSays_ok (n a : Bytes) : (ctlSays n a).ok := by
  have h := numArg_le a
  have hg : greatest = 1099511627776 := rfl
  unfold ctlSays
  repeat' (refine ite_p Ctl.ok ?_ ?_)
  all_goals (simp only [Ctl.ok, Ctl.none]; omega)
theorem ctlOf_ok (s : Bytes) : (ctlOf s).ok := by
  unfold ctlOf
  split
  · exact ctlSays_ok _ _
  · exact Ctl.ok_none
theorem ctlAll_snoc (l : List Bytes) (k : Nat) (h : k < l.length) : ctlAll (l.take (k + 1)) = (ctlAll (l.take k)).join (ctlOf l[k]) := by
  rw [take_snoc l k h]; simp only [ctlAll, List.foldl_append, List.foldl_cons, List.foldl_nil]
theorem ctlAll_ok (l : List Bytes) : (ctlAll l).ok := by
  unfold ctlAll
  have : ∀ (l : List Bytes) (c : Ctl), c.ok → (l.foldl (fun c s => c.join (ctlOf s)) c).ok := by
    intro l
    induction l with
    | nil => intro c h; exact h
    | cons s l ih => intro c h; exact ih _ (Ctl.ok_join h (ctlOf_ok s))
  exact this l _ Ctl.ok_none
end Go.Dr
