
/- The laws of what is said of keeping: no program in sight. -/
import Derived.Test.YtcicpboblppfiaaDoorCtlS
namespace Go.Dr

set_option linter.unusedVariables false in
theorem least_comm {a b : Int} (ha : -1 ≤ a) (hb : -1 ≤ b) : least a b = least b a := by
  unfold least; repeat' split
  all_goals omega
set_option linter.unusedVariables false in
theorem least_assoc {a b c : Int} (ha : -1 ≤ a) (hb : -1 ≤ b) (hc : -1 ≤ c) : least (least a b) c = least a (least b c) := by
  unfold least; repeat' split
  all_goals omega
theorem most_comm {a b : Int} : most a b = most b a := by unfold most; repeat' split
                                                          all_goals omega
theorem most_assoc {a b c : Int} : most (most a b) c = most a (most b c) := by
  unfold most; repeat' split
  all_goals omega
theorem join_comm {a b : Ctl} (h : a.ok) (h' : b.ok) : a.join b = b.join a := by
  simp only [Ctl.join, Bool.or_comm, least_comm h.1.1 h'.1.1, least_comm h.2.1.1 h'.2.1.1, least_comm h.2.2.2.1 h'.2.2.2.1, @most_comm a.mf]
theorem join_assoc {a b c : Ctl} (h : a.ok) (h' : b.ok) (h'' : c.ok) : (a.join b).join c = a.join (b.join c) := by
  simp only [Ctl.join, Bool.or_assoc, least_assoc h.1.1 h'.1.1 h''.1.1, least_assoc h.2.1.1 h'.2.1.1 h''.2.1.1, least_assoc h.2.2.2.1 h'.2.2.2.1 h''.2.2.2.1, most_assoc]
theorem none_join {c : Ctl} (h : c.ok) : Ctl.none.join c = c := by rw [join_comm Ctl.ok_none h, join_none c h]
theorem ctlAll_from (l : List Bytes) : ∀ c : Ctl, c.ok → l.foldl (fun c s => c.join (ctlOf s)) c = c.join (ctlAll l) := by
  induction l with
  | nil => intro c h; exact (join_none c h).symm
  | cons s l ih =>
    intro c h
    have e : ctlAll (s :: l) = (ctlOf s).join (ctlAll l) := by
      show l.foldl _ (Ctl.none.join (ctlOf s)) = _
      rw [none_join (ctlOf_ok s), ih _ (ctlOf_ok s)]
    rw [e, ← join_assoc h (ctlOf_ok s) (ctlAll_ok l), List.foldl_cons, ih _ (Ctl.ok_join h (ctlOf_ok s))]
theorem ctlAll_append (a b : List Bytes) : ctlAll (a ++ b) = (ctlAll a).join (ctlAll b) := by
  show (a ++ b).foldl _ Ctl.none = _
  rw [List.foldl_append]
  exact ctlAll_from b (ctlAll a) (ctlAll_ok a)
theorem allOf_append (a b : List F) (n : Bytes) : allOf (a ++ b) n = allOf a n ++ allOf b n := by simp [allOf, values]
theorem readC_append (a b : List F) : readC (a ++ b) = (readC a).join (readC b) := by
  unfold readC; rw [allOf_append, ctlAll_append]
theorem readC_ok (l : List F) : (readC l).ok := ctlAll_ok _
theorem readC_reverse (l : List F) : readC l.reverse = readC l := by
  induction l with
  | nil => rfl
  | cons f l ih =>
    rw [List.reverse_cons, readC_append, ih, join_comm (readC_ok l) (readC_ok [f]), ← readC_append]
    rfl
theorem readC_insert (l : List F) (n : Nat) (f : F) (hf : readC [f] = Ctl.none) : readC (l.take n ++ [f] ++ l.drop n) = readC l := by
  rw [readC_append, readC_append, hf, join_none _ (readC_ok _), ← readC_append, List.take_append_drop]

def wakeC : List F := [⟨[67, 97, 99, 104, 101, 45, 67, 111, 110, 116, 114, 111, 108], [109, 97, 120, 45, 97, 103, 101, 61, 54, 48, 44, 32, 80, 82, 73, 86, 65, 84, 69], false⟩]
theorem readC_wake : readC wakeC = { Ctl.none with ma := 60, pr := true } := by decide +kernel
theorem directive_wake : directive [65, 61, 34, 98, 34] = ([97], [98], true) := by decide +kernel
def staleF : F := ⟨cacheControl, [115, 116, 97, 108, 101, 45, 105, 102, 45, 101, 114, 114, 111, 114, 61, 53, 44, 32, 122, 122, 44, 32, 61, 44, 32, 109, 97, 120, 45, 97, 103, 101, 50, 61, 49], false⟩
theorem readC_stale : readC [staleF] = Ctl.none := by decide +kernel

def CacheControl : Bytes := [67, 97, 99, 104, 101, 45, 67, 111, 110, 116, 114, 111, 108]
def flagName : Nat → Bytes
  | 0 => noStore | 1 => noCache | 2 => noTransform | 3 => pubName | 4 => privName | 5 => mustRe | 6 => proxyRe | _ => onlyIf
def Ctl.flag (c : Ctl) : Nat → Ctl
  | 0 => { c with ns := true } | 1 => { c with nc := true } | 2 => { c with nt := true } | 3 => { c with pu := true } | 4 => { c with pr := true } | 5 => { c with mr := true } | 6 => { c with px := true } | _ => { c with oi := true }
theorem readC_flag (k : Nat) (hk : k < 8) : readC [⟨CacheControl, flagName k, false⟩] = Ctl.none.flag k := by
  match k, hk with
  | 0, _ => decide +kernel
  | 1, _ => decide +kernel
  | 2, _ => decide +kernel
  | 3, _ => decide +kernel
  | 4, _ => decide +kernel
  | 5, _ => decide +kernel
  | 6, _ => decide +kernel
  | 7, _ => decide +kernel
theorem join_flag {c : Ctl} (h : c.ok) (k : Nat) (hk : k < 8) : c.join (Ctl.none.flag k) = c.flag k := by
  have e1 := least_none' c.ma h.1.1
  have e2 := least_none' c.sm h.2.1.1
  have e3 := most_none c.mf h.2.2.1.1
  have e4 := least_none' c.ms h.2.2.2.1
  match k, hk with
  | 0, _ => simp [Ctl.join, Ctl.flag, Ctl.none, e1, e2, e3, e4]
  | 1, _ => simp [Ctl.join, Ctl.flag, Ctl.none, e1, e2, e3, e4]
  | 2, _ => simp [Ctl.join, Ctl.flag, Ctl.none, e1, e2, e3, e4]
  | 3, _ => simp [Ctl.join, Ctl.flag, Ctl.none, e1, e2, e3, e4]
  | 4, _ => simp [Ctl.join, Ctl.flag, Ctl.none, e1, e2, e3, e4]
  | 5, _ => simp [Ctl.join, Ctl.flag, Ctl.none, e1, e2, e3, e4]
  | 6, _ => simp [Ctl.join, Ctl.flag, Ctl.none, e1, e2, e3, e4]
  | 7, _ => simp [Ctl.join, Ctl.flag, Ctl.none, e1, e2, e3, e4]
theorem readC_adds (l : List F) (k : Nat) (hk : k < 8) : readC (l ++ [⟨CacheControl, flagName k, false⟩]) = (readC l).flag k := by
  rw [readC_append, readC_flag k hk, join_flag (readC_ok l) k hk]
end Go.Dr
