
/- The walks of layer 20 (renewing) and of its reference: one value, tags, with what is asked. -/
import Derived.Test.YtpbmmkonlboegaaDoorHop2
import Derived.Test.YtpbmmkonlboegaaDoorBase5
import Derived.Test.YtpbmmkonlboegaaDoorOpen2
import Derived.Deep.DrawnRows
import Derived.Deep.RegionHeld3
namespace Go.Dr
/-- The one value, and whether there is just one. -/
def oneV (vs : List Bytes) : Bytes := match vs with | [x] => x | _ => []
def oneB (vs : List Bytes) : Bool := decide (vs.length = 1)
/-- A tag without its mark. -/
def bareT (s : Bytes) : Bytes := Lib.trimPrefix s [87, 47]
theorem oneV_length (vs : List Bytes) : (oneV vs).length ≤ ssum vs := by
  unfold oneV
  split
  · simp [ssum]
  · simp
def etagT : Bytes := [101, 116, 97, 103]
def lastT : Bytes := [108, 97, 115, 116, 45, 109, 111, 100, 105, 102, 105, 101, 100]
def ifNoneT : Bytes := [105, 102, 45, 110, 111, 110, 101, 45, 109, 97, 116, 99, 104]
def ifSinceT : Bytes := [105, 102, 45, 109, 111, 100, 105, 102, 105, 101, 100, 45, 115, 105, 110, 99, 101]
/-- A field of the one value of a name, where there is one. -/
def askF (l : List F) (name to : Bytes) : List F := if oneB (values l name) then [⟨to, oneV (values l name), false⟩] else []
def asksF (l : List F) : List F := askF l etagT ifNoneT ++ askF l lastT ifSinceT
theorem askF_length (l : List F) (n a : Bytes) : (askF l n a).length ≤ 1 := by unfold askF; split <;> simp
def hasB (l : List F) (n : Bytes) : Bool := decide (0 < (values l n).length)
/-- Is a 304 about an answer? -/
def bothB (how : Bytes → Bytes → Bool) (n : Bytes) (list le : List F) : Bool := oneB (values list n) && (oneB (values le n) && how (oneV (values list n)) (oneV (values le n)))
def alikeB (a b : Bytes) : Bool := bareT a == bareT b
def fitsB (list le : List F) : Bool := if hasB list etagT then bothB alikeB etagT list le else if hasB list lastT then bothB (fun a b => a == b) lastT list le else true
end Go.Dr
namespace Go.Proofs.YtpbmmkonlboegaaDoor
open Go.RowKit Go.Dr

def En.cells (e : En) : Array Value := #[S e.key, e.vp, .int .i64 e.st, e.vf, S e.body, .int .i64 e.asked, .int .i64 e.came]

set_option maxRecDepth 100000 in
set_option maxHeartbeats 1000000 in
theorem one_any (l : List F) (name : Bytes) (v : Value) (w : World) (h : Fs w.heap.size w v l) (hl : fsum l ≤ 1099511627776) (hn : name.length ≤ 1099511627776) :
    Calls Tryd.prog 38 #[v, S name] w fun e w' => e = .returned (.tuple #[S (oneV (values l name)), .bool (oneB (values l name))]) ∧ Below w.heap.size w w' := by
  go_enter Tryd.func38, Tryd.ntmps38
  go_wp2_with fail
  refine (Values_any l name v w h hl hn).mono ?_
  rintro e w1 ⟨vv, rfl, hvv, hb1⟩
  have hr : Ss w1.heap.size w1 vv (values l name) := Ss.own hvv
  generalize hvs : values l name = vs at *
  have HVS := Lib.hid hvs
  clear hvv hvs
  obtain ⟨pa, ca, rfl, hm⟩ := hr.form
  match vs, hr, HVS, hm with
  | [x], hr, HVS, hm =>
    obtain ⟨b, off, rfl, hbb, c0⟩ := hr.at 0 (by simp)
    simp at c0
    go_wp2
    go_ret2
    exact ⟨by rw [HVS.out]; rfl, hb1⟩
  | [], hr, HVS, hm =>
    go_wp2
    go_ret2
    exact ⟨by rw [HVS.out]; rfl, hb1⟩
  | x :: y :: r, hr, HVS, hm =>
    have g : (((x :: y :: r).length : Int) == 1) = false := by simp; omega
    have g2 : (((x :: y :: r).length : Int) != 1) = true := by simp; omega
    have HL : Hid (oneB (x :: y :: r) = false) := by show _ = _; unfold oneB; simp
    generalize hn : (x :: y :: r).length = n at *
    go_wp2
    go_ret2
    exact ⟨by rw [HVS.out, HL.out]; rfl, hb1⟩

set_option maxRecDepth 100000 in
set_option maxHeartbeats 1000000 in
theorem refOne_any (l : List F) (name : Bytes) (v : Value) (w : World) (h : Fs w.heap.size w v l) (hl : fsum l ≤ 1099511627776) (hn : name.length ≤ 1099511627776) :
    Calls Tryd.prog 39 #[v, S name] w fun e w' => e = .returned (.tuple #[S (oneV (values l name)), .bool (oneB (values l name))]) ∧ Below w.heap.size w w' := by
  go_enter Tryd.func39, Tryd.ntmps39
  go_wp2_with fail
  refine (refValues_any l name v w h hl hn).mono ?_
  rintro e w1 ⟨vv, rfl, hvv, hb1⟩
  have hr : Ss w1.heap.size w1 vv (values l name) := Ss.own hvv
  generalize hvs : values l name = vs at *
  have HVS := Lib.hid hvs
  clear hvv hvs
  obtain ⟨pa, ca, rfl, hm⟩ := hr.form
  match vs, hr, HVS, hm with
  | [x], hr, HVS, hm =>
    obtain ⟨b, off, rfl, hbb, c0⟩ := hr.at 0 (by simp)
    simp at c0
    go_wp2
    go_ret2
    exact ⟨by rw [HVS.out]; rfl, hb1⟩
  | [], hr, HVS, hm =>
    go_wp2
    go_ret2
    exact ⟨by rw [HVS.out]; rfl, hb1⟩
  | x :: y :: r, hr, HVS, hm =>
    have g : (((x :: y :: r).length : Int) == 1) = false := by simp; omega
    have g2 : (((x :: y :: r).length : Int) != 1) = true := by simp; omega
    have HL : Hid (oneB (x :: y :: r) = false) := by show _ = _; unfold oneB; simp
    generalize hn : (x :: y :: r).length = n at *
    go_wp2
    go_ret2
    exact ⟨by rw [HVS.out, HL.out]; rfl, hb1⟩

set_option maxRecDepth 100000 in
theorem has_any (l : List F) (name : Bytes) (v : Value) (w : World) (h : Fs w.heap.size w v l) (hl : fsum l ≤ 1099511627776) (hn : name.length ≤ 1099511627776) :
    Calls Tryd.prog 42 #[v, S name] w fun e w' => e = .returned (.bool (hasB l name)) ∧ Below w.heap.size w w' := by
  go_enter Tryd.func42, Tryd.ntmps42
  go_wp2_with fail
  refine (Values_any l name v w h hl hn).mono ?_
  rintro e w1 ⟨vv, rfl, hvv, hb1⟩
  obtain ⟨pa, ca, rfl, hm⟩ := (Ss.own hvv).form
  have HY : Hid (hasB l name = decide (0 < (values l name).length)) := rfl
  generalize (values l name).length = n at *
  go_wp2
  go_ret
  exact ⟨ret_bool (by rw [HY.out]), hb1⟩
set_option maxRecDepth 100000 in
theorem refHas_any (l : List F) (name : Bytes) (v : Value) (w : World) (h : Fs w.heap.size w v l) (hl : fsum l ≤ 1099511627776) (hn : name.length ≤ 1099511627776) :
    Calls Tryd.prog 18 #[v, S name] w fun e w' => e = .returned (.bool (hasB l name)) ∧ Below w.heap.size w w' := by
  go_enter Tryd.func18, Tryd.ntmps18
  go_wp2_with fail
  refine (refValues_any l name v w h hl hn).mono ?_
  rintro e w1 ⟨vv, rfl, hvv, hb1⟩
  obtain ⟨pa, ca, rfl, hm⟩ := (Ss.own hvv).form
  have HY : Hid (hasB l name = decide (0 < (values l name).length)) := rfl
  generalize (values l name).length = n at *
  go_wp2
  go_ret
  exact ⟨ret_bool (by rw [HY.out]), hb1⟩

theorem alike_any (a b : Bytes) (w : World) : Calls Tryd.prog 43 #[S a, S b] w fun e w' => e = .returned (.bool (alikeB a b)) ∧ w = w' := by
  have HY : Hid (alikeB a b = (Lib.trimPrefix a [87, 47] == Lib.trimPrefix b [87, 47])) := rfl
  go_enter Tryd.func43, Tryd.ntmps43
  go_wp2_with fail
  refine (Tryd.strings_TrimPrefix ⟨a.toArray⟩ ⟨#[87, 47]⟩ w).mono ?_
  rintro e w1 ⟨rfl, hw1⟩
  obtain rfl : w = w1 := hw1.symm
  go_wp2_with fail
  refine (Tryd.strings_TrimPrefix ⟨b.toArray⟩ ⟨#[87, 47]⟩ w).mono ?_
  rintro e w1 ⟨rfl, hw1⟩
  obtain rfl : w = w1 := hw1.symm
  go_wp2
  go_ret
  exact ⟨ret_bool (by rw [HY.out]), rfl⟩
theorem same_any20 (a b : Bytes) (w : World) : Calls Tryd.prog 40 #[S a, S b] w fun e w' => e = .returned (.bool (a == b)) ∧ w = w' := by
  go_enter Tryd.func40, Tryd.ntmps40
  go_wp2
  go_ret
  exact ⟨rfl, rfl⟩

theorem bareT_two (r : Bytes) : bareT (87 :: 47 :: r) = r := by simp [bareT, Lib.trimPrefix, Lib.hasPrefix]
theorem bareT_no (s : Bytes) (h : s.take 2 ≠ [87, 47]) : bareT s = s := by
  unfold bareT Lib.trimPrefix
  rw [if_neg]
  intro hp
  refine h ?_
  match s, hp with
  | [], hp => simp [Lib.hasPrefix] at hp
  | [a], hp => simp [Lib.hasPrefix] at hp
  | a :: b :: r, hp =>
    simp [Lib.hasPrefix] at hp
    simp [hp]

theorem refBare_any (s : Bytes) (w : World) (hs : s.length ≤ maxLen) : Calls Tryd.prog 44 #[S s] w fun e w' => e = .returned (S (bareT s)) ∧ w = w' := by
  unfold maxLen at hs
  by_cases h2 : s.take 2 = [87, 47]
  · obtain ⟨r, rfl⟩ : ∃ r, s = 87 :: 47 :: r := by
      match s, h2 with
      | a :: b :: r, h2 =>
        simp at h2
        exact ⟨r, by rw [h2.1, h2.2]⟩
    have HY := Lib.hid (bareT_two r)
    go_enter Tryd.func44, Tryd.ntmps44
    go_wp2
    all_goals go_ret
    all_goals exact ⟨ret_S (by rw [HY.out]), rfl⟩
  · have HY := Lib.hid (bareT_no s h2)
    by_cases hl : 1 < s.length
    · have g0 : decide ((1 : Int) < (s.length : Int)) = true := by rw [decide_eq_true_iff]; omega
      have g : (s.take 2 == [87, 47]) = false := by simpa using h2
      clear h2
      go_enter Tryd.func44, Tryd.ntmps44
      go_wp2
      go_ret
      exact ⟨ret_S HY.out.symm, rfl⟩
    · have g0 : decide ((1 : Int) < (s.length : Int)) = false := by rw [decide_eq_false_iff_not]; omega
      clear h2
      go_enter Tryd.func44, Tryd.ntmps44
      go_wp2
      go_ret
      exact ⟨ret_S HY.out.symm, rfl⟩
end Go.Proofs.YtpbmmkonlboegaaDoor
