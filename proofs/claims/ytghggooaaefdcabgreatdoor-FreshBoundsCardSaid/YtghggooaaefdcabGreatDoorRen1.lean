
/- The walks of layer 20 (renewing) and of its reference: one value, tags, with what is asked. -/
import Derived.Test.YtghggooaaefdcabGreatDoorHop
import Derived.Test.YtghggooaaefdcabGreatDoorBase
import Derived.Test.YtghggooaaefdcabGreatDoorOpen
import Derived.Deep.DrawnRows
import Derived.Deep.RegionHeld3
namespace Go.Dr
/-- The one value, and whether there is just one. -/
def oneV (vs : List Bytes) : Bytes := match vs with | [x] => x | _ => []
def oneB (vs : List Bytes) : Bool := decide (vs.length = 1)
/-- A tag without its mark. -/
def bareT (s : Bytes) : Bytes := Lib.trimPrefix s [87, 47]
theorem oneV_length (vs : List Bytes) : (oneV vs).length ≤ ssum vs := by
  unfold oneV
  split
  · simp [ssum]
  · simp
def etagT : Bytes := [101, 116, 97, 103]
def lastT : Bytes := [108, 97, 115, 116, 45, 109, 111, 100, 105, 102, 105, 101, 100]
def ifNoneT : Bytes := [105, 102, 45, 110, 111, 110, 101, 45, 109, 97, 116, 99, 104]
def ifSinceT : Bytes := [105, 102, 45, 109, 111, 100, 105, 102, 105, 101, 100, 45, 115, 105, 110, 99, 101]
/-- A field of the one value of a name, where there is one. -/
def askF (l : List F) (name to : Bytes) : List F := if oneB (values l name) then [⟨to, oneV (values l name), false⟩] else []
def asksF (l : List F) : List F := askF l etagT ifNoneT ++ askF l lastT ifSinceT
theorem askF_length (l : List F) (n a : Bytes) : (askF l n a).length ≤ 1 := by unfold askF; split <;> simp
def hasB (l : List F) (n : Bytes) : Bool := decide (0 < (values l n).length)
/-- Is a 304 about an answer? -/
def bothB (how : Bytes → Bytes → Bool) (n : Bytes) (list le : List F) : Bool := oneB (values list n) && (oneB (values le n) && how (oneV (values list n)) (oneV (values le n)))
def alikeB (a b : Bytes) : Bool := bareT a == bareT b
def fitsB (list le : List F) : Bool := if hasB list etagT then bothB alikeB etagT list le else if hasB list lastT then bothB (fun a b => a == b) lastT list le else true
end Go.Dr
namespace Go.Proofs.YtghggooaaefdcabGreatDoor
open Go.RowKit Go.Dr

def En.cells (e : En) : Array Value := #[S e.key, e.vp, .int .i64 e.st, e.vf, S e.body, .int .i64 e.asked, .int .i64 e.came]

set_option maxRecDepth 100000 in
theorem refHas_any (l : List F) (name : Bytes) (v : Value) (w : World) (h : Fs w.heap.size w v l) (hl : fsum l ≤ 1099511627776) (hn : name.length ≤ 1099511627776) :
    Calls Tryz.prog 27 #[v, S name] w fun e w' => e = .returned (.bool (hasB l name)) ∧ Below w.heap.size w w' := by
  go_enter Tryz.func27, Tryz.ntmps27
  go_wp2_with fail
  refine (refValues_any l name v w h hl hn).mono ?_
  rintro e w1 ⟨vv, rfl, hvv, hb1⟩
  obtain ⟨pa, ca, rfl, hm⟩ := (Ss.own hvv).form
  have HY : Hid (hasB l name = decide (0 < (values l name).length)) := rfl
  generalize (values l name).length = n at *
  go_wp2
  go_ret
  exact ⟨ret_bool (by rw [HY.out]), hb1⟩

theorem bareT_two (r : Bytes) : bareT (87 :: 47 :: r) = r := by simp [bareT, Lib.trimPrefix, Lib.hasPrefix]
theorem bareT_no (s : Bytes) (h : s.take 2 ≠ [87, 47]) : bareT s = s := by
  unfold bareT Lib.trimPrefix
  rw [if_neg]
  intro hp
  refine h ?_
  match s, hp with
  | [], hp => simp [Lib.hasPrefix] at hp
  | [a], hp => simp [Lib.hasPrefix] at hp
  | a :: b :: r, hp =>
    simp [Lib.hasPrefix] at hp
    simp [hp]

end Go.Proofs.YtghggooaaefdcabGreatDoor
namespace Go.Proofs.YtghggooaaefdcabGreatDoor
open Go.RowKit Go.Dr

/-- What a call of the inner function leaves: the list that it has grown, in its variable. -/
def Asked (O base : Nat) (w : World) (l : List F) (e : Ending) (w' : World) : Prop :=
  e = .returned (.tuple #[]) ∧ ∃ v, Dr.One w' O 22 v ∧ w'.ownsRow base 35 3 v l.length (fcells l) ∧ Below O w w' ∧ w.heap.size ≤ w'.heap.size

theorem asksF_eq (l : List F) : ([] ++ askF l etagT ifNoneT) ++ askF l lastT ifSinceT = asksF l := by simp [asksF]
theorem asksF_length (l : List F) : (asksF l).length ≤ 2 := by
  have := askF_length l etagT ifNoneT
  have := askF_length l lastT ifSinceT
  unfold asksF
  rw [List.length_append]
  omega

end Go.Proofs.YtghggooaaefdcabGreatDoor
