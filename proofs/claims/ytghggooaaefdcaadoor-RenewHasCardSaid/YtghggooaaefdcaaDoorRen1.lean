
/- The walks of layer 20 (renewing) and of its reference: one value, tags, with what is asked. -/
import Derived.Test.YtghggooaaefdcaaDoorHop
import Derived.Test.YtghggooaaefdcaaDoorBase
import Derived.Test.YtghggooaaefdcaaDoorOpen
import Derived.Deep.DrawnRows
import Derived.Deep.RegionHeld3
namespace Go.Dr
/-- The one value, and whether there is just one. -/
def oneV (vs : List Bytes) : Bytes := match vs with | [x] => x | _ => []
def oneB (vs : List Bytes) : Bool := decide (vs.length = 1)
/-- A tag without its mark. -/
def bareT (s : Bytes) : Bytes := Lib.trimPrefix s [87, 47]
theorem oneV_length (vs : List Bytes) : (oneV vs).length ≤ ssum vs := by
  unfold oneV
  split
  · simp [ssum]
  · simp
def etagT : Bytes := [101, 116, 97, 103]
def lastT : Bytes := [108, 97, 115, 116, 45, 109, 111, 100, 105, 102, 105, 101, 100]
def ifNoneT : Bytes := [105, 102, 45, 110, 111, 110, 101, 45, 109, 97, 116, 99, 104]
def ifSinceT : Bytes := [105, 102, 45, 109, 111, 100, 105, 102, 105, 101, 100, 45, 115, 105, 110, 99, 101]
/-- A field of the one value of a name, where there is one. -/
def askF (l : List F) (name to : Bytes) : List F := if oneB (values l name) then [⟨to, oneV (values l name), false⟩] else []
def asksF (l : List F) : List F := askF l etagT ifNoneT ++ askF l lastT ifSinceT
theorem askF_length (l : List F) (n a : Bytes) : (askF l n a).length ≤ 1 := by unfold askF; split <;> simp
def hasB (l : List F) (n : Bytes) : Bool := decide (0 < (values l n).length)
/-- Is a 304 about an answer? -/
def bothB (how : Bytes → Bytes → Bool) (n : Bytes) (list le : List F) : Bool := oneB (values list n) && (oneB (values le n) && how (oneV (values list n)) (oneV (values le n)))
def alikeB (a b : Bytes) : Bool := bareT a == bareT b
def fitsB (list le : List F) : Bool := if hasB list etagT then bothB alikeB etagT list le else if hasB list lastT then bothB (fun a b => a == b) lastT list le else true
end Go.Dr
namespace Go.Proofs.YtghggooaaefdcaaDoor
open Go.RowKit Go.Dr

def En.cells (e : En) : Array Value := #[S e.key, e.vp, .int .i64 e.st, e.vf, S e.body, .int .i64 e.asked, .int .i64 e.came]

set_option maxRecDepth 100000 in
set_option maxHeartbeats 1000000 in
theorem one_any (l : List F) (name : Bytes) (v : Value) (w : World) (h : Fs w.heap.size w v l) (hl : fsum l ≤ 1099511627776) (hn : name.length ≤ 1099511627776) :
    Calls Tryd.prog 81 #[v, S name] w fun e w' => e = .returned (.tuple #[S (oneV (values l name)), .bool (oneB (values l name))]) ∧ Below w.heap.size w w' := by
  go_enter Tryd.func81, Tryd.ntmps81
  go_wp2_with fail
  refine (Values_any l name v w h hl hn).mono ?_
  rintro e w1 ⟨vv, rfl, hvv, hb1⟩
  have hr : Ss w1.heap.size w1 vv (values l name) := Ss.own hvv
  generalize hvs : values l name = vs at *
  have HVS := Lib.hid hvs
  clear hvv hvs
  obtain ⟨pa, ca, rfl, hm⟩ := hr.form
  match vs, hr, HVS, hm with
  | [x], hr, HVS, hm =>
    obtain ⟨b, off, rfl, hbb, c0⟩ := hr.at 0 (by simp)
    simp at c0
    go_wp2
    go_ret2
    exact ⟨by rw [HVS.out]; rfl, hb1⟩
  | [], hr, HVS, hm =>
    go_wp2
    go_ret2
    exact ⟨by rw [HVS.out]; rfl, hb1⟩
  | x :: y :: r, hr, HVS, hm =>
    have g : (((x :: y :: r).length : Int) == 1) = false := by simp; omega
    have g2 : (((x :: y :: r).length : Int) != 1) = true := by simp; omega
    have HL : Hid (oneB (x :: y :: r) = false) := by show _ = _; unfold oneB; simp
    generalize hn : (x :: y :: r).length = n at *
    go_wp2
    go_ret2
    exact ⟨by rw [HVS.out, HL.out]; rfl, hb1⟩

set_option maxRecDepth 100000 in
theorem has_any (l : List F) (name : Bytes) (v : Value) (w : World) (h : Fs w.heap.size w v l) (hl : fsum l ≤ 1099511627776) (hn : name.length ≤ 1099511627776) :
    Calls Tryd.prog 68 #[v, S name] w fun e w' => e = .returned (.bool (hasB l name)) ∧ Below w.heap.size w w' := by
  go_enter Tryd.func68, Tryd.ntmps68
  go_wp2_with fail
  refine (Values_any l name v w h hl hn).mono ?_
  rintro e w1 ⟨vv, rfl, hvv, hb1⟩
  obtain ⟨pa, ca, rfl, hm⟩ := (Ss.own hvv).form
  have HY : Hid (hasB l name = decide (0 < (values l name).length)) := rfl
  generalize (values l name).length = n at *
  go_wp2
  go_ret
  exact ⟨ret_bool (by rw [HY.out]), hb1⟩
set_option maxRecDepth 100000 in
theorem refHas_any (l : List F) (name : Bytes) (v : Value) (w : World) (h : Fs w.heap.size w v l) (hl : fsum l ≤ 1099511627776) (hn : name.length ≤ 1099511627776) :
    Calls Tryd.prog 34 #[v, S name] w fun e w' => e = .returned (.bool (hasB l name)) ∧ Below w.heap.size w w' := by
  go_enter Tryd.func34, Tryd.ntmps34
  go_wp2_with fail
  refine (refValues_any l name v w h hl hn).mono ?_
  rintro e w1 ⟨vv, rfl, hvv, hb1⟩
  obtain ⟨pa, ca, rfl, hm⟩ := (Ss.own hvv).form
  have HY : Hid (hasB l name = decide (0 < (values l name).length)) := rfl
  generalize (values l name).length = n at *
  go_wp2
  go_ret
  exact ⟨ret_bool (by rw [HY.out]), hb1⟩

theorem alike_any (a b : Bytes) (w : World) : Calls Tryd.prog 84 #[S a, S b] w fun e w' => e = .returned (.bool (alikeB a b)) ∧ w = w' := by
  have HY : Hid (alikeB a b = (Lib.trimPrefix a [87, 47] == Lib.trimPrefix b [87, 47])) := rfl
  go_enter Tryd.func84, Tryd.ntmps84
  go_wp2_with fail
  refine (Tryd.strings_TrimPrefix ⟨a.toArray⟩ ⟨#[87, 47]⟩ w).mono ?_
  rintro e w1 ⟨rfl, hw1⟩
  obtain rfl : w = w1 := hw1.symm
  go_wp2_with fail
  refine (Tryd.strings_TrimPrefix ⟨b.toArray⟩ ⟨#[87, 47]⟩ w).mono ?_
  rintro e w1 ⟨rfl, hw1⟩
  obtain rfl : w = w1 := hw1.symm
  go_wp2
  go_ret
  exact ⟨ret_bool (by rw [HY.out]), rfl⟩
theorem same_any20 (a b : Bytes) (w : World) : Calls Tryd.prog 82 #[S a, S b] w fun e w' => e = .returned (.bool (a == b)) ∧ w = w' := by
  go_enter Tryd.func82, Tryd.ntmps82
  go_wp2
  go_ret
  exact ⟨rfl, rfl⟩

theorem bareT_two (r : Bytes) : bareT (87 :: 47 :: r) = r := by simp [bareT, Lib.trimPrefix, Lib.hasPrefix]
theorem bareT_no (s : Bytes) (h : s.take 2 ≠ [87, 47]) : bareT s = s := by
  unfold bareT Lib.trimPrefix
  rw [if_neg]
  intro hp
  refine h ?_
  match s, hp with
  | [], hp => simp [Lib.hasPrefix] at hp
  | [a], hp => simp [Lib.hasPrefix] at hp
  | a :: b :: r, hp =>
    simp [Lib.hasPrefix] at hp
    simp [hp]

end Go.Proofs.YtghggooaaefdcaaDoor
namespace Go.Proofs.YtghggooaaefdcaaDoor
open Go.RowKit Go.Dr

/-- What a call of the inner function leaves: the list that it has grown, in its variable. -/
def Asked (O base : Nat) (w : World) (l : List F) (e : Ending) (w' : World) : Prop :=
  e = .returned (.tuple #[]) ∧ ∃ v, Dr.One w' O 26 v ∧ w'.ownsRow base 45 3 v l.length (fcells l) ∧ Below O w w' ∧ w.heap.size ≤ w'.heap.size

set_option linter.unusedVariables false in
set_option maxRecDepth 100000 in
set_option maxHeartbeats 2000000 in
theorem ask_any (l out : List F) (n to : Bytes) (vf vo : Value) (E O base : Nat) (w : World) (hE : w.cell? ⟨E, 3, none⟩ = some vf) (h : Fs w.heap.size w vf l) (hl : fsum l ≤ 1099511627776) (hn : n.length ≤ 1099511627776)
    (hO : Dr.One w O 26 vo) (hown : w.ownsRow base 45 3 vo out.length (fcells out)) (hol : out.length ≤ 1000) (hEO : E < O) (hOb : O < base) (hbw : base ≤ w.heap.size) :
    Calls Tryd.prog 80 #[S n, S to, .pointer (some ⟨E, 0, none⟩), .pointer (some ⟨O, 0, none⟩)] w (Asked O base w (out ++ askF l n to)) := by
  have HY : Hid (askF l n to = if oneB (values l n) then [⟨to, oneV (values l n), false⟩] else []) := rfl
  have hOl := hO.lt
  have cO := hO.cell
  have fO := hO.free
  go_enter Tryd.func80, Tryd.ntmps80
  go_wp2_with fail
  refine (one_any l n vf w h hl hn).mono ?_
  rintro e w1 ⟨rfl, hb1⟩
  have hO1 := hO.below hb1 hOl
  have hown1 := own_below hown hb1
  have cO1 := hO1.cell
  have fO1 := hO1.free
  have hz1 := hb1.size
  clear hO hown cO fO
  generalize oneV (values l n) = x at *
  cases hq : oneB (values l n) with
  | false =>
    rw [hq] at HY
    clear hq
    go_wp2
    refine bodyPost_ret (results_none rfl _ _ _) rfl ?_
    exact ⟨rfl, vo, hO1, by rw [HY.out]; simpa using hown1, hb1.mono (by omega), hz1⟩
  | true =>
    rw [hq] at HY
    clear hq
    go_wp2_with (at_builtin; refine wpList_appFG rfl _ _ 26 rfl base Tryd.underlying26 (by kernel_rfl) _ _ _ rfl hown1 rfl (by omega) (by omega) rfl ?_; intro a2 c2 w2 hown2 hb2 hz2 hg2; have hO2 := hO1.below hb2 (by omega); have cO2 := hO2.cell; have fO2 := hO2.free)
    refine bodyPost_ret (results_none rfl _ _ _) rfl ?_
    have hbO : Below O w w2 := (hb1.mono (by omega)).trans (hb2.mono (by omega))
    refine ⟨rfl, _, hO2.set _, ?_, hbO.setCell (p := ⟨O, 0, none⟩) (Nat.le_refl _) _, by simp [World.setCell]; omega⟩
    rw [HY.out]
    simp only [if_true, List.length_append, List.length_cons, List.length_nil, fcells_append]
    exact ownsRow_setCell_below hown2 (by show O < base; omega) _

theorem asksF_eq (l : List F) : ([] ++ askF l etagT ifNoneT) ++ askF l lastT ifSinceT = asksF l := by simp [asksF]
theorem asksF_length (l : List F) : (asksF l).length ≤ 2 := by
  have := askF_length l etagT ifNoneT
  have := askF_length l lastT ifSinceT
  unfold asksF
  rw [List.length_append]
  omega

set_option maxRecDepth 100000 in
set_option maxHeartbeats 2000000 in
theorem Asks_any (q : En) (l : List F) (w : World) (h : Fs w.heap.size w q.vf l) (hl : fsum l ≤ 1099511627776) :
    Calls Tryd.prog 59 #[q.val] w (RetFs 45 w (asksF l)) := by
  obtain ⟨pf, cf, hfv, -⟩ := h.form
  obtain ⟨key, vp, st, vf, body, asked, came⟩ := q
  simp only at hfv h
  subst hfv
  have hmf : ∀ (fn : Fn) (first cap : Array Value) (w : World), (Instr.makeFunc fn first cap).run Tryd.prog w = .ok (.func fn first cap) w := fun _ _ _ _ => rfl
  have hQ := Blk.new w 28 (En.cells ⟨key, vp, st, .slice pf l.length cf, body, asked, came⟩)
  have hbx : Below w.heap.size w (w.alloc (.cells (En.cells ⟨key, vp, st, .slice pf l.length cf, body, asked, came⟩) 28)) := (Below.refl _ _).alloc (Nat.le_refl _) _
  have h1 := (h.below hbx).mono hbx.size
  have hQ1 := hQ.alloc (.cells #[.slice none 0 0] 26)
  have hO := Dr.One.new (w.alloc (.cells (En.cells ⟨key, vp, st, .slice pf l.length cf, body, asked, came⟩) 28)) 26 (.slice none 0 0)
  have hb2 := hbx.alloc hbx.size (.cells #[.slice none 0 0] 26)
  have h2 := (h.below hb2).mono hb2.size
  have hsz : (w.alloc (.cells (En.cells ⟨key, vp, st, .slice pf l.length cf, body, asked, came⟩) 28)).heap.size = w.heap.size + 1 := by simp
  rw [hsz] at hO
  have c3 : ((w.alloc (.cells (En.cells ⟨key, vp, st, .slice pf l.length cf, body, asked, came⟩) 28)).alloc (.cells #[.slice none 0 0] 26)).cell? ⟨w.heap.size, 3, none⟩ = some (.slice pf l.length cf) := hQ1.cell 3
  have HA := Lib.hid (asksF_eq l)
  have hal := askF_length l etagT ifNoneT
  unfold En.val
  go_enter Tryd.func59, Tryd.ntmps59
  go_wp2_with fail
  refine (ask_any l [] etagT ifNoneT _ _ w.heap.size (w.heap.size + 1) (w.heap.size + 2) _ c3 h2 hl (by decide) hO (World.ownsRow_nil _ _ _ _) (by simp) (by omega) (by omega) (by simp)).mono ?_
  rintro e w3 ⟨rfl, v3, hO3, hown3, hb3, hz3⟩
  have hb03 := hb2.trans (hb3.mono (by omega))
  have h3 := (h.below hb03).mono hb03.size
  have hQ3 := hQ1.below hb3 (by omega)
  have c33 : w3.cell? ⟨w.heap.size, 3, none⟩ = some (.slice pf l.length cf) := hQ3.cell 3
  simp only [World.size_alloc] at hz3
  clear hO hQ hQ1 h2 c3 hb2 hsz h1 hbx
  go_wp2_with fail
  refine (ask_any l ([] ++ askF l etagT ifNoneT) lastT ifSinceT _ v3 w.heap.size (w.heap.size + 1) (w.heap.size + 2) _ c33 h3 hl (by decide) hO3 hown3 (by rw [List.nil_append]; omega) (by omega) (by omega) (by omega)).mono ?_
  rintro e w4 ⟨rfl, v4, hO4, hown4, hb4, hz4⟩
  have cO := hO4.cell
  rw [HA.out] at hown4
  have hb04 := hb03.trans (hb4.mono (by omega))
  clear hO3 hown3
  go_wp2
  go_ret
  exact ⟨_, rfl, own_base hown4 (by omega), hb04⟩

end Go.Proofs.YtghggooaaefdcaaDoor
