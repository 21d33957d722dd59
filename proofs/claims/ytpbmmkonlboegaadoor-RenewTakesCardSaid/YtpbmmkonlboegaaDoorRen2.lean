
/- The walks of layer 20 and of its reference, second part: with what an origin is asked after an answer; whether a 304 is about it. -/
import Derived.Test.YtpbmmkonlboegaaDoorRen1
namespace Go.Proofs.YtpbmmkonlboegaaDoor
open Go.RowKit Go.Dr

/-- What a call of the inner function leaves: the list that it has grown, in its variable. -/
def Asked (O base : Nat) (w : World) (l : List F) (e : Ending) (w' : World) : Prop :=
  e = .returned (.tuple #[]) ∧ ∃ v, Dr.One w' O 23 v ∧ w'.ownsRow base 31 3 v l.length (fcells l) ∧ Below O w w' ∧ w.heap.size ≤ w'.heap.size

set_option linter.unusedVariables false in
set_option maxRecDepth 100000 in
set_option maxHeartbeats 2000000 in
theorem ask_any (l out : List F) (n to : Bytes) (vf vo : Value) (E O base : Nat) (w : World) (hE : w.cell? ⟨E, 3, none⟩ = some vf) (h : Fs w.heap.size w vf l) (hl : fsum l ≤ 1099511627776) (hn : n.length ≤ 1099511627776)
    (hO : Dr.One w O 23 vo) (hown : w.ownsRow base 31 3 vo out.length (fcells out)) (hol : out.length ≤ 1000) (hEO : E < O) (hOb : O < base) (hbw : base ≤ w.heap.size) :
    Calls Tryd.prog 37 #[S n, S to, .pointer (some ⟨E, 0, none⟩), .pointer (some ⟨O, 0, none⟩)] w (Asked O base w (out ++ askF l n to)) := by
  have HY : Hid (askF l n to = if oneB (values l n) then [⟨to, oneV (values l n), false⟩] else []) := rfl
  have hOl := hO.lt
  have cO := hO.cell
  have fO := hO.free
  go_enter Tryd.func37, Tryd.ntmps37
  go_wp2_with fail
  refine (one_any l n vf w h hl hn).mono ?_
  rintro e w1 ⟨rfl, hb1⟩
  have hO1 := hO.below hb1 hOl
  have hown1 := own_below hown hb1
  have cO1 := hO1.cell
  have fO1 := hO1.free
  have hz1 := hb1.size
  clear hO hown cO fO
  generalize oneV (values l n) = x at *
  cases hq : oneB (values l n) with
  | false =>
    rw [hq] at HY
    clear hq
    go_wp2
    refine bodyPost_ret (results_none rfl _ _ _) rfl ?_
    exact ⟨rfl, vo, hO1, by rw [HY.out]; simpa using hown1, hb1.mono (by omega), hz1⟩
  | true =>
    rw [hq] at HY
    clear hq
    go_wp2_with (at_builtin; refine wpList_appFG rfl _ _ 23 rfl base Tryd.underlying23 (by kernel_rfl) _ _ _ rfl hown1 rfl (by omega) (by omega) rfl ?_; intro a2 c2 w2 hown2 hb2 hz2 hg2; have hO2 := hO1.below hb2 (by omega); have cO2 := hO2.cell; have fO2 := hO2.free)
    refine bodyPost_ret (results_none rfl _ _ _) rfl ?_
    have hbO : Below O w w2 := (hb1.mono (by omega)).trans (hb2.mono (by omega))
    refine ⟨rfl, _, hO2.set _, ?_, hbO.setCell (p := ⟨O, 0, none⟩) (Nat.le_refl _) _, by simp [World.setCell]; omega⟩
    rw [HY.out]
    simp only [if_true, List.length_append, List.length_cons, List.length_nil, fcells_append]
    exact ownsRow_setCell_below hown2 (by show O < base; omega) _

theorem asksF_eq (l : List F) : ([] ++ askF l etagT ifNoneT) ++ askF l lastT ifSinceT = asksF l := by simp [asksF]
theorem asksF_length (l : List F) : (asksF l).length ≤ 2 := by
  have := askF_length l etagT ifNoneT
  have := askF_length l lastT ifSinceT
  unfold asksF
  rw [List.length_append]
  omega

set_option maxRecDepth 100000 in
set_option maxHeartbeats 2000000 in
theorem Asks_any (q : En) (l : List F) (w : World) (h : Fs w.heap.size w q.vf l) (hl : fsum l ≤ 1099511627776) :
    Calls Tryd.prog 14 #[q.val] w (RetFs 31 w (asksF l)) := by
  obtain ⟨pf, cf, hfv, -⟩ := h.form
  obtain ⟨key, vp, st, vf, body, asked, came⟩ := q
  simp only at hfv h
  subst hfv
  have hmf : ∀ (fn : Fn) (first cap : Array Value) (w : World), (Instr.makeFunc fn first cap).run Tryd.prog w = .ok (.func fn first cap) w := fun _ _ _ _ => rfl
  have hQ := Blk.new w 25 (En.cells ⟨key, vp, st, .slice pf l.length cf, body, asked, came⟩)
  have hbx : Below w.heap.size w (w.alloc (.cells (En.cells ⟨key, vp, st, .slice pf l.length cf, body, asked, came⟩) 25)) := (Below.refl _ _).alloc (Nat.le_refl _) _
  have h1 := (h.below hbx).mono hbx.size
  have hQ1 := hQ.alloc (.cells #[.slice none 0 0] 23)
  have hO := Dr.One.new (w.alloc (.cells (En.cells ⟨key, vp, st, .slice pf l.length cf, body, asked, came⟩) 25)) 23 (.slice none 0 0)
  have hb2 := hbx.alloc hbx.size (.cells #[.slice none 0 0] 23)
  have h2 := (h.below hb2).mono hb2.size
  have hsz : (w.alloc (.cells (En.cells ⟨key, vp, st, .slice pf l.length cf, body, asked, came⟩) 25)).heap.size = w.heap.size + 1 := by simp
  rw [hsz] at hO
  have c3 : ((w.alloc (.cells (En.cells ⟨key, vp, st, .slice pf l.length cf, body, asked, came⟩) 25)).alloc (.cells #[.slice none 0 0] 23)).cell? ⟨w.heap.size, 3, none⟩ = some (.slice pf l.length cf) := hQ1.cell 3
  have HA := Lib.hid (asksF_eq l)
  have hal := askF_length l etagT ifNoneT
  unfold En.val
  go_enter Tryd.func14, Tryd.ntmps14
  go_wp2_with fail
  refine (ask_any l [] etagT ifNoneT _ _ w.heap.size (w.heap.size + 1) (w.heap.size + 2) _ c3 h2 hl (by decide) hO (World.ownsRow_nil _ _ _ _) (by simp) (by omega) (by omega) (by simp)).mono ?_
  rintro e w3 ⟨rfl, v3, hO3, hown3, hb3, hz3⟩
  have hb03 := hb2.trans (hb3.mono (by omega))
  have h3 := (h.below hb03).mono hb03.size
  have hQ3 := hQ1.below hb3 (by omega)
  have c33 : w3.cell? ⟨w.heap.size, 3, none⟩ = some (.slice pf l.length cf) := hQ3.cell 3
  simp only [World.size_alloc] at hz3
  clear hO hQ hQ1 h2 c3 hb2 hsz h1 hbx
  go_wp2_with fail
  refine (ask_any l ([] ++ askF l etagT ifNoneT) lastT ifSinceT _ v3 w.heap.size (w.heap.size + 1) (w.heap.size + 2) _ c33 h3 hl (by decide) hO3 hown3 (by rw [List.nil_append]; omega) (by omega) (by omega) (by omega)).mono ?_
  rintro e w4 ⟨rfl, v4, hO4, hown4, hb4, hz4⟩
  have cO := hO4.cell
  rw [HA.out] at hown4
  have hb04 := hb03.trans (hb4.mono (by omega))
  clear hO3 hown3
  go_wp2
  go_ret
  exact ⟨_, rfl, own_base hown4 (by omega), hb04⟩

set_option maxRecDepth 100000 in
set_option maxHeartbeats 2000000 in
theorem refAsks_any (q : En) (l : List F) (w : World) (h : Fs w.heap.size w q.vf l) (hl : fsum l ≤ 1099511627776) :
    Calls Tryd.prog 15 #[q.val] w (RetFs 31 w (asksF l)) := by
  obtain ⟨pf, cf, hfv, -⟩ := h.form
  obtain ⟨key, vp, st, vf, body, asked, came⟩ := q
  simp only at hfv h
  subst hfv
  have hQ := Blk.new w 25 (En.cells ⟨key, vp, st, .slice pf l.length cf, body, asked, came⟩)
  have hbx : Below w.heap.size w (w.alloc (.cells (En.cells ⟨key, vp, st, .slice pf l.length cf, body, asked, came⟩) 25)) := (Below.refl _ _).alloc (Nat.le_refl _) _
  have h1 := (h.below hbx).mono hbx.size
  have c3 : (w.alloc (.cells (En.cells ⟨key, vp, st, .slice pf l.length cf, body, asked, came⟩) 25)).cell? ⟨w.heap.size, 3, none⟩ = some (.slice pf l.length cf) := hQ.cell 3
  have HY : Hid (asksF l = (if oneB (values l etagT) then [⟨ifNoneT, oneV (values l etagT), false⟩] else []) ++ (if oneB (values l lastT) then [⟨ifSinceT, oneV (values l lastT), false⟩] else [])) := rfl
  unfold En.val
  go_enter Tryd.func15, Tryd.ntmps15
  go_wp2_with fail
  refine (refOne_any l etagT _ _ h1 hl (by decide)).mono ?_
  rintro e w2 ⟨rfl, hb2⟩
  have hw2 := Bl.tr hbx hb2
  have h2 := (h1.below hb2).mono hb2.size
  have hQ2 := hQ.on hb2
  have hz2 := hb2.size
  simp only [World.size_alloc] at hz2
  have c32 : w2.cell? ⟨w.heap.size, 3, none⟩ = some (.slice pf l.length cf) := hQ2.cell 3
  clear hQ hbx h1 c3 hb2
  generalize oneV (values l etagT) = x1 at *
  generalize oneB (values l etagT) = b1 at *
  cases b1 with
  | true =>
    go_wp2_with (first
      | (at_builtin; refine wpList_appF rfl _ _ 23 rfl (w.heap.size + 1) Tryd.underlying23 (by kernel_rfl) _ _ _ rfl (World.ownsRow_nil _ _ _ _) rfl (by omega) hz2 rfl ?_; intro a3 c3' w3 hown3 hb3 hz3; have hw3 := hw2.trans (hb3.mono (by omega)); have h3 := (h.below hw3).mono hw3.size; have hQ3 := hQ2.below hb3 (by omega); have c33 : w3.cell? ⟨w.heap.size, 3, none⟩ = some (.slice pf l.length cf) := hQ3.cell 3)
      | fail)
    refine (refOne_any l lastT _ _ h3 hl (by decide)).mono ?_
    rintro e w4 ⟨rfl, hb4⟩
    have hw4 := Bl.tr hw3 hb4
    have hown4 := own_below hown3 hb4
    have hz4 := hb4.size
    clear h3 h2 hQ2 hQ3 c32 c33 hw3 hw2 hb4
    simp only [Nat.zero_add, List.nil_append] at hown4
    generalize oneV (values l lastT) = x2 at *
    generalize oneB (values l lastT) = b2 at *
    cases b2 with
    | true =>
      go_wp2_with (at_builtin; refine wpList_appF rfl _ _ 23 rfl (w.heap.size + 1) Tryd.underlying23 (by kernel_rfl) _ _ _ rfl hown4 rfl (by omega) (by omega) rfl ?_; intro a5 c5 w5 hown5 hb5 hz5)
      go_ret
      exact ⟨_, rfl, by rw [HY.out]; exact own_base hown5 (by omega), hw4.trans (hb5.mono (by omega))⟩
    | false =>
      go_wp2
      go_ret
      exact ⟨_, rfl, by rw [HY.out]; exact own_base hown4 (by omega), hw4⟩
  | false =>
    go_wp2_with fail
    refine (refOne_any l lastT _ _ h2 hl (by decide)).mono ?_
    rintro e w4 ⟨rfl, hb4⟩
    have hw4 := Bl.tr hw2 hb4
    have hz4 := hb4.size
    clear h2 hQ2 c32 hw2 hb4
    generalize oneV (values l lastT) = x2 at *
    generalize oneB (values l lastT) = b2 at *
    cases b2 with
    | true =>
      go_wp2_with (at_builtin; refine wpList_appF rfl _ _ 23 rfl (w.heap.size + 1) Tryd.underlying23 (by kernel_rfl) _ _ _ rfl (World.ownsRow_nil _ _ _ _) rfl (by omega) (by omega) rfl ?_; intro a5 c5 w5 hown5 hb5 hz5)
      go_ret
      exact ⟨_, rfl, by rw [HY.out]; exact own_base hown5 (by omega), hw4.trans (hb5.mono (by omega))⟩
    | false =>
      go_wp2
      go_ret
      exact ⟨_, rfl, by rw [HY.out]; exact World.ownsRow_nil _ _ _ _, hw4⟩
end Go.Proofs.YtpbmmkonlboegaaDoor
