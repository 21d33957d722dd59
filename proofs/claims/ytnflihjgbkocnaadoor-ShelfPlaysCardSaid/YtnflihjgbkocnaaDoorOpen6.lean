
/- Arguments opened by their types: scripts for a shelf that came in. No program in sight. -/
import Derived.Test.YtnflihjgbkocnaaDoorOpen5
import Derived.Test.YtnflihjgbkocnaaDoorShd
namespace Go.Dr
open Go.RowKit Go.ChangeShapes Go.WideShapes Go.Deep Go.Joins
open Go.ChangeMaps (open_string)

instance : Inhabited Dv := ⟨⟨0, 0, ⟨[], .slice none 0 0, 0, .slice none 0 0, [], 0, 0⟩, .slice none 0 0, [], [], []⟩⟩
/-- What is known of a step's numbers. -/
def Dv.Num (d : Dv) : Prop := I64 d.kind ∧ I64 d.num ∧ d.q.Ok

section
variable {H : Type} {enc : TypeId × Value → H} {P : Program} {w : World} {base : Nat} {spare : Nat → Bool} {held : Bool}

set_option linter.unusedSimpArgs false in
set_option linter.unnecessarySimpa false in
set_option linter.unusedVariables false in
theorem el_Do {td t tp tf ep ef es eb ti tl : TypeId} {g0 g1 g2 g3 : Field} {f0 f1 f2 f3 f4 f5 f6 : Field} (hds : P.underlying td = some (.struct #[g0, g1, g2, g3])) (hdC : P.cellsOf td = 10)
    (hdt : g0.type = ti ∧ g1.type = ti ∧ g2.type = t ∧ g3.type = tf) (hdo : g0.offset = 0 ∧ g1.offset = 1 ∧ g2.offset = 2 ∧ g3.offset = 9) (hci : P.cellsOf ti = 1) (hcf : P.cellsOf tf = 1)
    (hs : P.underlying t = some (.struct #[f0, f1, f2, f3, f4, f5, f6])) (hone : oneCellFields P #[f0, f1, f2, f3, f4, f5, f6] = true) (hC : P.cellsOf t = 7)
    (ht : f0.type = es ∧ f1.type = tp ∧ f2.type = ti ∧ f3.type = tf ∧ f4.type = es ∧ f5.type = tl ∧ f6.type = tl) (TP : FT P tp ep es eb) (TF : FT P tf ef es eb) (hi : P.underlying ti = some (.int .i64)) (hl : P.underlying tl = some (.int .i64))
    {n : Nat} {cs' : List Value} {y : DataW H × List MemPlace} (hf : DataW.trod enc P w base spare held n td cs' = some y) (hw : (y.1.weights P td).all (· ≤ reachBytes) = true) :
    ∃ d : Dv, cs' = d.cells ∧ (d.Num ∧ d.Ok) ∧ Fs w.heap.size w d.q.vp d.lp ∧ Fs w.heap.size w d.q.vf d.lf ∧ Fs w.heap.size w d.vl d.ll := by
  obtain ⟨xs, n, _, hx, hln, hlen, hg⟩ := DataW.trod_struct hds hf
  rw [hdC] at hln
  match cs', hln with
  | [c0, c1, c2, c3, c4, c5, c6, c7, c8, c9], _ =>
    match xs, hlen with
    | [y0, y1, y2, y3], _ =>
      subst hx
      obtain ⟨ht0, ht1, ht2, ht3⟩ := hdt
      obtain ⟨ho0, ho1, ho2, ho3⟩ := hdo
      have t0 := hg 0 g0 rfl
      rw [ht0, ho0, hci] at t0
      have t1 := hg 1 g1 rfl
      rw [ht1, ho1, hci] at t1
      have t2 := hg 2 g2 rfl
      rw [ht2, ho2, hC] at t2
      have t3 := hg 3 g3 rfl
      rw [ht3, ho3, hcf] at t3
      simp only [DataW.weights, hds, DataW.weightsEach, List.map_cons, List.map_nil, List.all_append, Bool.and_eq_true, ht0, ht1, ht2, ht3] at hw
      obtain ⟨w0, w1, w2, w3, -⟩ := hw
      obtain ⟨i0, e0, b0⟩ := el_int hi t0
      obtain ⟨i1, e1, b1⟩ := el_int hi t1
      obtain ⟨x, e2, hxo, hxp, hxf⟩ := el_E hs hone hC ht TP TF hi hl t2 w2
      obtain ⟨vl, ll, e3, h3, b3⟩ := el_Fs TF t3 w3
      simp only [List.drop_succ_cons, List.drop_zero, List.take_succ_cons, List.take_zero, Ex.cells, List.cons.injEq, and_true] at e0 e1 e2 e3
      obtain ⟨rfl, rfl, rfl, rfl, rfl, rfl, rfl⟩ := e2
      subst e0 e1 e3
      obtain ⟨⟨k1, k2, k3, k4, k5⟩, kp, kf⟩ := hxo
      refine ⟨⟨i0, i1, x.q, c9, x.lp, x.lf, ll⟩, rfl, ⟨⟨wf_int b0, wf_int b1, ⟨k1, k2, k3, k4, k5⟩⟩, ?_⟩, hxp, hxf, h3⟩
      have hF : ∀ {l : List F}, FOk l → ∀ f ∈ l, f.n.length ≤ 140737488355328 ∧ f.v.length ≤ 140737488355328 := fun h f hf => by
        have := h.1 f hf
        omega
      exact ⟨by show x.q.key.length ≤ _; omega, by show x.q.body.length ≤ _; omega, hF kp, hF kf, hF b3⟩

set_option linter.unusedSimpArgs false in
set_option linter.unusedVariables false in
set_option linter.unnecessarySimpa false in
/-- A script. -/
theorem open_Ds {r : Reach} {b0 : Nat} {tt td t tp tf ep ef es eb ti tl : TypeId} {g0 g1 g2 g3 : Field} {f0 f1 f2 f3 f4 f5 f6 : Field} {v : Value} {d : DataW H} {ps : List MemPlace} (htt : P.underlying tt = some (.slice td)) (hds : P.underlying td = some (.struct #[g0, g1, g2, g3])) (hdC : P.cellsOf td = 10)
    (hdt : g0.type = ti ∧ g1.type = ti ∧ g2.type = t ∧ g3.type = tf) (hdo : g0.offset = 0 ∧ g1.offset = 1 ∧ g2.offset = 2 ∧ g3.offset = 9) (hci : P.cellsOf ti = 1) (hcf : P.cellsOf tf = 1)
    (hs : P.underlying t = some (.struct #[f0, f1, f2, f3, f4, f5, f6])) (hone : oneCellFields P #[f0, f1, f2, f3, f4, f5, f6] = true) (hC : P.cellsOf t = 7)
    (ht : f0.type = es ∧ f1.type = tp ∧ f2.type = ti ∧ f3.type = tf ∧ f4.type = es ∧ f5.type = tl ∧ f6.type = tl) (TP : FT P tp ep es eb) (TF : FT P tf ef es eb) (hi : P.underlying ti = some (.int .i64)) (hl : P.underlying tl = some (.int .i64))
    (hval : Value.okWide P w r b0 tt v) (hd : DataW.Trod enc P w base spare held tt v d ps) (hw : (d.weights P tt).all (· ≤ reachBytes) = true) :
    ∃ l : List Dv, Ds w.heap.size w v l ∧ (∀ x ∈ l, x.Num) ∧ (∀ x ∈ l, x.Ok) := by
  obtain ⟨a, len, cap, rfl⟩ := okWide_slice htt hval
  obtain ⟨fuel, hf⟩ := hd
  obtain ⟨v, l, hv, g1, g2, g3⟩ := open_seq (α := Dv) (hs0 := by decide) 10 Dv.cells (fun d => (d.Num ∧ d.Ok) ∧ Fs w.heap.size w d.q.vp d.lp ∧ Fs w.heap.size w d.q.vf d.lf ∧ Fs w.heap.size w d.vl d.ll) hdC (fun _ => rfl) (fun n cs' y hy hwy => el_Do hds hdC hdt hdo hci hcf hs hone hC ht TP TF hi hl hy hwy) htt hf hw
  simp only [Value.cells, List.cons.injEq, and_true] at hv
  subst hv
  exact ⟨l, ⟨g1, fun x hx => (g2 x hx).2⟩, fun x hx => (g2 x hx).1.1, fun x hx => (g2 x hx).1.2⟩
end
end Go.Dr
