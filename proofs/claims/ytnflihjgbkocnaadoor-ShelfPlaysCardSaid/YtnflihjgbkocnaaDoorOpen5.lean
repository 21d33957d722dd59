
/- Arguments opened by their types: lists of entries that came in. No program in sight. -/
import Derived.Test.YtnflihjgbkocnaaDoorOpen
namespace Go.Dr
open Go.RowKit Go.ChangeShapes Go.WideShapes Go.Deep Go.Joins
open Go.ChangeMaps (open_string)

/-- An entry of a list that came in: its cells, its two lists. -/
structure Ex where
  q : En
  lp : List F
  lf : List F
instance : Inhabited Ex := ⟨⟨⟨[], .slice none 0 0, 0, .slice none 0 0, [], 0, 0⟩, [], []⟩⟩
def Ex.cells (x : Ex) : List Value := [S x.q.key, x.q.vp, .int .i64 x.q.st, x.q.vf, S x.q.body, .int .i64 x.q.asked, .int .i64 x.q.came]
def xcells (l : List Ex) : List Value := l.flatMap Ex.cells
/-- A list of entries that is read. -/
def Xs (B : Nat) (w : World) (v : Value) (l : List Ex) : Prop := Rd B w 7 v l.length (xcells l) ∧ ∀ x ∈ l, Fs B w x.q.vp x.lp ∧ Fs B w x.q.vf x.lf
def Ex.Ok (x : Ex) : Prop := x.q.Ok ∧ FOk x.lp ∧ FOk x.lf
set_option linter.unusedSimpArgs false in
set_option linter.unusedVariables false in
set_option linter.unnecessarySimpa false in
theorem Xs.below {B : Nat} {w w' : World} {v : Value} {l : List Ex} (h : Xs B w v l) (hb : Below B w w') : Xs B w' v l := ⟨h.1.below hb, fun x hx => ⟨(h.2 x hx).1.below hb, (h.2 x hx).2.below hb⟩⟩
set_option linter.unusedSimpArgs false in
set_option linter.unusedVariables false in
set_option linter.unnecessarySimpa false in
theorem Xs.form {B : Nat} {w : World} {v : Value} {l : List Ex} (h : Xs B w v l) : ∃ a cap, v = .slice a l.length cap ∧ l.length ≤ 9223372036854775807 := by
  obtain ⟨⟨a, cap, h1, h2, h3, _⟩, _⟩ := h
  exact ⟨a, cap, h1, by unfold maxLen at h3; omega⟩
set_option linter.unusedSimpArgs false in
set_option linter.unusedVariables false in
set_option linter.unnecessarySimpa false in
theorem Xs.at {B : Nat} {w : World} {a : Option Addr} {n cap : Nat} {l : List Ex} (h : Xs B w (.slice a n cap) l) (k : Nat) (hk : k < l.length) :
    ∃ b off, a = some ⟨b, off, none⟩ ∧ b < B ∧ w.cell? ⟨b, off + k * 7, none⟩ = some (S l[k].q.key) ∧ w.cell? ⟨b, off + k * 7 + 1, none⟩ = some l[k].q.vp ∧ w.cell? ⟨b, off + k * 7 + 2, none⟩ = some (.int .i64 l[k].q.st) ∧ w.cell? ⟨b, off + k * 7 + 3, none⟩ = some l[k].q.vf ∧ w.cell? ⟨b, off + k * 7 + 4, none⟩ = some (S l[k].q.body) ∧ w.cell? ⟨b, off + k * 7 + 5, none⟩ = some (.int .i64 l[k].q.asked) ∧ w.cell? ⟨b, off + k * 7 + 6, none⟩ = some (.int .i64 l[k].q.came) := by
  obtain ⟨⟨a', cap', h1, h2, h3, h4, h5, h6⟩, _⟩ := h
  simp only [Value.slice.injEq] at h1
  obtain ⟨rfl, rfl, rfl⟩ := h1
  have hg : ∀ j, j < 7 → (xcells l)[k * 7 + j]? = (l[k].cells)[j]? := fun j hj => flat_get Ex.cells 7 (fun _ => rfl) l k hk j hj
  obtain ⟨b, off, rfl, hb, c0⟩ := h6 (k * 7 + 0) _ (by rw [hg 0 (by omega)]; rfl)
  have hc : ∀ (j : Nat) (u : Value), j < 7 → (l[k].cells)[j]? = some u → w.cell? ⟨b, off + (k * 7 + j), none⟩ = some u := fun j u hj hu => by
    obtain ⟨b1, off1, e1, _, c1⟩ := h6 (k * 7 + j) u (by rw [hg j hj]; exact hu)
    simp only [Option.some.injEq, Addr.mk.injEq, and_true] at e1
    obtain ⟨rfl, rfl⟩ := e1
    exact c1
  refine ⟨b, off, rfl, hb, c0, ?_, ?_, ?_, ?_, ?_, ?_⟩
  · rw [Nat.add_assoc]; exact hc 1 _ (by omega) rfl
  · rw [Nat.add_assoc]; exact hc 2 _ (by omega) rfl
  · rw [Nat.add_assoc]; exact hc 3 _ (by omega) rfl
  · rw [Nat.add_assoc]; exact hc 4 _ (by omega) rfl
  · rw [Nat.add_assoc]; exact hc 5 _ (by omega) rfl
  · rw [Nat.add_assoc]; exact hc 6 _ (by omega) rfl

section
variable {H : Type} {enc : TypeId × Value → H} {P : Program} {w : World} {base : Nat} {spare : Nat → Bool} {held : Bool}

set_option linter.unusedSimpArgs false in
set_option linter.unnecessarySimpa false in
set_option linter.unusedVariables false in
theorem el_E {t tp tf ep ef es eb ti tl : TypeId} {f0 f1 f2 f3 f4 f5 f6 : Field} (hs : P.underlying t = some (.struct #[f0, f1, f2, f3, f4, f5, f6])) (hone : oneCellFields P #[f0, f1, f2, f3, f4, f5, f6] = true) (hC : P.cellsOf t = 7)
    (ht : f0.type = es ∧ f1.type = tp ∧ f2.type = ti ∧ f3.type = tf ∧ f4.type = es ∧ f5.type = tl ∧ f6.type = tl) (TP : FT P tp ep es eb) (TF : FT P tf ef es eb) (hi : P.underlying ti = some (.int .i64)) (hl : P.underlying tl = some (.int .i64))
    {n : Nat} {cs' : List Value} {y : DataW H × List MemPlace} (hf : DataW.trod enc P w base spare held n t cs' = some y) (hw : (y.1.weights P t).all (· ≤ reachBytes) = true) :
    ∃ x : Ex, cs' = x.cells ∧ x.Ok ∧ Fs w.heap.size w x.q.vp x.lp ∧ Fs w.heap.size w x.q.vf x.lf := by
  obtain ⟨xs, n, _, hx, hln, hlen, hg⟩ := DataW.trod_struct hs hf
  rw [hC] at hln
  match cs', hln with
  | [c0, c1, c2, c3, c4, c5, c6], _ =>
    obtain ⟨o0, k0⟩ := hone_of hone 0 f0 rfl
    obtain ⟨o1, k1⟩ := hone_of hone 1 f1 rfl
    obtain ⟨o2, k2⟩ := hone_of hone 2 f2 rfl
    obtain ⟨o3, k3⟩ := hone_of hone 3 f3 rfl
    obtain ⟨o4, k4⟩ := hone_of hone 4 f4 rfl
    obtain ⟨o5, k5⟩ := hone_of hone 5 f5 rfl
    obtain ⟨o6, k6⟩ := hone_of hone 6 f6 rfl
    match xs, hlen with
    | [y0, y1, y2, y3, y4, y5, y6], _ =>
      subst hx
      obtain ⟨ht0, ht1, ht2, ht3, ht4, ht5, ht6⟩ := ht
      have t0 := by simpa [o0, k0] using hg 0 f0 rfl
      rw [ht0] at t0
      have t1 := by simpa [o1, k1] using hg 1 f1 rfl
      rw [ht1] at t1
      have t2 := by simpa [o2, k2] using hg 2 f2 rfl
      rw [ht2] at t2
      have t3 := by simpa [o3, k3] using hg 3 f3 rfl
      rw [ht3] at t3
      have t4 := by simpa [o4, k4] using hg 4 f4 rfl
      rw [ht4] at t4
      have t5 := by simpa [o5, k5] using hg 5 f5 rfl
      rw [ht5] at t5
      have t6 := by simpa [o6, k6] using hg 6 f6 rfl
      rw [ht6] at t6
      simp only [DataW.weights, hs, DataW.weightsEach, List.map_cons, List.map_nil, List.all_append, Bool.and_eq_true, ht0, ht1, ht2, ht3, ht4, ht5, ht6] at hw
      obtain ⟨w0, w1, w2, w3, w4, w5, w6, -⟩ := hw
      obtain ⟨s0, e0, b0⟩ := el_S TF.hs _ _ y0 t0 w0
      obtain ⟨vp, lp, e1, h1, b1⟩ := el_Fs TP t1 w1
      obtain ⟨i2, e2, b2⟩ := el_int hi t2
      obtain ⟨vf, lf, e3, h3, b3⟩ := el_Fs TF t3 w3
      obtain ⟨s4, e4, b4⟩ := el_S TF.hs _ _ y4 t4 w4
      obtain ⟨i5, e5, b5⟩ := el_int hl t5
      obtain ⟨i6, e6, b6⟩ := el_int hl t6
      simp only [List.cons.injEq, and_true] at e0 e1 e2 e3 e4 e5 e6
      subst e0 e1 e2 e3 e4 e5 e6
      exact ⟨⟨⟨s0, c1, i2, c3, s4, i5, i6⟩, lp, lf⟩, rfl, ⟨⟨b0, wf_int b2, b4, wf_int b5, wf_int b6⟩, b1, b3⟩, h1, h3⟩

set_option linter.unusedSimpArgs false in
set_option linter.unusedVariables false in
set_option linter.unnecessarySimpa false in
/-- A list of entries. -/
theorem open_Es {r : Reach} {b0 : Nat} {tt t tp tf ep ef es eb ti tl : TypeId} {f0 f1 f2 f3 f4 f5 f6 : Field} {v : Value} {d : DataW H} {ps : List MemPlace} (htt : P.underlying tt = some (.slice t)) (hs : P.underlying t = some (.struct #[f0, f1, f2, f3, f4, f5, f6])) (hone : oneCellFields P #[f0, f1, f2, f3, f4, f5, f6] = true) (hC : P.cellsOf t = 7) (hB : P.bytesOf t = 104)
    (ht : f0.type = es ∧ f1.type = tp ∧ f2.type = ti ∧ f3.type = tf ∧ f4.type = es ∧ f5.type = tl ∧ f6.type = tl) (TP : FT P tp ep es eb) (TF : FT P tf ef es eb) (hi : P.underlying ti = some (.int .i64)) (hl : P.underlying tl = some (.int .i64))
    (hval : Value.okWide P w r b0 tt v) (hd : DataW.Trod enc P w base spare held tt v d ps) (hw : (d.weights P tt).all (· ≤ reachBytes) = true) :
    ∃ l : List Ex, Xs w.heap.size w v l ∧ (∀ x ∈ l, x.Ok) ∧ l.length * 104 ≤ 140737488351232 := by
  obtain ⟨a, len, cap, rfl⟩ := okWide_slice htt hval
  obtain ⟨fuel, hf⟩ := hd
  obtain ⟨v, l, hv, g1, g2, g3⟩ := open_seq (α := Ex) (hs0 := by decide) 7 Ex.cells (fun x => x.Ok ∧ Fs w.heap.size w x.q.vp x.lp ∧ Fs w.heap.size w x.q.vf x.lf) hC (fun _ => rfl) (fun n cs' y hy hwy => el_E hs hone hC ht TP TF hi hl hy hwy) htt hf hw
  simp only [Value.cells, List.cons.injEq, and_true] at hv
  subst hv
  rw [hB] at g3
  exact ⟨l, ⟨g1, fun x hx => (g2 x hx).2⟩, fun x hx => (g2 x hx).1, g3⟩
end
end Go.Dr
