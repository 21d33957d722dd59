
/- Arguments opened by their types, second part: structs that hold lists. No program in sight. -/
import Derived.Test.YtpbmmkonlboegaaDoorOpen
import Derived.Lib.SmallJoins
namespace Go.Dr
open Go.RowKit Go.ChangeShapes Go.WideShapes Go.Deep Go.Joins
open Go.ChangeMaps (open_string)

section
variable {H : Type} {enc : TypeId × Value → H} {P : Program} {w : World} {base : Nat} {spare : Nat → Bool} {held : Bool}

/-- The types of a list of fields, known. -/
structure FT (P : Program) (t e es eb : TypeId) : Prop where
  ht : P.underlying t = some (.slice e)
  he : ∃ f0 f1 f2 : Field, P.underlying e = some (.struct #[f0, f1, f2]) ∧ (f0.type = es ∧ f0.offset = 0) ∧ (f1.type = es ∧ f1.offset = 1) ∧ (f2.type = eb ∧ f2.offset = 2)
  hs : P.underlying es = some .string
  hb : P.underlying eb = some .bool
  hC : P.cellsOf e = 3
  hCs : P.cellsOf es = 1
  hCb : P.cellsOf eb = 1
  hB : P.bytesOf e = 40

/-- What is known of a list of fields that came in. -/
def FOk (l : List F) : Prop := (∀ f ∈ l, f.n.length ≤ 140737488351232 ∧ f.v.length ≤ 140737488351232) ∧ l.length * 40 ≤ 140737488351232

theorem el_Fs {t e es eb : TypeId} (T : FT P t e es eb) {n : Nat} {cs' : List Value} {y : DataW H × List MemPlace} (hf : DataW.trod enc P w base spare held n t cs' = some y) (hw : (y.1.weights P t).all (· ≤ reachBytes) = true) :
    ∃ (v : Value) (l : List F), cs' = [v] ∧ Fs w.heap.size w v l ∧ FOk l := by
  obtain ⟨ht, ⟨f0, f1, f2, he, h0, h1, h2⟩, hs, hb, hC, hCs, hCb, hB⟩ := T
  obtain ⟨v, l, hv, g1, g2, g3⟩ := open_seq (α := F) (hs0 := by decide) 3 F.cells (fun f => f.n.length ≤ 140737488351232 ∧ f.v.length ≤ 140737488351232) hC (fun _ => rfl) (fun n cs' y hy hwy => by
    obtain ⟨y0, y1, y2, n', rfl, hl, t0, t1, t2⟩ := trod_struct3 he hy
    simp only [DataW.weights, he, DataW.weightsEach, List.map_cons, List.map_nil, List.all_append, Bool.and_eq_true, h0.1, h1.1, h2.1] at hwy
    rw [h0.1, h0.2, hCs] at t0
    rw [h1.1, h1.2, hCs] at t1
    rw [h2.1, h2.2, hCb] at t2
    rw [hC] at hl
    match cs', hl with
    | [c0, c1, c2], _ =>
      obtain ⟨s0, e0, b0⟩ := el_S hs n' _ y0 t0 hwy.1
      obtain ⟨s1, e1, b1⟩ := el_S hs n' _ y1 t1 hwy.2.1
      obtain ⟨m, e2, _⟩ := DataW.trod_bool hb t2
      simp at e0 e1 e2
      subst e0 e1 e2
      exact ⟨⟨s0, s1, m⟩, rfl, b0, b1⟩) ht hf hw
  rw [hB] at g3
  exact ⟨v, l, hv, g1, g2, g3⟩

theorem el_int {t : TypeId} {q : IntKind} (ht : P.underlying t = some (.int q)) {n : Nat} {cs' : List Value} {y : DataW H × List MemPlace} (h : DataW.trod enc P w base spare held n t cs' = some y) :
    ∃ i : Int, cs' = [.int q i] ∧ (Lit.int q i).wf = true := by
  obtain ⟨i, h1, _, h2⟩ := DataW.trod_int ht h
  exact ⟨i, h1, h2⟩

/-- A request. -/
structure Rq where
  m : Bytes
  s : Bytes
  a : Bytes
  p : Bytes
  v : Value
def Rq.val (r : Rq) : Value := .agg #[S r.m, S r.s, S r.a, S r.p, r.v]
def Rq.Ok (r : Rq) : Prop := r.m.length ≤ 140737488351232 ∧ r.s.length ≤ 140737488351232 ∧ r.a.length ≤ 140737488351232 ∧ r.p.length ≤ 140737488351232

theorem open_R {r : Reach} {b0 : Nat} {t tf e es eb : TypeId} {f0 f1 f2 f3 f4 : Field} {v : Value} {d : DataW H} {ps : List MemPlace} (hs : P.underlying t = some (.struct #[f0, f1, f2, f3, f4])) (hone : oneCellFields P #[f0, f1, f2, f3, f4] = true) (hC : P.cellsOf t = 5)
    (ht : f0.type = es ∧ f1.type = es ∧ f2.type = es ∧ f3.type = es ∧ f4.type = tf) (T : FT P tf e es eb)
    (hval : Value.okWide P w r b0 t v) (hd : DataW.Trod enc P w base spare held t v d ps) (hw : (d.weights P t).all (· ≤ reachBytes) = true) :
    ∃ (q : Rq) (l : List F), v = q.val ∧ q.Ok ∧ Fs w.heap.size w q.v l ∧ FOk l := by
  obtain ⟨cs, rfl, hsz⟩ := okWide_struct hs hval
  obtain ⟨cl⟩ := cs
  match cl, hsz.trans hC with
  | [c0, c1, c2, c3, c4], _ =>
    obtain ⟨fuel, hf⟩ := hd
    obtain ⟨xs, n, _, hx, _, hlen, hg⟩ := DataW.trod_struct hs hf
    obtain ⟨o0, k0⟩ := hone_of hone 0 f0 rfl
    obtain ⟨o1, k1⟩ := hone_of hone 1 f1 rfl
    obtain ⟨o2, k2⟩ := hone_of hone 2 f2 rfl
    obtain ⟨o3, k3⟩ := hone_of hone 3 f3 rfl
    obtain ⟨o4, k4⟩ := hone_of hone 4 f4 rfl
    match xs, hlen with
    | [y0, y1, y2, y3, y4], _ =>
      simp only [Prod.mk.injEq] at hx
      obtain ⟨rfl, -⟩ := hx
      have t0 := by simpa [Value.cells, o0, k0] using hg 0 f0 rfl
      rw [ht.1] at t0
      have t1 := by simpa [Value.cells, o1, k1] using hg 1 f1 rfl
      rw [ht.2.1] at t1
      have t2 := by simpa [Value.cells, o2, k2] using hg 2 f2 rfl
      rw [ht.2.2.1] at t2
      have t3 := by simpa [Value.cells, o3, k3] using hg 3 f3 rfl
      rw [ht.2.2.2.1] at t3
      have t4 := by simpa [Value.cells, o4, k4] using hg 4 f4 rfl
      rw [ht.2.2.2.2] at t4
      simp only [DataW.weights, hs, DataW.weightsEach, List.map_cons, List.map_nil, List.all_append, Bool.and_eq_true, ht.1, ht.2.1, ht.2.2.1, ht.2.2.2.1, ht.2.2.2.2] at hw
      obtain ⟨w0, w1, w2, w3, w4, -⟩ := hw
      obtain ⟨s0, e0, b0⟩ := el_S T.hs _ _ y0 t0 w0
      obtain ⟨s1, e1, b1⟩ := el_S T.hs _ _ y1 t1 w1
      obtain ⟨s2, e2, b2⟩ := el_S T.hs _ _ y2 t2 w2
      obtain ⟨s3, e3, b3⟩ := el_S T.hs _ _ y3 t3 w3
      obtain ⟨vf, l, e4, h4, b4⟩ := el_Fs T t4 w4
      simp only [List.cons.injEq, and_true] at e0 e1 e2 e3 e4
      subst e0 e1 e2 e3 e4
      exact ⟨⟨s0, s1, s2, s3, c4⟩, l, rfl, ⟨b0, b1, b2, b3⟩, h4, b4⟩

/-- An answer that is kept. -/
structure En where
  key : Bytes
  vp : Value
  st : Int
  vf : Value
  body : Bytes
  asked : Int
  came : Int
def En.val (e : En) : Value := .agg #[S e.key, e.vp, .int .i64 e.st, e.vf, S e.body, .int .i64 e.asked, .int .i64 e.came]
def I64 (n : Int) : Prop := -9223372036854775808 ≤ n ∧ n ≤ 9223372036854775807
def En.Ok (e : En) : Prop := e.key.length ≤ 140737488351232 ∧ I64 e.st ∧ e.body.length ≤ 140737488351232 ∧ I64 e.asked ∧ I64 e.came

theorem open_E {r : Reach} {b0 : Nat} {t tp tf ep ef es eb ti tl : TypeId} {f0 f1 f2 f3 f4 f5 f6 : Field} {v : Value} {d : DataW H} {ps : List MemPlace} (hs : P.underlying t = some (.struct #[f0, f1, f2, f3, f4, f5, f6])) (hone : oneCellFields P #[f0, f1, f2, f3, f4, f5, f6] = true) (hC : P.cellsOf t = 7)
    (ht : f0.type = es ∧ f1.type = tp ∧ f2.type = ti ∧ f3.type = tf ∧ f4.type = es ∧ f5.type = tl ∧ f6.type = tl) (TP : FT P tp ep es eb) (TF : FT P tf ef es eb) (hi : P.underlying ti = some (.int .i64)) (hl : P.underlying tl = some (.int .i64))
    (hval : Value.okWide P w r b0 t v) (hd : DataW.Trod enc P w base spare held t v d ps) (hw : (d.weights P t).all (· ≤ reachBytes) = true) :
    ∃ (q : En) (lp lf : List F), v = q.val ∧ q.Ok ∧ Fs w.heap.size w q.vp lp ∧ FOk lp ∧ Fs w.heap.size w q.vf lf ∧ FOk lf := by
  obtain ⟨cs, rfl, hsz⟩ := okWide_struct hs hval
  obtain ⟨cl⟩ := cs
  match cl, hsz.trans hC with
  | [c0, c1, c2, c3, c4, c5, c6], _ =>
    obtain ⟨fuel, hf⟩ := hd
    obtain ⟨xs, n, _, hx, _, hlen, hg⟩ := DataW.trod_struct hs hf
    obtain ⟨o0, k0⟩ := hone_of hone 0 f0 rfl
    obtain ⟨o1, k1⟩ := hone_of hone 1 f1 rfl
    obtain ⟨o2, k2⟩ := hone_of hone 2 f2 rfl
    obtain ⟨o3, k3⟩ := hone_of hone 3 f3 rfl
    obtain ⟨o4, k4⟩ := hone_of hone 4 f4 rfl
    obtain ⟨o5, k5⟩ := hone_of hone 5 f5 rfl
    obtain ⟨o6, k6⟩ := hone_of hone 6 f6 rfl
    match xs, hlen with
    | [y0, y1, y2, y3, y4, y5, y6], _ =>
      simp only [Prod.mk.injEq] at hx
      obtain ⟨rfl, -⟩ := hx
      obtain ⟨ht0, ht1, ht2, ht3, ht4, ht5, ht6⟩ := ht
      have t0 := by simpa [Value.cells, o0, k0] using hg 0 f0 rfl
      rw [ht0] at t0
      have t1 := by simpa [Value.cells, o1, k1] using hg 1 f1 rfl
      rw [ht1] at t1
      have t2 := by simpa [Value.cells, o2, k2] using hg 2 f2 rfl
      rw [ht2] at t2
      have t3 := by simpa [Value.cells, o3, k3] using hg 3 f3 rfl
      rw [ht3] at t3
      have t4 := by simpa [Value.cells, o4, k4] using hg 4 f4 rfl
      rw [ht4] at t4
      have t5 := by simpa [Value.cells, o5, k5] using hg 5 f5 rfl
      rw [ht5] at t5
      have t6 := by simpa [Value.cells, o6, k6] using hg 6 f6 rfl
      rw [ht6] at t6
      simp only [DataW.weights, hs, DataW.weightsEach, List.map_cons, List.map_nil, List.all_append, Bool.and_eq_true, ht0, ht1, ht2, ht3, ht4, ht5, ht6] at hw
      obtain ⟨w0, w1, w2, w3, w4, w5, w6, -⟩ := hw
      obtain ⟨s0, e0, b0⟩ := el_S TF.hs _ _ y0 t0 w0
      obtain ⟨vp, lp, e1, h1, b1⟩ := el_Fs TP t1 w1
      obtain ⟨i2, e2, b2⟩ := el_int hi t2
      obtain ⟨vf, lf, e3, h3, b3⟩ := el_Fs TF t3 w3
      obtain ⟨s4, e4, b4⟩ := el_S TF.hs _ _ y4 t4 w4
      obtain ⟨i5, e5, b5⟩ := el_int hl t5
      obtain ⟨i6, e6, b6⟩ := el_int hl t6
      simp only [List.cons.injEq, and_true] at e0 e1 e2 e3 e4 e5 e6
      subst e0 e1 e2 e3 e4 e5 e6
      exact ⟨⟨s0, c1, i2, c3, s4, i5, i6⟩, lp, lf, rfl, ⟨b0, wf_int b2, b4, wf_int b5, wf_int b6⟩, h1, b1, h3, b3⟩

theorem open_P {r : Reach} {b0 : Nat} {t e es eb : TypeId} {v : Value} {d : DataW H} {ps : List MemPlace} (T : FT P t e es eb)
    (hval : Value.okWide P w r b0 t v) (hd : DataW.Trod enc P w base spare held t v d ps) (hw : (d.weights P t).all (· ≤ reachBytes) = true) : ∃ l : List F, Fs w.heap.size w v l ∧ FOk l := by
  obtain ⟨a, len, cap, rfl⟩ := okWide_slice T.ht hval
  obtain ⟨fuel, hf⟩ := hd
  obtain ⟨v, l, hv, h1, h2⟩ := el_Fs T hf hw
  simp only [Value.cells, List.cons.injEq, and_true] at hv
  subst hv
  exact ⟨l, h1, h2⟩

theorem open_B {r : Reach} {b0 : Nat} {t : TypeId} {v : Value} {d : DataW H} {ps : List MemPlace} (ht : P.underlying t = some .bool) (hval : Value.okWide P w r b0 t v) (hd : DataW.Trod enc P w base spare held t v d ps) : ∃ b : Bool, v = .bool b := by
  obtain ⟨b, rfl, -⟩ := open_bool ht hval hd
  exact ⟨b, rfl⟩

theorem open_G {r : Reach} {b0 : Nat} {t es eb : TypeId} {f0 f1 f2 : Field} {v : Value} {d : DataW H} {ps : List MemPlace} (hs : P.underlying t = some (.struct #[f0, f1, f2])) (hone : oneCellFields P #[f0, f1, f2] = true) (hC : P.cellsOf t = 3)
    (ht : f0.type = es ∧ f1.type = es ∧ f2.type = eb) (hes : P.underlying es = some .string) (heb : P.underlying eb = some .bool)
    (hval : Value.okWide P w r b0 t v) (hd : DataW.Trod enc P w base spare held t v d ps) (hw : (d.weights P t).all (· ≤ reachBytes) = true) :
    ∃ f : F, v = .agg #[S f.n, S f.v, .bool f.m] ∧ f.n.length ≤ 140737488351232 ∧ f.v.length ≤ 140737488351232 := by
  obtain ⟨cs, rfl, hsz⟩ := okWide_struct hs hval
  obtain ⟨cl⟩ := cs
  match cl, hsz.trans hC with
  | [c0, c1, c2], _ =>
    obtain ⟨fuel, hf⟩ := hd
    obtain ⟨xs, n, _, hx, _, hlen, hg⟩ := DataW.trod_struct hs hf
    obtain ⟨o0, k0⟩ := hone_of hone 0 f0 rfl
    obtain ⟨o1, k1⟩ := hone_of hone 1 f1 rfl
    obtain ⟨o2, k2⟩ := hone_of hone 2 f2 rfl
    match xs, hlen with
    | [y0, y1, y2], _ =>
      simp only [Prod.mk.injEq] at hx
      obtain ⟨rfl, -⟩ := hx
      have t0 := by simpa [Value.cells, o0, k0] using hg 0 f0 rfl
      rw [ht.1] at t0
      have t1 := by simpa [Value.cells, o1, k1] using hg 1 f1 rfl
      rw [ht.2.1] at t1
      have t2 := by simpa [Value.cells, o2, k2] using hg 2 f2 rfl
      rw [ht.2.2] at t2
      simp only [DataW.weights, hs, DataW.weightsEach, List.map_cons, List.map_nil, List.all_append, Bool.and_eq_true, ht.1, ht.2.1, ht.2.2] at hw
      obtain ⟨w0, w1, w2, -⟩ := hw
      obtain ⟨s0, e0, b0⟩ := el_S hes _ _ y0 t0 w0
      obtain ⟨s1, e1, b1⟩ := el_S hes _ _ y1 t1 w1
      obtain ⟨m, e2, _⟩ := DataW.trod_bool heb t2
      simp at e0 e1 e2
      subst e0 e1 e2
      exact ⟨⟨s0, s1, m⟩, rfl, b0, b1⟩

theorem wf_u16 {n : Int} (h : (Lit.int .u16 n).wf = true) : 0 ≤ n ∧ n ≤ 65535 := by
  simpa [Lit.wf, IntKind.min, IntKind.max, IntKind.signed, IntKind.bits] using h
theorem wf_u32 {n : Int} (h : (Lit.int .u32 n).wf = true) : 0 ≤ n ∧ n ≤ 4294967295 := by
  simpa [Lit.wf, IntKind.min, IntKind.max, IntKind.signed, IntKind.bits] using h
end
end Go.Dr
