/- Parts of the proof of DealLacks_holds: the texts Open7. -/
import Derived.Test.YtahapblgmehngaaGreatDoorC29
set_option linter.unusedSimpArgs false
set_option linter.unusedVariables false
set_option linter.unnecessarySimpa false
namespace Go.Dr
open Go.RowKit Go.ChangeShapes Go.WideShapes Go.Deep Go.Joins
open Go.ChangeMaps (open_string)

/-- An answer that may be kept: its request, what was answered; the fields of both. -/
structure Kv where
  r : Rq
  st : Int
  vf : Value
  body : Bytes
  asked : Int
  came : Int
  lr : List F
  lf : List F
instance : Inhabited Kv := ⟨⟨⟨[], [], [], [], .slice none 0 0⟩, 0, .slice none 0 0, [], 0, 0, [], []⟩⟩
def Kv.cells (k : Kv) : List Value := [S k.r.m, S k.r.s, S k.r.a, S k.r.p, k.r.v, .int .i64 k.st, k.vf, S k.body, .int .i64 k.asked, .int .i64 k.came]
def Kv.val (k : Kv) : Value := .agg #[S k.r.m, S k.r.s, S k.r.a, S k.r.p, k.r.v, .int .i64 k.st, k.vf, S k.body, .int .i64 k.asked, .int .i64 k.came]
def kcells (l : List Kv) : List Value := l.flatMap Kv.cells
def Kv.Ok (k : Kv) : Prop := k.r.Ok ∧ I64 k.st ∧ k.body.length ≤ 140737488351232 ∧ I64 k.asked ∧ I64 k.came ∧ FOk k.lr ∧ FOk k.lf
def Kv.Fss (B : Nat) (w : World) (k : Kv) : Prop := Fs B w k.r.v k.lr ∧ Fs B w k.vf k.lf
def Ks (B : Nat) (w : World) (v : Value) (l : List Kv) : Prop := Rd B w 10 v l.length (kcells l) ∧ ∀ k ∈ l, k.Fss B w
theorem Kv.Fss.below {B : Nat} {w w' : World} {k : Kv} (h : k.Fss B w) (hb : Below B w w') : k.Fss B w' := ⟨h.1.below hb, h.2.below hb⟩
theorem Kv.Fss.mono {B B' : Nat} {w : World} {k : Kv} (h : k.Fss B w) (hb : B ≤ B') : k.Fss B' w := ⟨h.1.mono hb, h.2.mono hb⟩
theorem Ks.below {B : Nat} {w w' : World} {v : Value} {l : List Kv} (h : Ks B w v l) (hb : Below B w w') : Ks B w' v l := ⟨h.1.below hb, fun x hx => (h.2 x hx).below hb⟩
theorem Ks.mono {B B' : Nat} {w : World} {v : Value} {l : List Kv} (h : Ks B w v l) (hb : B ≤ B') : Ks B' w v l := ⟨h.1.mono hb, fun x hx => (h.2 x hx).mono hb⟩
theorem Ks.form {B : Nat} {w : World} {v : Value} {l : List Kv} (h : Ks B w v l) : ∃ a cap, v = .slice a l.length cap ∧ l.length ≤ 9223372036854775807 := by
  obtain ⟨⟨a, cap, h1, h2, h3, _⟩, _⟩ := h
  exact ⟨a, cap, h1, by unfold maxLen at h3; omega⟩
theorem Ks.at {B : Nat} {w : World} {a : Option Addr} {n cap : Nat} {l : List Kv} (h : Ks B w (.slice a n cap) l) (k : Nat) (hk : k < l.length) :
    ∃ b off, a = some ⟨b, off, none⟩ ∧ b < B ∧ w.cell? ⟨b, off + k * 10, none⟩ = some (S l[k].r.m) ∧ w.cell? ⟨b, off + k * 10 + 1, none⟩ = some (S l[k].r.s) ∧ w.cell? ⟨b, off + k * 10 + 2, none⟩ = some (S l[k].r.a) ∧ w.cell? ⟨b, off + k * 10 + 3, none⟩ = some (S l[k].r.p) ∧ w.cell? ⟨b, off + k * 10 + 4, none⟩ = some l[k].r.v ∧ w.cell? ⟨b, off + k * 10 + 5, none⟩ = some (.int .i64 l[k].st) ∧ w.cell? ⟨b, off + k * 10 + 6, none⟩ = some l[k].vf ∧ w.cell? ⟨b, off + k * 10 + 7, none⟩ = some (S l[k].body) ∧ w.cell? ⟨b, off + k * 10 + 8, none⟩ = some (.int .i64 l[k].asked) ∧ w.cell? ⟨b, off + k * 10 + 9, none⟩ = some (.int .i64 l[k].came) := by
  obtain ⟨⟨a', cap', h1, h2, h3, h4, h5, h6⟩, _⟩ := h
  simp only [Value.slice.injEq] at h1
  obtain ⟨rfl, rfl, rfl⟩ := h1
  have hg : ∀ j, j < 10 → (kcells l)[k * 10 + j]? = (l[k].cells)[j]? := fun j hj => flat_get Kv.cells 10 (fun _ => rfl) l k hk j hj
  obtain ⟨b, off, rfl, hb, c0⟩ := h6 (k * 10 + 0) _ (by rw [hg 0 (by omega)]; rfl)
  have hc : ∀ (j : Nat) (u : Value), j < 10 → (l[k].cells)[j]? = some u → w.cell? ⟨b, off + (k * 10 + j), none⟩ = some u := fun j u hj hu => by
    obtain ⟨b1, off1, e1, _, c1⟩ := h6 (k * 10 + j) u (by rw [hg j hj]; exact hu)
    simp only [Option.some.injEq, Addr.mk.injEq, and_true] at e1
    obtain ⟨rfl, rfl⟩ := e1
    exact c1
  refine ⟨b, off, rfl, hb, c0, ?_, ?_, ?_, ?_, ?_, ?_, ?_, ?_, ?_⟩
  · rw [Nat.add_assoc]; exact hc 1 _ (by omega) rfl
  · rw [Nat.add_assoc]; exact hc 2 _ (by omega) rfl
  · rw [Nat.add_assoc]; exact hc 3 _ (by omega) rfl
  · rw [Nat.add_assoc]; exact hc 4 _ (by omega) rfl
  · rw [Nat.add_assoc]; exact hc 5 _ (by omega) rfl
  · rw [Nat.add_assoc]; exact hc 6 _ (by omega) rfl
  · rw [Nat.add_assoc]; exact hc 7 _ (by omega) rfl
  · rw [Nat.add_assoc]; exact hc 8 _ (by omega) rfl
  · rw [Nat.add_assoc]; exact hc 9 _ (by omega) rfl

/-- A request that came in, and its fields. -/
structure Qx where
  q : Rq
  l : List F
instance : Inhabited Qx := ⟨⟨⟨[], [], [], [], .slice none 0 0⟩, []⟩⟩
def Qx.cells (x : Qx) : List Value := [S x.q.m, S x.q.s, S x.q.a, S x.q.p, x.q.v]
def qcells (l : List Qx) : List Value := l.flatMap Qx.cells
def Qx.Ok (x : Qx) : Prop := x.q.Ok ∧ FOk x.l
def Qs (B : Nat) (w : World) (v : Value) (l : List Qx) : Prop := Rd B w 5 v l.length (qcells l) ∧ ∀ x ∈ l, Fs B w x.q.v x.l
theorem Qs.below {B : Nat} {w w' : World} {v : Value} {l : List Qx} (h : Qs B w v l) (hb : Below B w w') : Qs B w' v l := ⟨h.1.below hb, fun x hx => (h.2 x hx).below hb⟩
theorem Qs.mono {B B' : Nat} {w : World} {v : Value} {l : List Qx} (h : Qs B w v l) (hb : B ≤ B') : Qs B' w v l := ⟨h.1.mono hb, fun x hx => (h.2 x hx).mono hb⟩
theorem Qs.form {B : Nat} {w : World} {v : Value} {l : List Qx} (h : Qs B w v l) : ∃ a cap, v = .slice a l.length cap ∧ l.length ≤ 9223372036854775807 := by
  obtain ⟨⟨a, cap, h1, h2, h3, _⟩, _⟩ := h
  exact ⟨a, cap, h1, by unfold maxLen at h3; omega⟩
theorem Qs.at {B : Nat} {w : World} {a : Option Addr} {n cap : Nat} {l : List Qx} (h : Qs B w (.slice a n cap) l) (k : Nat) (hk : k < l.length) :
    ∃ b off, a = some ⟨b, off, none⟩ ∧ b < B ∧ w.cell? ⟨b, off + k * 5, none⟩ = some (S l[k].q.m) ∧ w.cell? ⟨b, off + k * 5 + 1, none⟩ = some (S l[k].q.s) ∧ w.cell? ⟨b, off + k * 5 + 2, none⟩ = some (S l[k].q.a) ∧ w.cell? ⟨b, off + k * 5 + 3, none⟩ = some (S l[k].q.p) ∧ w.cell? ⟨b, off + k * 5 + 4, none⟩ = some l[k].q.v := by
  obtain ⟨⟨a', cap', h1, h2, h3, h4, h5, h6⟩, _⟩ := h
  simp only [Value.slice.injEq] at h1
  obtain ⟨rfl, rfl, rfl⟩ := h1
  have hg : ∀ j, j < 5 → (qcells l)[k * 5 + j]? = (l[k].cells)[j]? := fun j hj => flat_get Qx.cells 5 (fun _ => rfl) l k hk j hj
  obtain ⟨b, off, rfl, hb, c0⟩ := h6 (k * 5 + 0) _ (by rw [hg 0 (by omega)]; rfl)
  have hc : ∀ (j : Nat) (u : Value), j < 5 → (l[k].cells)[j]? = some u → w.cell? ⟨b, off + (k * 5 + j), none⟩ = some u := fun j u hj hu => by
    obtain ⟨b1, off1, e1, _, c1⟩ := h6 (k * 5 + j) u (by rw [hg j hj]; exact hu)
    simp only [Option.some.injEq, Addr.mk.injEq, and_true] at e1
    obtain ⟨rfl, rfl⟩ := e1
    exact c1
  refine ⟨b, off, rfl, hb, c0, ?_, ?_, ?_, ?_⟩
  · rw [Nat.add_assoc]; exact hc 1 _ (by omega) rfl
  · rw [Nat.add_assoc]; exact hc 2 _ (by omega) rfl
  · rw [Nat.add_assoc]; exact hc 3 _ (by omega) rfl
  · rw [Nat.add_assoc]; exact hc 4 _ (by omega) rfl

section
variable {H : Type} {enc : TypeId × Value → H} {P : Program} {w : World} {base : Nat} {spare : Nat → Bool} {held : Bool}

theorem el_R {t tf e es eb : TypeId} {f0 f1 f2 f3 f4 : Field} (hs : P.underlying t = some (.struct #[f0, f1, f2, f3, f4])) (hone : oneCellFields P #[f0, f1, f2, f3, f4] = true) (hC : P.cellsOf t = 5)
    (ht : f0.type = es ∧ f1.type = es ∧ f2.type = es ∧ f3.type = es ∧ f4.type = tf) (T : FT P tf e es eb)
    {n : Nat} {cs' : List Value} {y : DataW H × List MemPlace} (hf : DataW.trod enc P w base spare held n t cs' = some y) (hw : (y.1.weights P t).all (· ≤ reachBytes) = true) :
    ∃ x : Qx, cs' = x.cells ∧ x.Ok ∧ Fs w.heap.size w x.q.v x.l := by
  obtain ⟨xs, n, _, hx, hln, hlen, hg⟩ := DataW.trod_struct hs hf
  rw [hC] at hln
  match cs', hln with
  | [c0, c1, c2, c3, c4], _ =>
    obtain ⟨o0, k0⟩ := hone_of hone 0 f0 rfl
    obtain ⟨o1, k1⟩ := hone_of hone 1 f1 rfl
    obtain ⟨o2, k2⟩ := hone_of hone 2 f2 rfl
    obtain ⟨o3, k3⟩ := hone_of hone 3 f3 rfl
    obtain ⟨o4, k4⟩ := hone_of hone 4 f4 rfl
    match xs, hlen with
    | [y0, y1, y2, y3, y4], _ =>
      subst hx
      have t0 := by simpa [o0, k0] using hg 0 f0 rfl
      rw [ht.1] at t0
      have t1 := by simpa [o1, k1] using hg 1 f1 rfl
      rw [ht.2.1] at t1
      have t2 := by simpa [o2, k2] using hg 2 f2 rfl
      rw [ht.2.2.1] at t2
      have t3 := by simpa [o3, k3] using hg 3 f3 rfl
      rw [ht.2.2.2.1] at t3
      have t4 := by simpa [o4, k4] using hg 4 f4 rfl
      rw [ht.2.2.2.2] at t4
      simp only [DataW.weights, hs, DataW.weightsEach, List.map_cons, List.map_nil, List.all_append, Bool.and_eq_true, ht.1, ht.2.1, ht.2.2.1, ht.2.2.2.1, ht.2.2.2.2] at hw
      obtain ⟨w0, w1, w2, w3, w4, -⟩ := hw
      obtain ⟨s0, e0, b0⟩ := el_S T.hs _ _ y0 t0 w0
      obtain ⟨s1, e1, b1⟩ := el_S T.hs _ _ y1 t1 w1
      obtain ⟨s2, e2, b2⟩ := el_S T.hs _ _ y2 t2 w2
      obtain ⟨s3, e3, b3⟩ := el_S T.hs _ _ y3 t3 w3
      obtain ⟨vf, l, e4, h4, b4⟩ := el_Fs T t4 w4
      simp only [List.cons.injEq, and_true] at e0 e1 e2 e3 e4
      subst e0 e1 e2 e3 e4
      exact ⟨⟨⟨s0, s1, s2, s3, c4⟩, l⟩, rfl, ⟨⟨b0, b1, b2, b3⟩, b4⟩, h4⟩

theorem el_Kv {td t tf e es eb ti tl : TypeId} {g0 g1 g2 g3 g4 g5 : Field} {f0 f1 f2 f3 f4 : Field} (hds : P.underlying td = some (.struct #[g0, g1, g2, g3, g4, g5])) (hdC : P.cellsOf td = 10)
    (hdt : g0.type = t ∧ g1.type = ti ∧ g2.type = tf ∧ g3.type = es ∧ g4.type = tl ∧ g5.type = tl) (hdo : g0.offset = 0 ∧ g1.offset = 5 ∧ g2.offset = 6 ∧ g3.offset = 7 ∧ g4.offset = 8 ∧ g5.offset = 9) (hci : P.cellsOf ti = 1) (hcl : P.cellsOf tl = 1) (hcf : P.cellsOf tf = 1)
    (hs : P.underlying t = some (.struct #[f0, f1, f2, f3, f4])) (hone : oneCellFields P #[f0, f1, f2, f3, f4] = true) (hC : P.cellsOf t = 5)
    (ht : f0.type = es ∧ f1.type = es ∧ f2.type = es ∧ f3.type = es ∧ f4.type = tf) (T : FT P tf e es eb) (hi : P.underlying ti = some (.int .i64)) (hl : P.underlying tl = some (.int .i64))
    {n : Nat} {cs' : List Value} {y : DataW H × List MemPlace} (hf : DataW.trod enc P w base spare held n td cs' = some y) (hw : (y.1.weights P td).all (· ≤ reachBytes) = true) :
    ∃ k : Kv, cs' = k.cells ∧ k.Ok ∧ k.Fss w.heap.size w := by
  obtain ⟨xs, n, _, hx, hln, hlen, hg⟩ := DataW.trod_struct hds hf
  rw [hdC] at hln
  match cs', hln with
  | [c0, c1, c2, c3, c4, c5, c6, c7, c8, c9], _ =>
    match xs, hlen with
    | [y0, y1, y2, y3, y4, y5], _ =>
      subst hx
      obtain ⟨ht0, ht1, ht2, ht3, ht4, ht5⟩ := hdt
      obtain ⟨ho0, ho1, ho2, ho3, ho4, ho5⟩ := hdo
      have t0 := hg 0 g0 rfl
      rw [ht0, ho0, hC] at t0
      have t1 := hg 1 g1 rfl
      rw [ht1, ho1, hci] at t1
      have t2 := hg 2 g2 rfl
      rw [ht2, ho2, hcf] at t2
      have t3 := hg 3 g3 rfl
      rw [ht3, ho3, T.hCs] at t3
      have t4 := hg 4 g4 rfl
      rw [ht4, ho4, hcl] at t4
      have t5 := hg 5 g5 rfl
      rw [ht5, ho5, hcl] at t5
      simp only [DataW.weights, hds, DataW.weightsEach, List.map_cons, List.map_nil, List.all_append, Bool.and_eq_true, ht0, ht1, ht2, ht3, ht4, ht5] at hw
      obtain ⟨w0, w1, w2, w3, w4, w5, -⟩ := hw
      obtain ⟨x, e0, ⟨hx1, hx2⟩, hx3⟩ := el_R hs hone hC ht T t0 w0
      obtain ⟨i1, e1, b1⟩ := el_int hi t1
      obtain ⟨vf, lf, e2, h2, b2⟩ := el_Fs T t2 w2
      obtain ⟨s3, e3, b3⟩ := el_S T.hs _ _ y3 t3 w3
      obtain ⟨i4, e4, b4⟩ := el_int hl t4
      obtain ⟨i5, e5, b5⟩ := el_int hl t5
      simp only [List.drop_succ_cons, List.drop_zero, List.take_succ_cons, List.take_zero, Qx.cells, List.cons.injEq, and_true] at e0 e1 e2 e3 e4 e5
      obtain ⟨rfl, rfl, rfl, rfl, rfl⟩ := e0
      subst e1 e2 e3 e4 e5
      exact ⟨⟨x.q, i1, c6, s3, i4, i5, x.l, lf⟩, rfl, ⟨hx1, wf_int b1, b3, wf_int b4, wf_int b5, hx2, b2⟩, hx3, h2⟩

/-- A list of answers that may be kept. -/
theorem open_Ks {r : Reach} {b0 : Nat} {tt td t tf e es eb ti tl : TypeId} {g0 g1 g2 g3 g4 g5 : Field} {f0 f1 f2 f3 f4 : Field} {v : Value} {d : DataW H} {ps : List MemPlace} (htt : P.underlying tt = some (.slice td)) (hds : P.underlying td = some (.struct #[g0, g1, g2, g3, g4, g5])) (hdC : P.cellsOf td = 10)
    (hdt : g0.type = t ∧ g1.type = ti ∧ g2.type = tf ∧ g3.type = es ∧ g4.type = tl ∧ g5.type = tl) (hdo : g0.offset = 0 ∧ g1.offset = 5 ∧ g2.offset = 6 ∧ g3.offset = 7 ∧ g4.offset = 8 ∧ g5.offset = 9) (hci : P.cellsOf ti = 1) (hcl : P.cellsOf tl = 1) (hcf : P.cellsOf tf = 1)
    (hs : P.underlying t = some (.struct #[f0, f1, f2, f3, f4])) (hone : oneCellFields P #[f0, f1, f2, f3, f4] = true) (hC : P.cellsOf t = 5)
    (ht : f0.type = es ∧ f1.type = es ∧ f2.type = es ∧ f3.type = es ∧ f4.type = tf) (T : FT P tf e es eb) (hi : P.underlying ti = some (.int .i64)) (hl : P.underlying tl = some (.int .i64))
    (hval : Value.okWide P w r b0 tt v) (hd : DataW.Trod enc P w base spare held tt v d ps) (hw : (d.weights P tt).all (· ≤ reachBytes) = true) :
    ∃ l : List Kv, Ks w.heap.size w v l ∧ (∀ x ∈ l, x.Ok) := by
  obtain ⟨a, len, cap, rfl⟩ := okWide_slice htt hval
  obtain ⟨fuel, hf⟩ := hd
  obtain ⟨v, l, hv, g1, g2, g3⟩ := open_seq (α := Kv) (hs0 := by decide) 10 Kv.cells (fun k => k.Ok ∧ k.Fss w.heap.size w) hdC (fun _ => rfl) (fun n cs' y hy hwy => el_Kv hds hdC hdt hdo hci hcl hcf hs hone hC ht T hi hl hy hwy) htt hf hw
  simp only [Value.cells, List.cons.injEq, and_true] at hv
  subst hv
  exact ⟨l, ⟨g1, fun x hx => (g2 x hx).2⟩, fun x hx => (g2 x hx).1⟩

end
end Go.Dr

