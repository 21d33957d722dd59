/- Parts of the proof of DealDecides_holds: the texts Open7 Deq Shf6 Law19b Dea6 Law21a. -/
import Derived.Test.YtahapblgmehngaaGreatDoorE27
set_option linter.unusedSimpArgs false
set_option linter.unusedVariables false
set_option linter.unnecessarySimpa false
set_option maxRecDepth 100000
set_option maxHeartbeats 64000000
namespace Go.Dr
open Go.RowKit Go.ChangeShapes Go.WideShapes Go.Deep Go.Joins
open Go.ChangeMaps (open_string)
structure Kv where
 r : Rq
 st : Int
 vf : Value
 body : Bytes
 asked : Int
 came : Int
 lr : List F
 lf : List F
instance : Inhabited Kv := ⟨⟨⟨[], [], [], [], .slice none 0 0⟩, 0, .slice none 0 0, [], 0, 0, [], []⟩⟩
def Kv.cells (k : Kv) : List Value := [S k.r.m, S k.r.s, S k.r.a, S k.r.p, k.r.v, .int .i64 k.st, k.vf, S k.body, .int .i64 k.asked, .int .i64 k.came]
def kcells (l : List Kv) : List Value := l.flatMap Kv.cells
def Kv.Ok (k : Kv) : Prop := k.r.Ok ∧ I64 k.st ∧ k.body.length ≤ 140737488351232 ∧ I64 k.asked ∧ I64 k.came ∧ FOk k.lr ∧ FOk k.lf
def Kv.Fss (B : Nat) (w : World) (k : Kv) : Prop := Fs B w k.r.v k.lr ∧ Fs B w k.vf k.lf
def Ks (B : Nat) (w : World) (v : Value) (l : List Kv) : Prop := Rd B w 10 v l.length (kcells l) ∧ ∀ k ∈ l, k.Fss B w
theorem Kv.Fss.below {B : Nat} {w w' : World} {k : Kv} (h : k.Fss B w) (hb : Below B w w') : k.Fss B w' := ⟨h.1.below hb, h.2.below hb⟩
theorem Kv.Fss.mono {B B' : Nat} {w : World} {k : Kv} (h : k.Fss B w) (hb : B ≤ B') : k.Fss B' w := ⟨h.1.mono hb, h.2.mono hb⟩
theorem Ks.below {B : Nat} {w w' : World} {v : Value} {l : List Kv} (h : Ks B w v l) (hb : Below B w w') : Ks B w' v l := ⟨h.1.below hb, fun x hx => (h.2 x hx).below hb⟩
theorem Ks.mono {B B' : Nat} {w : World} {v : Value} {l : List Kv} (h : Ks B w v l) (hb : B ≤ B') : Ks B' w v l := ⟨h.1.mono hb, fun x hx => (h.2 x hx).mono hb⟩
theorem Ks.form {B : Nat} {w : World} {v : Value} {l : List Kv} (h : Ks B w v l) : ∃ a cap, v = .slice a l.length cap ∧ l.length ≤ 9223372036854775807 := by
 obtain ⟨⟨a, cap, h1, h2, h3, _⟩, _⟩ := h;exact ⟨a, cap, h1, by unfold maxLen at h3;omega⟩
theorem Ks.at {B : Nat} {w : World} {a : Option Addr} {n cap : Nat} {l : List Kv} (h : Ks B w (.slice a n cap) l) (k : Nat) (hk : k < l.length) :
  ∃ b off, a = some ⟨b, off, none⟩ ∧ b < B ∧ w.cell? ⟨b, off + k * 10, none⟩ = some (S l[k].r.m) ∧ w.cell? ⟨b, off + k * 10 + 1, none⟩ = some (S l[k].r.s) ∧ w.cell? ⟨b, off + k * 10 + 2, none⟩ = some (S l[k].r.a) ∧ w.cell? ⟨b, off + k * 10 + 3, none⟩ = some (S l[k].r.p) ∧ w.cell? ⟨b, off + k * 10 + 4, none⟩ = some l[k].r.v ∧ w.cell? ⟨b, off + k * 10 + 5, none⟩ = some (.int .i64 l[k].st) ∧ w.cell? ⟨b, off + k * 10 + 6, none⟩ = some l[k].vf ∧ w.cell? ⟨b, off + k * 10 + 7, none⟩ = some (S l[k].body) ∧ w.cell? ⟨b, off + k * 10 + 8, none⟩ = some (.int .i64 l[k].asked) ∧ w.cell? ⟨b, off + k * 10 + 9, none⟩ = some (.int .i64 l[k].came) := by
 obtain ⟨⟨a', cap', h1, h2, h3, h4, h5, h6⟩, _⟩ := h;simp only [Value.slice.injEq] at h1;obtain ⟨rfl, rfl, rfl⟩ := h1;have hg : ∀ j, j < 10 → (kcells l)[k * 10 + j]? = (l[k].cells)[j]? := fun j hj => flat_get Kv.cells 10 (fun _ => rfl) l k hk j hj
 obtain ⟨b, off, rfl, hb, c0⟩ := h6 (k * 10 + 0) _ (by rw [hg 0 (by omega)];rfl)
 have hc : ∀ (j : Nat) (u : Value), j < 10 → (l[k].cells)[j]? = some u → w.cell? ⟨b, off + (k * 10 + j), none⟩ = some u := fun j u hj hu => by
  obtain ⟨b1, off1, e1, _, c1⟩ := h6 (k * 10 + j) u (by rw [hg j hj];exact hu);simp only [Option.some.injEq, Addr.mk.injEq, and_true] at e1;obtain ⟨rfl, rfl⟩ := e1;exact c1
 refine ⟨b, off, rfl, hb, c0, ?_, ?_, ?_, ?_, ?_, ?_, ?_, ?_, ?_⟩
 ·rw [Nat.add_assoc];exact hc 1 _ (by omega) rfl
 ·rw [Nat.add_assoc];exact hc 2 _ (by omega) rfl
 ·rw [Nat.add_assoc];exact hc 3 _ (by omega) rfl
 ·rw [Nat.add_assoc];exact hc 4 _ (by omega) rfl
 ·rw [Nat.add_assoc];exact hc 5 _ (by omega) rfl
 ·rw [Nat.add_assoc];exact hc 6 _ (by omega) rfl
 ·rw [Nat.add_assoc];exact hc 7 _ (by omega) rfl
 ·rw [Nat.add_assoc];exact hc 8 _ (by omega) rfl
 ·rw [Nat.add_assoc];exact hc 9 _ (by omega) rfl
structure Qx where
 q : Rq
 l : List F
instance : Inhabited Qx := ⟨⟨⟨[], [], [], [], .slice none 0 0⟩, []⟩⟩
def Qx.cells (x : Qx) : List Value := [S x.q.m, S x.q.s, S x.q.a, S x.q.p, x.q.v]
def qcells (l : List Qx) : List Value := l.flatMap Qx.cells
def Qx.Ok (x : Qx) : Prop := x.q.Ok ∧ FOk x.l
def Qs (B : Nat) (w : World) (v : Value) (l : List Qx) : Prop := Rd B w 5 v l.length (qcells l) ∧ ∀ x ∈ l, Fs B w x.q.v x.l
theorem Qs.below {B : Nat} {w w' : World} {v : Value} {l : List Qx} (h : Qs B w v l) (hb : Below B w w') : Qs B w' v l := ⟨h.1.below hb, fun x hx => (h.2 x hx).below hb⟩
theorem Qs.mono {B B' : Nat} {w : World} {v : Value} {l : List Qx} (h : Qs B w v l) (hb : B ≤ B') : Qs B' w v l := ⟨h.1.mono hb, fun x hx => (h.2 x hx).mono hb⟩
theorem Qs.form {B : Nat} {w : World} {v : Value} {l : List Qx} (h : Qs B w v l) : ∃ a cap, v = .slice a l.length cap ∧ l.length ≤ 9223372036854775807 := by
 obtain ⟨⟨a, cap, h1, h2, h3, _⟩, _⟩ := h;exact ⟨a, cap, h1, by unfold maxLen at h3;omega⟩
theorem Qs.at {B : Nat} {w : World} {a : Option Addr} {n cap : Nat} {l : List Qx} (h : Qs B w (.slice a n cap) l) (k : Nat) (hk : k < l.length) :
  ∃ b off, a = some ⟨b, off, none⟩ ∧ b < B ∧ w.cell? ⟨b, off + k * 5, none⟩ = some (S l[k].q.m) ∧ w.cell? ⟨b, off + k * 5 + 1, none⟩ = some (S l[k].q.s) ∧ w.cell? ⟨b, off + k * 5 + 2, none⟩ = some (S l[k].q.a) ∧ w.cell? ⟨b, off + k * 5 + 3, none⟩ = some (S l[k].q.p) ∧ w.cell? ⟨b, off + k * 5 + 4, none⟩ = some l[k].q.v := by
 obtain ⟨⟨a', cap', h1, h2, h3, h4, h5, h6⟩, _⟩ := h;simp only [Value.slice.injEq] at h1;obtain ⟨rfl, rfl, rfl⟩ := h1;have hg : ∀ j, j < 5 → (qcells l)[k * 5 + j]? = (l[k].cells)[j]? := fun j hj => flat_get Qx.cells 5 (fun _ => rfl) l k hk j hj
 obtain ⟨b, off, rfl, hb, c0⟩ := h6 (k * 5 + 0) _ (by rw [hg 0 (by omega)];rfl)
 have hc : ∀ (j : Nat) (u : Value), j < 5 → (l[k].cells)[j]? = some u → w.cell? ⟨b, off + (k * 5 + j), none⟩ = some u := fun j u hj hu => by
  obtain ⟨b1, off1, e1, _, c1⟩ := h6 (k * 5 + j) u (by rw [hg j hj];exact hu);simp only [Option.some.injEq, Addr.mk.injEq, and_true] at e1;obtain ⟨rfl, rfl⟩ := e1;exact c1
 refine ⟨b, off, rfl, hb, c0, ?_, ?_, ?_, ?_⟩
 ·rw [Nat.add_assoc];exact hc 1 _ (by omega) rfl
 ·rw [Nat.add_assoc];exact hc 2 _ (by omega) rfl
 ·rw [Nat.add_assoc];exact hc 3 _ (by omega) rfl
 ·rw [Nat.add_assoc];exact hc 4 _ (by omega) rfl
section
variable {H : Type} {enc : TypeId × Value → H} {P : Program} {w : World} {base : Nat} {spare : Nat → Bool} {held : Bool}
theorem el_R {t tf e es eb : TypeId} {f0 f1 f2 f3 f4 : Field} (hs : P.underlying t = some (.struct #[f0, f1, f2, f3, f4])) (hone : oneCellFields P #[f0, f1, f2, f3, f4] = true) (hC : P.cellsOf t = 5)
  (ht : f0.type = es ∧ f1.type = es ∧ f2.type = es ∧ f3.type = es ∧ f4.type = tf) (T : FT P tf e es eb)
  {n : Nat} {cs' : List Value} {y : DataW H × List MemPlace} (hf : DataW.trod enc P w base spare held n t cs' = some y) (hw : (y.1.weights P t).all (· ≤ reachBytes) = true) :
  ∃ x : Qx, cs' = x.cells ∧ x.Ok ∧ Fs w.heap.size w x.q.v x.l := by
 obtain ⟨xs, n, _, hx, hln, hlen, hg⟩ := DataW.trod_struct hs hf;rw [hC] at hln
 match cs', hln with
 | [c0, c1, c2, c3, c4], _ =>
  obtain ⟨o0, k0⟩ := hone_of hone 0 f0 rfl;obtain ⟨o1, k1⟩ := hone_of hone 1 f1 rfl;obtain ⟨o2, k2⟩ := hone_of hone 2 f2 rfl;obtain ⟨o3, k3⟩ := hone_of hone 3 f3 rfl;obtain ⟨o4, k4⟩ := hone_of hone 4 f4 rfl
  match xs, hlen with
  | [y0, y1, y2, y3, y4], _ =>
   subst hx;have t0 := (by simpa [o0, k0] using hg 0 f0 rfl);rw [ht.1] at t0;have t1 := (by simpa [o1, k1] using hg 1 f1 rfl);rw [ht.2.1] at t1;have t2 := (by simpa [o2, k2] using hg 2 f2 rfl);rw [ht.2.2.1] at t2;have t3 := (by simpa [o3, k3] using hg 3 f3 rfl);rw [ht.2.2.2.1] at t3;have t4 := (by simpa [o4, k4] using hg 4 f4 rfl);rw [ht.2.2.2.2] at t4;simp only [DataW.weights, hs, DataW.weightsEach, List.map_cons, List.map_nil, List.all_append, Bool.and_eq_true, ht.1, ht.2.1, ht.2.2.1, ht.2.2.2.1, ht.2.2.2.2] at hw;obtain ⟨w0, w1, w2, w3, w4, -⟩ := hw;obtain ⟨s0, e0, b0⟩ := el_S T.hs _ _ y0 t0 w0;obtain ⟨s1, e1, b1⟩ := el_S T.hs _ _ y1 t1 w1;obtain ⟨s2, e2, b2⟩ := el_S T.hs _ _ y2 t2 w2;obtain ⟨s3, e3, b3⟩ := el_S T.hs _ _ y3 t3 w3;obtain ⟨vf, l, e4, h4, b4⟩ := el_Fs T t4 w4;simp only [List.cons.injEq, and_true] at e0 e1 e2 e3 e4;subst e0 e1 e2 e3 e4;exact ⟨⟨⟨s0, s1, s2, s3, c4⟩, l⟩, rfl, ⟨⟨b0, b1, b2, b3⟩, b4⟩, h4⟩
theorem open_Qs {r : Reach} {b0 : Nat} {tt t tf e es eb : TypeId} {f0 f1 f2 f3 f4 : Field} {v : Value} {d : DataW H} {ps : List MemPlace} (htt : P.underlying tt = some (.slice t)) (hs : P.underlying t = some (.struct #[f0, f1, f2, f3, f4])) (hone : oneCellFields P #[f0, f1, f2, f3, f4] = true) (hC : P.cellsOf t = 5)
  (ht : f0.type = es ∧ f1.type = es ∧ f2.type = es ∧ f3.type = es ∧ f4.type = tf) (T : FT P tf e es eb)
  (hval : Value.okWide P w r b0 tt v) (hd : DataW.Trod enc P w base spare held tt v d ps) (hw : (d.weights P tt).all (· ≤ reachBytes) = true) :
  ∃ l : List Qx, Qs w.heap.size w v l ∧ (∀ x ∈ l, x.Ok) := by
 obtain ⟨a, len, cap, rfl⟩ := okWide_slice htt hval;obtain ⟨fuel, hf⟩ := hd;obtain ⟨v, l, hv, g1, g2, g3⟩ := open_seq (α := Qx) (hs0 := by decide) 5 Qx.cells (fun x => x.Ok ∧ Fs w.heap.size w x.q.v x.l) hC (fun _ => rfl) (fun n cs' y hy hwy => el_R hs hone hC ht T hy hwy) htt hf hw;simp only [Value.cells, List.cons.injEq, and_true] at hv;subst hv;exact ⟨l, ⟨g1, fun x hx => (g2 x hx).2⟩, fun x hx => (g2 x hx).1⟩
theorem el_Kv {td t tf e es eb ti tl : TypeId} {g0 g1 g2 g3 g4 g5 : Field} {f0 f1 f2 f3 f4 : Field} (hds : P.underlying td = some (.struct #[g0, g1, g2, g3, g4, g5])) (hdC : P.cellsOf td = 10)
  (hdt : g0.type = t ∧ g1.type = ti ∧ g2.type = tf ∧ g3.type = es ∧ g4.type = tl ∧ g5.type = tl) (hdo : g0.offset = 0 ∧ g1.offset = 5 ∧ g2.offset = 6 ∧ g3.offset = 7 ∧ g4.offset = 8 ∧ g5.offset = 9) (hci : P.cellsOf ti = 1) (hcl : P.cellsOf tl = 1) (hcf : P.cellsOf tf = 1)
  (hs : P.underlying t = some (.struct #[f0, f1, f2, f3, f4])) (hone : oneCellFields P #[f0, f1, f2, f3, f4] = true) (hC : P.cellsOf t = 5)
  (ht : f0.type = es ∧ f1.type = es ∧ f2.type = es ∧ f3.type = es ∧ f4.type = tf) (T : FT P tf e es eb) (hi : P.underlying ti = some (.int .i64)) (hl : P.underlying tl = some (.int .i64))
  {n : Nat} {cs' : List Value} {y : DataW H × List MemPlace} (hf : DataW.trod enc P w base spare held n td cs' = some y) (hw : (y.1.weights P td).all (· ≤ reachBytes) = true) :
  ∃ k : Kv, cs' = k.cells ∧ k.Ok ∧ k.Fss w.heap.size w := by
 obtain ⟨xs, n, _, hx, hln, hlen, hg⟩ := DataW.trod_struct hds hf;rw [hdC] at hln
 match cs', hln with
 | [c0, c1, c2, c3, c4, c5, c6, c7, c8, c9], _ =>
  match xs, hlen with
  | [y0, y1, y2, y3, y4, y5], _ =>
   subst hx;obtain ⟨ht0, ht1, ht2, ht3, ht4, ht5⟩ := hdt;obtain ⟨ho0, ho1, ho2, ho3, ho4, ho5⟩ := hdo;have t0 := hg 0 g0 rfl;rw [ht0, ho0, hC] at t0;have t1 := hg 1 g1 rfl;rw [ht1, ho1, hci] at t1;have t2 := hg 2 g2 rfl;rw [ht2, ho2, hcf] at t2;have t3 := hg 3 g3 rfl;rw [ht3, ho3, T.hCs] at t3;have t4 := hg 4 g4 rfl;rw [ht4, ho4, hcl] at t4;have t5 := hg 5 g5 rfl;rw [ht5, ho5, hcl] at t5;simp only [DataW.weights, hds, DataW.weightsEach, List.map_cons, List.map_nil, List.all_append, Bool.and_eq_true, ht0, ht1, ht2, ht3, ht4, ht5] at hw;obtain ⟨w0, w1, w2, w3, w4, w5, -⟩ := hw;obtain ⟨x, e0, ⟨hx1, hx2⟩, hx3⟩ := el_R hs hone hC ht T t0 w0;obtain ⟨i1, e1, b1⟩ := el_int hi t1;obtain ⟨vf, lf, e2, h2, b2⟩ := el_Fs T t2 w2;obtain ⟨s3, e3, b3⟩ := el_S T.hs _ _ y3 t3 w3;obtain ⟨i4, e4, b4⟩ := el_int hl t4;obtain ⟨i5, e5, b5⟩ := el_int hl t5;simp only [List.drop_succ_cons, List.drop_zero, List.take_succ_cons, List.take_zero, Qx.cells, List.cons.injEq, and_true] at e0 e1 e2 e3 e4 e5;obtain ⟨rfl, rfl, rfl, rfl, rfl⟩ := e0;subst e1 e2 e3 e4 e5;exact ⟨⟨x.q, i1, c6, s3, i4, i5, x.l, lf⟩, rfl, ⟨hx1, wf_int b1, b3, wf_int b4, wf_int b5, hx2, b2⟩, hx3, h2⟩
theorem open_Ks {r : Reach} {b0 : Nat} {tt td t tf e es eb ti tl : TypeId} {g0 g1 g2 g3 g4 g5 : Field} {f0 f1 f2 f3 f4 : Field} {v : Value} {d : DataW H} {ps : List MemPlace} (htt : P.underlying tt = some (.slice td)) (hds : P.underlying td = some (.struct #[g0, g1, g2, g3, g4, g5])) (hdC : P.cellsOf td = 10)
  (hdt : g0.type = t ∧ g1.type = ti ∧ g2.type = tf ∧ g3.type = es ∧ g4.type = tl ∧ g5.type = tl) (hdo : g0.offset = 0 ∧ g1.offset = 5 ∧ g2.offset = 6 ∧ g3.offset = 7 ∧ g4.offset = 8 ∧ g5.offset = 9) (hci : P.cellsOf ti = 1) (hcl : P.cellsOf tl = 1) (hcf : P.cellsOf tf = 1)
  (hs : P.underlying t = some (.struct #[f0, f1, f2, f3, f4])) (hone : oneCellFields P #[f0, f1, f2, f3, f4] = true) (hC : P.cellsOf t = 5)
  (ht : f0.type = es ∧ f1.type = es ∧ f2.type = es ∧ f3.type = es ∧ f4.type = tf) (T : FT P tf e es eb) (hi : P.underlying ti = some (.int .i64)) (hl : P.underlying tl = some (.int .i64))
  (hval : Value.okWide P w r b0 tt v) (hd : DataW.Trod enc P w base spare held tt v d ps) (hw : (d.weights P tt).all (· ≤ reachBytes) = true) :
  ∃ l : List Kv, Ks w.heap.size w v l ∧ (∀ x ∈ l, x.Ok) := by
 obtain ⟨a, len, cap, rfl⟩ := okWide_slice htt hval;obtain ⟨fuel, hf⟩ := hd;obtain ⟨v, l, hv, g1, g2, g3⟩ := open_seq (α := Kv) (hs0 := by decide) 10 Kv.cells (fun k => k.Ok ∧ k.Fss w.heap.size w) hdC (fun _ => rfl) (fun n cs' y hy hwy => el_Kv hds hdC hdt hdo hci hcl hcf hs hone hC ht T hi hl hy hwy) htt hf hw;simp only [Value.cells, List.cons.injEq, and_true] at hv;subst hv;exact ⟨l, ⟨g1, fun x hx => (g2 x hx).2⟩, fun x hx => (g2 x hx).1⟩
end
end Go.Dr
namespace Go.Proofs.YtahapblgmehngaaGreatDoor
open Go.RowKit Go.Dr
theorem fsum_strip (l : List F) : fsum (strip l) ≤ fsum l := by unfold strip;exact Nat.le_trans (fsum_filter _ _) (fsum_filter _ _)
theorem fsum_saysF (n : Bytes) (l : List F) : fsum [saysF n l] ≤ n.length + 2 * fsum l + 32 := by
 have h1 := joinS_length (allOf l n);have h2 := ssum_all l n
 conv => lhs;simp only [fsum, saysF, List.map_cons, List.map_nil, List.sum_cons, List.sum_nil, low_length]
 omega
theorem fsum_pickP (l : List F) : ∀ ns : List Bytes, fsum (pickP ns l) ≤ ssum ns + ns.length * (2 * fsum l + 32)
  | [] => by simp [pickP, fsum]
  | n :: ns => by
    have h1 := fsum_saysF n l;have h2 := fsum_pickP l ns;have e : pickP (n :: ns) l = [saysF n l] ++ pickP ns l := rfl;rw [e, fsum_append, ssum_cons, List.length_cons, Nat.add_mul];omega
theorem fsum_pickOf {lr lf : List F} (h1 : fsum lr ≤ 16384) (h2 : fsum lf ≤ 16384) : fsum (pickOf lr lf) ≤ 1099511627776 := by
 have h3 := fsum_pickP lr (namesR (namesOf (strip lf)));have h4 := ssum_namesR (strip lf);have h5 := fsum_strip lf;have h6 := ssum_length (namesR (namesOf (strip lf)));have h7 : (namesR (namesOf (strip lf))).length * (2 * fsum lr + 32) ≤ 16384 * 32800 := Nat.mul_le_mul (by omega) (by omega);unfold pickOf;omega
theorem two_puts {w : World} {R r M : Nat} {last : Int} {v : Value} {er : List Ev} {l : List Nd} (h : Two w R r M last v er l) (hids : ∀ n ∈ l, n.x.id ≤ last) (hla : 0 ≤ last ∧ last ≤ 4611686018427387904) (q : En) (lp lf : List F) (hp : Fo 89 R w q.vp lp) (hf : Fo 60 R w q.vf lf) (vp' vf' : Value) (hp' : Fo 89 R w vp' lp) (hf' : Fo 60 R w vf' lf)
  (hk : q.key.length ≤ 1099511627776) (hb : q.body.length ≤ 1099511627776) (hl : fsum lp ≤ 1099511627776) (hl2 : fsum lf ≤ 1048576) :
  ∃ a b : Int, Calls Tryz.prog 28 #[Ptr (R + 2), q.val] w fun e w1 => e = .returned (.tuple #[.int .i64 a, .int .i64 b]) ∧ Keeps w w1 ∧ Below R w w1 ∧
   ∀ w2, Below w1.heap.size w1 w2 → Calls Tryz.prog 31 #[Ptr r, (En.mk q.key vp' q.st vf' q.body q.asked q.came).val] w2 fun e w3 => e = .returned (.tuple #[.int .i64 a, .int .i64 b]) ∧ After R r M w2 last (last + 1) (Laid M l q lp lf) w3 := by
 have hRw : R ≤ w.heap.size := Nat.le_of_lt h.rlt;have hpb : ∀ w', But (Foot (R + 2) R (R + 1) l) w w' → Fo 89 R w' q.vp lp := fun w' hb => hp.but_s h.sh h.sh.base hRw hb (by decide) (by decide)
 have hfb : ∀ w', But (Foot (R + 2) R (R + 1) l) w w' → Fo 60 R w' q.vf lf := fun w' hb => hf.but_s h.sh h.sh.base hRw hb (by decide) (by decide)
 have hpb' : ∀ w', But (Foot (R + 2) R (R + 1) l) w w' → Fo 89 R w' vp' lp := fun w' hb => hp'.but_s h.sh h.sh.base hRw hb (by decide) (by decide)
 have hfb' : ∀ w', But (Foot (R + 2) R (R + 1) l) w w' → Fo 60 R w' vf' lf := fun w' hb => hf'.but_s h.sh h.sh.base hRw hb (by decide) (by decide)
 have hsz : ∀ w', But (Foot (R + 2) R (R + 1) l) w w' → R ≤ w'.heap.size := fun w' hb => Nat.le_trans hRw hb.size
 have hmap := h.alikeF q.key lp;by_cases hc : costF q lp lf ≤ M
 ·refine ⟨last + 1, 0, (Put_any R R (R + 2) R (R + 1) (M : Int) last l q lp lf w h.sh hRw hRw (fun w' hb => (hpb w' hb).fs (hsz w' hb)) (fun w' hb => (hfb w' hb).fs (hsz w' hb)) hk hb hl (by omega) hids hla M rfl hc).mono ?_⟩
  rintro e w1 ⟨rfl, nd, hnx, -, hs1, hb1⟩;refine ⟨rfl, Keeps.but_s h.sh hb1, h.drop hb1, fun w2 hb2 => ?_⟩;have hr2 := (h.rsb hb1).below hb2;have hs2 := hs1.below hb2;have hR1 := hsz w1 hb1;refine (refPut_any ⟨q.key, vp', q.st, vf', q.body, q.asked, q.came⟩ lp lf w2 hr2 ((hpb' w1 hb1).below hb2 hR1) ((hfb' w1 hb1).below hb2 hR1) hk hb hl hl2 hla hc).mono ?_;rintro e w3 ⟨rfl, ⟨v', hr3⟩, hb3⟩;refine ⟨rfl, last + 1, v', _, _, ⟨hs2.but_r hr2.blk hb3, hr3, ?_⟩, ?_, by omega, Int.le_refl _, ?_, Keeps.but_r hr2.blk hb3, hb3.below (fun k hk => by rw [hk];exact hr2.lo) (Nat.le_of_lt hr2.at)⟩
  ·rw [List.map_append, List.map_append, roomE_map _ _ _ hmap]
   show _ ++ [It.of (last + 1) q lp lf] = _ ++ [nd.x]
   rw [hnx];rfl
  ·intro n hn
   rcases List.mem_append.1 hn with hn | hn
   ·have := hids n (List.mem_filter.1 (roomOf_mem hn)).1
    omega
   ·rw [List.mem_singleton.1 hn, hnx];exact Int.le_refl _
  ·refine ⟨fun n hn => ?_, fun _ => ⟨nd, by simp, _, hnx⟩⟩
   rcases List.mem_append.1 hn with hn | hn
   ·exact .inl (List.mem_filter.1 (roomOf_mem hn)).1
   ·rw [List.mem_singleton.1 hn];exact .inr ⟨_, hnx⟩
 ·have hc' : (M : Int) < (costF q lp lf : Nat) := by omega
  refine ⟨0, 2, (Put_long R R (R + 2) R (R + 1) (M : Int) last l q lp lf w h.sh (fun w' hb => (hpb w' hb).fs (hsz w' hb)) (fun w' hb => (hfb w' hb).fs (hsz w' hb)) hk hb hl (by omega) hla hc').mono ?_⟩;rintro e w1 ⟨rfl, hs1, hb1⟩;refine ⟨rfl, Keeps.but_s h.sh hb1, h.drop hb1, fun w2 hb2 => ?_⟩;have hr2 := (h.rsb hb1).below hb2;have hs2 := hs1.below hb2;have hR1 := hsz w1 hb1;refine (refPut_long ⟨q.key, vp', q.st, vf', q.body, q.asked, q.came⟩ lp lf w2 hr2 ((hpb' w1 hb1).below hb2 hR1) ((hfb' w1 hb1).below hb2 hR1) hk hb hl hl2 hla hc').mono ?_;rintro e w3 ⟨rfl, ⟨v', hr3⟩, hb3⟩;exact ⟨rfl, last, v', _, _, ⟨hs2.but_r hr2.blk hb3, hr3, hmap⟩, fun n hn => hids n (List.mem_filter.1 hn).1, Int.le_refl _, by omega, ⟨fun n hn => .inl (List.mem_filter.1 hn).1, fun h => absurd h hc⟩, Keeps.but_r hr2.blk hb3, hb3.below (fun k hk => by rw [hk];exact hr2.lo) (Nat.le_of_lt hr2.at)⟩
def kvKept (k : Kv) : Bool := keptB k.r k.st k.lr k.lf
def kvIt (k : Kv) (id : Int) : It := itemK id k.r k.st k.lr k.lf k.body k.asked k.came
def Laid21 (L : List Kv) (i : Nat) (l : List Nd) : Prop :=
 (∀ n ∈ l, ∃ k ∈ L.take i, kvKept k = true ∧ ∃ id, n.x = kvIt k id) ∧ ∀ j (h : j < L.length), j + 1 = i → kvKept L[j] = true → (kvIt L[j] 0).cost ≤ 20000 → ∃ n ∈ l, ∃ id, n.x = kvIt L[j] id
theorem Laid21.nil (L : List Kv) : Laid21 L 0 [] := ⟨fun n hn => (by cases hn), fun j h e => (by omega)⟩
theorem Laid21.skip {L : List Kv} {i : Nat} {l : List Nd} (h : Laid21 L i l) (hi : i < L.length) (hk : kvKept L[i] = false) : Laid21 L (i + 1) l :=
 ⟨fun n hn => by
   obtain ⟨k, hm, hx⟩ := h.1 n hn;exact ⟨k, by rw [take_snoc L i hi];exact List.mem_append.2 (.inl hm), hx⟩,
  fun j hj e hk2 => by
   obtain rfl : j = i := by omega
   rw [hk] at hk2
   cases hk2⟩
theorem Laid21.put {L : List Kv} {i : Nat} {l l' : List Nd} (h : Laid21 L i l) (hi : i < L.length) (hk : kvKept L[i] = true) (q : En) (lp lf : List F) (hq : ∀ id, It.of id q lp lf = kvIt L[i] id) (hl : Laid 20000 l q lp lf l') : Laid21 L (i + 1) l' :=
 ⟨fun n hn => by
   rw [take_snoc L i hi]
   rcases hl.1 n hn with hn | ⟨id, hx⟩
   ·obtain ⟨k, hm, hx⟩ := h.1 n hn
    exact ⟨k, List.mem_append.2 (.inl hm), hx⟩
   ·exact ⟨L[i], List.mem_append.2 (.inr (List.mem_singleton.2 rfl)), hk, id, by rw [hx, hq]⟩,
  fun j hj e hk2 hc => by
   obtain rfl : j = i := by omega
   have h1 := hq 0
   obtain ⟨n, hn, id, hx⟩ := hl.2 (by
    have h2 : (It.of 0 q lp lf).cost = costF q lp lf := (by simp only [It.of, It.cost, costF]);rw [← h2, h1]
    exact hc)
   exact ⟨n, hn, id, by rw [hx, hq]⟩⟩
open Go.RowKit Go.Dr
theorem alloc3 (w : World) (X Y Z : Obj) : (((w.alloc X).alloc Y).alloc Z).heap[w.heap.size]? = some X ∧ (((w.alloc X).alloc Y).alloc Z).heap[w.heap.size + 1]? = some Y ∧ (((w.alloc X).alloc Y).alloc Z).heap[w.heap.size + 2]? = some Z := by
 have h1 := heap_alloc_new w X;have h2 := heap_alloc_new (w.alloc X) Y;have h3 := heap_alloc_new ((w.alloc X).alloc Y) Z;have s1 : (w.alloc X).heap.size = w.heap.size + 1 := (by simp);have s2 : ((w.alloc X).alloc Y).heap.size = w.heap.size + 2 := (by simp);rw [s1] at h2;rw [s2] at h3;exact ⟨(Below.heap_alloc _ _ _ (by omega)).trans ((Below.heap_alloc _ _ _ (by omega)).trans h1), (Below.heap_alloc _ _ _ (by omega)).trans h2, h3⟩
theorem New_any (most : Int) (h0 : 0 ≤ most) (h1 : most ≤ 1048576) (w : World) :
  Calls Tryz.prog 27 #[.int .i64 most] w fun e w' => e = .returned (.tuple #[Ptr (w.heap.size + 2), .int .i64 0]) ∧ Below w.heap.size w w' ∧ Blk w' w.heap.size 97 (K.zero.cells w.heap.size w.heap.size) ∧ w'.heap[w.heap.size + 1]? = some (.map #[] 0) ∧ Blk w' (w.heap.size + 2) 100 #[.int .i64 most, .int .i64 0, .int .i64 0, Ptr w.heap.size, .map (some (w.heap.size + 1))] := by
 have g1 : decide (most < 0) = false := (by rw [decide_eq_false_iff_not];omega);have g2 : decide ((1048576 : Int) < most) = false := (by rw [decide_eq_false_iff_not];omega);clear h0 h1;have hmm := @run_makeMap Tryz.prog;go_enter Tryz.func27, Tryz.ntmps27
 go_wp2;go_ret2;refine ⟨rfl, ?_, (alloc3 w _ _ _).1, (alloc3 w _ _ _).2.1, (alloc3 w _ _ _).2.2⟩;exact (((Below.refl _ _).alloc (Nat.le_refl _) _).alloc (by simp) _).alloc (by simp;omega) _
open Go.RowKit Go.Dr
theorem sh_new {fb rb : Nat} {w : World} {R : Nat} {most : Int} (h1 : Blk w R 97 (K.zero.cells R R)) (h2 : w.heap[R + 1]? = some (.map #[] 0)) (h3 : Blk w (R + 2) 100 #[.int .i64 most, .int .i64 0, .int .i64 0, Ptr R, .map (some (R + 1))]) (hb : fb ≤ R) (hm : 0 ≤ most) (hm1 : most ≤ 1048576) : Sh fb rb w (R + 2) R (R + 1) most 0 [] where
 blk := h3
 ring := ring_none _ _ _ h1
 map := PMap.made h2
 rows := by simp
 base := by
  rintro k (e | e | e | hk)
  ·omega
  ·omega
  ·omega
  ·cases hk
 room := hm
 most1 := hm1
open Go.RowKit Go.Dr
theorem own21_not {w : World} {k : Nat} {t : TypeId} {xs : Array Value} (h : Blk w k t xs) (h1 : t ≠ 38) (h2 : t ≠ 72) : ¬ Own21 w k := by
 rintro (⟨ys, hy⟩ | ⟨ys, hy⟩)
 ·unfold Blk at h hy
  rw [h] at hy;simp only [Option.some.injEq, Obj.cells.injEq] at hy;exact h1 hy.2.1
 ·unfold Blk at h hy
  rw [h] at hy;simp only [Option.some.injEq, Obj.cells.injEq] at hy;exact h2 hy.2.1
theorem Sh.but21 {fb rb : Nat} {w w' : World} {s R m B : Nat} {most last : Int} {l : List Nd} (h : Sh fb rb w s R m most last l) (hb : But (fun k => B ≤ k ∧ Own21 w k) w w') : Sh fb rb w' s R m most last l := by
 refine h.keep (fun k hk => hb.block k (h.foot_lt hk) fun ho => ?_) fun n hn => (h.rows n hn).block fun g cur hg _ => hb.block g (by rcases hg with hg | hg <;> exact (Array.getElem?_eq_some_iff.1 hg).1) fun ho => ?_
 ·rcases ho.2 with ⟨xs, hx⟩ | ⟨xs, hx⟩
  ·exact h.off hx (by decide) (by decide) hk
  ·exact h.off hx (by decide) (by decide) hk
 ·rcases hg with hg | hg
  ·exact own21_not (show Blk w g _ _ from hg) (by decide) (by decide) ho.2
  ·exact own21_not (show Blk w g _ _ from hg) (by decide) (by decide) ho.2
def Keeps21 (w w' : World) : Prop := ∀ (b : Nat) (t : TypeId) (xs : Array Value), t ≠ 100 → t ≠ 97 → t ≠ 70 → t ≠ 38 → t ≠ 72 → Blk w b t xs → Blk w' b t xs
theorem Keeps21.own {w w' : World} {base : Nat} {e : TypeId} {size : Nat} {v : Value} {n : Nat} {xs : List Value} (h : Keeps21 w w') (ho : w.ownsRow base e size v n xs) (h1 : e ≠ 100) (h2 : e ≠ 97) (h3 : e ≠ 70) (h4 : e ≠ 38) (h5 : e ≠ 72) : w'.ownsRow base e size v n xs :=
 own_block ho fun g cur hg _ => (h g e cur h1 h2 h3 h4 h5 hg).trans hg.symm
theorem Decided.keeps {P : World → En → Int → Bool → List F → Prop} {w w1 w2 w' : World} {B : Nat} (h1 : Below w.heap.size w w1) (h2 : Keeps w1 w2) (hb : But (fun k => B ≤ k ∧ Own21 w2 k) w2 w') : Keeps21 w w' := fun g t xs k1 k2 k3 k4 k5 h => by
 have h2' := h2 g t xs k1 k2 k3 (h.on h1)
 exact h2'.but hb fun ho => own21_not h2' k4 k5 ho.2
abbrev wakeF : List F := [⟨[99, 97, 99, 104, 101, 45, 99, 111, 110, 116, 114, 111, 108], [109, 97, 120, 45, 97, 103, 101, 61, 54, 48], false⟩]
abbrev wakeQ : Rq := ⟨[71, 69, 84], [104, 116, 116, 112], [104], [47], .slice none 0 0⟩
theorem wake_alone : aloneB [71, 69, 84] [] = false := by decide +kernel
theorem wake_kept : keptB wakeQ 200 [] wakeF = true := by
 show storF [71, 69, 84] 200 [] (strip wakeF) = true
 decide +kernel
theorem wake_strip : strip wakeF = wakeF := by decide +kernel
theorem wake_pick : pickOf [] wakeF = [] := by decide +kernel
theorem wake_good21 : goodF [] wakeF 200 5 6 7 = true := by decide +kernel
theorem wake_oi : (saysC []).oi = false := by decide +kernel
theorem run_kind (k id : Int) (a1 a2 a3 a4 a5 a6 a7 : Value) (w : World) : (Instr.field 38 (.agg #[.int .i64 k, .int .i64 id, a1, a2, a3, a4, a5, a6, a7]) 0).run Tryz.prog w = .ok (.int .i64 k) w := by kernel_rfl
theorem wake_lost (id : Int) (q : En) : dealOf [] [71, 69, 84] 7 q id false [] = dealZ 3 := by
 unfold dealOf;rw [if_neg (by simp), if_neg (by rw [wake_oi];simp), if_neg (by decide), if_neg (by simp)]
theorem nil_fo (B : Nat) (w : World) : Fo 60 B w (.slice none 0 0) [] := .inl (Rd.nil _ _ _)
theorem wake_first {fb rb : Nat} {w : World} {s R m : Nat} {most last : Int} (h : Sh fb rb w s R m most last []) :
  Calls Tryz.prog 12 #[Ptr s, wakeQ.val, .int .i64 7] w fun e w' => e = .returned (dealZ 3) ∧ Sh fb rb w' s R m most last [] ∧ Keeps21 w w' ∧ Below w.heap.size w w' := by
 refine (Decide_by 0 (fun w2 q id fd lf => fd = false ∧ lf = [] ∧ Sh fb rb w2 s R m most last [] ∧ Below w.heap.size w w2) (some ⟨s, 0, none⟩) wakeQ [] 7 w (Nat.zero_le _) (nil_fo _ _) (by simp [fsum]) (by decide) ?_).mono ?_
 ·intro w1 hb1
  refine (Find_any fb rb s R m most last [] (keyR wakeQ) (.slice none 0 0) [] w1 (h.below hb1) (Rd.nil _ _ _) (by simp [fsum])).mono ?_;rintro e w2 (⟨-, rfl, hb2⟩ | ⟨a, n, b, v, hl, -⟩)
  ·exact ⟨⟨[], .slice none 0 0, 0, .slice none 0 0, [], 0, 0⟩, 0, false, [], ⟨_, _, _, rfl⟩, nil_fo _ _, by simp [fsum], nil_fo _ _, rfl, Keeps.below hb2, hb2.size, rfl, rfl, (h.below hb1).below hb2, Bl.tr hb1 hb2⟩
  ·simp at hl
 ·rintro e w' (⟨ha, -⟩ | ⟨-, w1, w2, q, id, fd, lf, hb1, hk, ⟨rfl, rfl, hs, hbw⟩, hb, rfl⟩)
  ·rw [show (wakeQ).m = [71, 69, 84] from rfl, wake_alone] at ha
   cases ha
  ·exact ⟨by rw [show (wakeQ).m = [71, 69, 84] from rfl, wake_lost], hs.but21 hb, Decided.keeps (P := fun _ _ _ _ _ => True) hb1 hk hb, hbw.trans (hb.below (fun k hk => hk.1) hbw.size)⟩
theorem wake_nil (w : World) : Calls Tryz.prog 12 #[.pointer none, wakeQ.val, .int .i64 7] w fun e w' => e = .returned (dealZ 3) ∧ Below w.heap.size w w' := by
 refine (Decide_by 0 (fun w2 q id fd lf => fd = false ∧ lf = [] ∧ Below w.heap.size w w2) none wakeQ [] 7 w (Nat.zero_le _) (nil_fo _ _) (by simp [fsum]) (by decide) ?_).mono ?_
 ·intro w1 hb1
  refine (Find_nil (keyR wakeQ) (.slice none 0 0) w1).mono ?_;rintro e w2 ⟨rfl, hb2⟩;exact ⟨⟨[], .slice none 0 0, 0, .slice none 0 0, [], 0, 0⟩, 0, false, [], ⟨_, _, _, rfl⟩, nil_fo _ _, by simp [fsum], nil_fo _ _, rfl, Keeps.below hb2, hb2.size, rfl, rfl, Bl.tr hb1 hb2⟩
 ·rintro e w' (⟨ha, -⟩ | ⟨-, w1, w2, q, id, fd, lf, hb1, hk, ⟨rfl, rfl, hbw⟩, hb, rfl⟩)
  ·rw [show (wakeQ).m = [71, 69, 84] from rfl, wake_alone] at ha
   cases ha
  ·exact ⟨by rw [show (wakeQ).m = [71, 69, 84] from rfl, wake_lost], hbw.trans (hb.below (fun k hk => hk.1) hbw.size)⟩
theorem wake_found {fb rb : Nat} {w : World} {s R m : Nat} {most last : Int} {n : Nd} (h : Sh fb rb w s R m most last [n]) (hfb : fb ≤ w.heap.size) (hx : n.x = ⟨1, keyR wakeQ, [], 200, wakeF, [104, 105], 5, 6⟩) :
  Calls Tryz.prog 12 #[Ptr s, wakeQ.val, .int .i64 7] w fun e w' => (∃ a1 c1 a2 c2, e = .returned (dealV 1 1 (keyR wakeQ) (.slice a1 0 c1) 200 (.slice a2 1 c2) [104, 105] 5 6)) ∧ Keeps21 w w' ∧ Below fb w w' := by
 refine (Decide_by 0 (fun w2 q id fd lf => (∃ a1 c1 a2 c2, q = ⟨keyR wakeQ, .slice a1 0 c1, 200, .slice a2 1 c2, [104, 105], 5, 6⟩) ∧ id = 1 ∧ fd = true ∧ lf = wakeF ∧ Below fb w w2) (some ⟨s, 0, none⟩) wakeQ [] 7 w (Nat.zero_le _) (nil_fo _ _) (by simp [fsum]) (by decide) ?_).mono ?_
 ·intro w1 hb1
  have h1 := h.below hb1;refine (Find_any fb rb s R m most last [n] (keyR wakeQ) (.slice none 0 0) [] w1 h1 (Rd.nil _ _ _) (by simp [fsum])).mono ?_;rintro e w2 (⟨hno, -, -⟩ | ⟨a, n', b, v, hl, -, rfl, hret, hs2, hb2⟩)
  ·exfalso
   revert hno
   simp [bestOf, better, takes, hx, matchP]
  ·have hn : n' = n := by
    have : n' ∈ [n] := (by rw [hl];simp)
    simpa using this
   subst hn;rw [hx] at hret ⊢;obtain ⟨vp, vf, rfl, o1, o2⟩ := hret;obtain ⟨ap, kp, rfl, -⟩ := (Fs.own o1).form;obtain ⟨af, kf, rfl, -⟩ := (Fs.own o2).form;exact ⟨⟨keyR wakeQ, .slice ap 0 kp, 200, .slice af 1 kf, [104, 105], 5, 6⟩, 1, true, wakeF, ⟨_, _, _, rfl⟩, .inr (own_base o2 (Nat.zero_le _)), by decide, nil_fo _ _, rfl, Keeps.but_s h1 hb2, hb2.size, ⟨_, _, _, _, rfl⟩, rfl, rfl, rfl, (hb1.mono hfb).trans (hb2.below h1.base (Nat.le_trans hfb hb1.size))⟩
 ·rintro e w' (⟨ha, -⟩ | ⟨-, w1, w2, q, id, fd, lf, hb1, hk, ⟨⟨a1, c1, a2, c2, rfl⟩, rfl, rfl, rfl, hbw⟩, hb, rfl⟩)
  ·rw [show (wakeQ).m = [71, 69, 84] from rfl, wake_alone] at ha
   cases ha
  ·refine ⟨⟨a1, c1, a2, c2, ?_⟩, Decided.keeps (P := fun _ _ _ _ _ => True) hb1 hk hb, hbw.trans (hb.below (fun k hk => Nat.le_trans hfb hk.1) (Nat.le_trans hfb hbw.size))⟩
   unfold dealOf;rw [if_pos (by rw [wake_good21];rfl)]
open Go.RowKit Go.Dr
theorem blk21 {w w' : World} {g : Nat} {t : TypeId} {xs : Array Value} (h : Keeps21 w w') (hb : Blk w g t xs) (h1 : t ≠ 100) (h2 : t ≠ 97) (h3 : t ≠ 70) (h4 : t ≠ 38) (h5 : t ≠ 72) : Blk w' g t xs := h g t xs h1 h2 h3 h4 h5 hb
theorem awake21_any (w : World) : Calls Tryz.prog 8 #[] w fun e w' => e = .returned (.bool true) ∧ Below w.heap.size w w' := by
 have HN := New_any 1000 (by omega) (by omega) w;go_enter Tryz.func8, Tryz.ntmps8
 go_wp2_with fail;refine HN.mono ?_;rintro e w1 ⟨rfl, hb1, n1, n2, n3⟩;have hs1 : Sh w.heap.size w.heap.size w1 (w.heap.size + 2) w.heap.size (w.heap.size + 1) 1000 0 [] := sh_new n1 n2 n3 (Nat.le_refl _) (by omega) (by omega);obtain ⟨B, hB0⟩ : ∃ B, B = w.heap.size := ⟨_, rfl⟩;rw [← hB0] at hs1 hb1;have HB := Lib.hid hB0;rw [← hB0];clear HN n1 n2 n3 hB0;have hB1 : B ≤ w1.heap.size := (by rw [HB.out];exact hb1.size);obtain ⟨w2, e2⟩ : ∃ w2 : World, w2 = w1.alloc (.cells #[S [71, 69, 84], S [104, 116, 116, 112], S [104], S [47], .slice none 0 0] 28) := ⟨_, rfl⟩;obtain ⟨G, eG⟩ : ∃ G, G = w1.heap.size := ⟨_, rfl⟩;have hQ2 : Blk w2 G 28 #[S [71, 69, 84], S [104, 116, 116, 112], S [104], S [47], .slice none 0 0] := (by rw [e2, eG];exact Blk.new _ _ _);have hb2 : Below w1.heap.size w1 w2 := (by rw [e2];exact (Below.refl _ _).alloc (Nat.le_refl _) _);have HG := Lib.hid eG;have HW2 := Lib.hid e2;clear e2 eG;go_upto_region 3 with fail;rw [← HG.out, ← HW2.out];clear HG HW2;obtain ⟨w3, e3⟩ : ∃ w3 : World, w3 = w2.alloc (.cells (fcells wakeF).toArray 60) := ⟨_, rfl⟩
 have hF3 : Fs w3.heap.size w3 (.slice (some ⟨w2.heap.size, 0, none⟩) 1 1) wakeF := by
  rw [e3];have h1 : Fs (w2.heap.size + 1) (w2.alloc (.cells (fcells wakeF).toArray 60)) (.slice (some ⟨w2.heap.size, 0, none⟩) 1 1) wakeF := Rd.lit w2 60 (fcells wakeF).toArray 3 1 rfl (by decide);exact h1.mono (by simp)
 have hb3 : Below w2.heap.size w2 w3 := (by rw [e3];exact (Below.refl _ _).alloc (Nat.le_refl _) _);have hs3 := (hs1.below hb2).below hb3;have hQ3 := hQ2.on hb3;have hw3 : Below B w w3 := hb1.trans ((hb2.mono hB1).trans (hb3.mono (Nat.le_trans hB1 hb2.size)));have hK := Keep_any wakeQ 200 (.slice (some ⟨w2.heap.size, 0, none⟩) 1 1) [] wakeF [104, 105] 5 6 w3 (Rd.nil _ _ _) hF3 (by simp [fsum]) (by decide) (by decide);simp only [Rq.val] at hK;obtain ⟨x0, x1, x2, x3, x4⟩ := hQ2.c5;go_wp2_with fail
 change Calls _ _ _ (w2.alloc (.cells (fcells wakeF).toArray 60)) _
 rw [← e3];refine hK.mono ?_;rintro e w4 ⟨hb4, (⟨hno, -⟩ | ⟨-, v, rfl, hret⟩)⟩
 ·rw [wake_kept] at hno
  cases hno
 have hit : itemK 0 wakeQ 200 [] wakeF [104, 105] 5 6 = ⟨0, keyR wakeQ, [], 200, wakeF, [104, 105], 5, 6⟩ := by
  unfold itemK;rw [wake_pick, wake_strip]
 rw [hit] at hret;obtain ⟨vp, vf, rfl, o1, o2⟩ := hret;obtain ⟨ap, kp, rfl, -⟩ := (Fs.own o1).form;obtain ⟨af, kf, rfl, -⟩ := (Fs.own o2).form;simp only [List.length_cons, List.length_nil, Nat.zero_add] at o1 o2 ⊢;have hs4 := hs3.below hb4;have hQ4 := hQ3.on hb4;have hB3 : B ≤ w3.heap.size := Nat.le_trans hB1 (Nat.le_trans hb2.size hb3.size);have hw4 : Below B w w4 := hw3.trans (hb4.mono hB3);clear hs1 hs3 hQ2 hQ3 hF3 hb1 hb2 hb3 hK e3 hit x0 x1 x2 x3 x4;obtain ⟨w5, e5⟩ : ∃ w5 : World, w5 = w4.alloc (.cells #[S (keyR wakeQ), .slice ap 0 kp, .int .i64 200, .slice af 1 kf, S [104, 105], .int .i64 5, .int .i64 6] 36) := ⟨_, rfl⟩;obtain ⟨E, eE⟩ : ∃ E, E = w4.heap.size := ⟨_, rfl⟩;have hE5 : Blk w5 E 36 #[S (keyR wakeQ), .slice ap 0 kp, .int .i64 200, .slice af 1 kf, S [104, 105], .int .i64 5, .int .i64 6] := (by rw [e5, eE];exact Blk.new _ _ _);have hb5 : Below w4.heap.size w4 w5 := (by rw [e5];exact (Below.refl _ _).alloc (Nat.le_refl _) _);have HE := Lib.hid eE;have HW5 := Lib.hid e5;clear e5 eE;have hs5 := hs4.below hb5;have hQ5 := hQ4.on hb5;have o1' := own_below o1 hb5
 have o2' := own_below o2 hb5
 have hB4 : B ≤ w4.heap.size := Nat.le_trans hB3 hb4.size;have hw5 : Below B w w5 := hw4.trans (hb5.mono hB4);have hD := wake_first hs5;simp only [Rq.val] at hD;obtain ⟨x0, x1, x2, x3, x4⟩ := hQ5.c5;have hrk := run_kind 3 0 (S []) (.slice none 0 0) (.int .i64 0) (.slice none 0 0) (S []) (.int .i64 0) (.int .i64 0);go_upto_region 4 with fail;rw [← HE.out, ← HW5.out];clear HE HW5;go_wp2_with fail;refine hD.mono ?_;rintro e w6 ⟨rfl, hs6, hk6, hb6⟩;have hQ6 := blk21 hk6 hQ5 (by decide) (by decide) (by decide) (by decide) (by decide);have hE6 := blk21 hk6 hE5 (by decide) (by decide) (by decide) (by decide) (by decide);have p1 := hk6.own o1' (by decide) (by decide) (by decide) (by decide) (by decide);have p2 := hk6.own o2' (by decide) (by decide) (by decide) (by decide) (by decide);have hB5 : B ≤ w5.heap.size := Nat.le_trans hB4 hb5.size;have hw6 : Below B w w6 := hw5.trans (hb6.mono hB5);have hB6 : B ≤ w6.heap.size := Nat.le_trans hB5 hb6.size;clear x0 x1 x2 x3 x4 hD hs4 hs5 hQ4 hQ5 hE5 o1 o2 o1' o2' hk6;obtain ⟨y0, y1, y2, y3, y4, y5, y6⟩ := hE6.c7;have hP := Put_any B B (B + 2) B (B + 1) 1000 0 [] ⟨keyR wakeQ, .slice ap 0 kp, 200, .slice af 1 kf, [104, 105], 5, 6⟩ [] wakeF w6 hs6 hB6 hB6 (fun w' hb => (Fo.but_s (t := 89) (B := 0) (l := []) (.inr (own_base p1 (Nat.zero_le _))) hs6 (fun _ _ => Nat.zero_le _) (Nat.zero_le _) hb (by decide) (by decide)).fs (Nat.zero_le _)) (fun w' hb => (Fo.but_s (t := 60) (B := 0) (l := wakeF) (.inr (own_base p2 (Nat.zero_le _))) hs6 (fun _ _ => Nat.zero_le _) (Nat.zero_le _) hb (by decide) (by decide)).fs (Nat.zero_le _)) (by show (keyR wakeQ).length ≤ _;decide) (by show ([104, 105] : Bytes).length ≤ _;decide) (by decide) (by decide) (by simp) (by omega) 1000 rfl (by show 64 + (keyR wakeQ).length + ([104, 105] : Bytes).length + fsum wakeF + fsum ([] : List F) ≤ _;decide);simp only [En.val] at hP;go_wp2_with fail;refine hP.mono ?_;rintro e w7 ⟨rfl, nd, hnx, -, hs7, hb7⟩;have hs7 : Sh B B w7 (B + 2) B (B + 1) 1000 1 [nd] := hs7;have hnx : nd.x = ⟨1, keyR wakeQ, [], 200, wakeF, [104, 105], 5, 6⟩ := hnx;have hQ7 := hQ6.but hb7 (hs6.off hQ6 (by decide) (by decide));have hw7 : Below B w w7 := hw6.trans (hb7.below hs6.base hB6);have hB7 : B ≤ w7.heap.size := Nat.le_trans hB6 hb7.size;have hD := wake_found hs7 hB7 hnx;simp only [Rq.val] at hD;clear y0 y1 y2 y3 y4 y5 y6 hP hs6 hE6 hQ6 p1 p2 hb7;obtain ⟨x0, x1, x2, x3, x4⟩ := hQ7.c5;go_wp2_with fail;refine hD.mono ?_;rintro e w8 ⟨⟨a1, c1, a2, c2, rfl⟩, hk8, hb8⟩;have hQ8 := blk21 hk8 hQ7 (by decide) (by decide) (by decide) (by decide) (by decide);have hw8 : Below B w w8 := hw7.trans hb8;clear x0 x1 x2 x3 x4 hD hs7 hQ7 hk8 hnx;obtain ⟨w9, e9⟩ : ∃ w9 : World, w9 = w8.alloc (.cells #[.int .i64 1, .int .i64 1, S (keyR wakeQ), .slice a1 0 c1, .int .i64 200, .slice a2 1 c2, S [104, 105], .int .i64 5, .int .i64 6] 38) := ⟨_, rfl⟩;obtain ⟨D, eD⟩ : ∃ D, D = w8.heap.size := ⟨_, rfl⟩;have hD9 : Blk w9 D 38 #[.int .i64 1, .int .i64 1, S (keyR wakeQ), .slice a1 0 c1, .int .i64 200, .slice a2 1 c2, S [104, 105], .int .i64 5, .int .i64 6] := (by rw [e9, eD];exact Blk.new _ _ _)
 have hb9 : Below w8.heap.size w8 w9 := (by rw [e9];exact (Below.refl _ _).alloc (Nat.le_refl _) _);have HD := Lib.hid eD;have HW9 := Lib.hid e9;clear e9 eD;have hQ9 := hQ8.on hb9;have hw9 : Below B w w9 := hw8.trans (hb9.mono (Nat.le_trans hB7 hb8.size));have hNil := wake_nil w9;simp only [Rq.val] at hNil;go_upto_region 8 with fail;rw [← HD.out, ← HW9.out];clear HD HW9;obtain ⟨x0, x1, x2, x3, x4⟩ := hQ9.c5;have y0 := hD9.k0;have y6 : w9.cell? ⟨D, 2 + 4, none⟩ = some (S [104, 105]) := hD9.cell 6;have y6' : w9.cell? ⟨D, 6, none⟩ = some (S [104, 105]) := hD9.cell 6
 go_wp2_with fail;refine hNil.mono ?_;rintro e w10 ⟨rfl, hb10⟩;have hw10 : Below B w w10 := hw9.trans (hb10.mono (Nat.le_trans (Nat.le_trans hB7 hb8.size) hb9.size));go_wp2;go_ret;exact ⟨rfl, by rw [← HB.out];exact hw10⟩
end Go.Proofs.YtahapblgmehngaaGreatDoor
