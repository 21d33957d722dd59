
/- Arguments opened by their types, and a law's post out of 'nothing that was there has turned'. No program in sight. -/
import Derived.Test.YtmbakobindjjmaaGreatDoorBase
import Derived.ProofKit
import Derived.Deep.Slices
import Derived.Deep.Fields
import Derived.Deep.Strs
import Derived.ChangeSame
import Derived.Deep.DeepHandedRow
import Derived.Lay
import Derived.LaidMore
import Derived.SevenTiedAt
import Derived.Stop.Joined
import Derived.Lib.SmallJoins
import Derived.OpenShut
namespace Go.Dr
open Go.RowKit Go.ChangeShapes Go.WideShapes Go.Deep
open Go.ChangeMaps (open_string)

section
variable {H : Type} {enc : TypeId × Value → H} {P : Program}

theorem TrodAll_below (hl : laidOutB P = true) {W W' : World} (hb : Below W.heap.size W W') : ∀ (ts : List TypeId) (vs : List Value) (ds : List (DataW H)) (ps : List MemPlace),
    (ts.all fun t => P.readableRec t && decide (t < P.types.size)) = true → DataW.TrodAll enc P W 0 (fun _ => true) true ts vs ds ps → (∀ x ∈ ps, x.block < W.heap.size) →
    DataW.TrodAll enc P W' 0 (fun b => decide (b < W.heap.size)) true ts vs ds ps
  | [], [], [], _, _, h, _ => h
  | t :: ts, v :: vs, d :: ds, ps, hr, h, hlt => by
    obtain ⟨p, q, h1, h2, rfl⟩ := h
    simp only [List.all_cons, Bool.and_eq_true, decide_eq_true_eq] at hr
    exact ⟨p, q, Below.trod hl hr.1.1 hr.1.2 h1 hb (fun x hx => hlt x (List.mem_append_left _ hx)),
      TrodAll_below hl hb ts vs ds q hr.2 h2 (fun x hx => hlt x (List.mem_append_right _ hx)), rfl⟩

/-- A LAW's POST: it answers true, and below the heap's old size nothing has turned. -/
theorem law_post {f : Func} {s : ChangeSpec} {W W' : World} {args : Array Value} {ds gs : List (DataW H)} {before : List MemPlace} {bt : TypeId}
    (hW : DataW.Whole enc P f.params.toList s.vars false W args.toList ds gs before) (hv : s.vars = []) (hfn : s.fn H (ds ++ gs) = { results := [.lit (.bool true)], args := ds })
    (hres : f.resultTypes = #[bt]) (hbt : P.underlying bt = some .bool) (hl : laidOutB P = true) (hr : (f.params.toList.all fun t => P.readableRec t && decide (t < P.types.size)) = true)
    (hb : Below W.heap.size W W') : s.post enc P f false true false false W args (.bool true) W' := by
  have hlt := fun p hp => DataW.Whole.lt hW p hp
  have hW' := hW
  obtain ⟨p, q, hA, hV, rfl, hfz, hnd⟩ := hW
  rw [hv] at hV
  obtain ⟨rfl, rfl⟩ := trodVars_none hV
  refine ⟨ds, [], _, [], p, [], hW', ?_, ?_, ?_, hb.frame _, fun h => by cases h⟩
  · rw [hfn, hres]
    exact trodAll_mk1 (shut_bool hbt true)
  · rw [hfn]
    exact TrodAll_below hl hb _ _ _ _ hr hA fun x hx => hlt x (by simpa using hx)
  · rw [hfn, hv]
    rfl
variable {w : World} {base : Nat} {spare : Nat → Bool} {held : Bool}

theorem flat_get {α : Type} (cells : α → List Value) (size : Nat) (hlen : ∀ x, (cells x).length = size) (l : List α) (i : Nat) (hi : i < l.length) (j : Nat) (hj : j < size) : (l.flatMap cells)[i * size + j]? = (cells l[i])[j]? := by
  induction l generalizing i with
  | nil => simp at hi
  | cons x l ih =>
    rw [List.flatMap_cons]
    cases i with
    | zero => rw [List.getElem?_append_left (by rw [hlen]; omega)]; simp
    | succ i =>
      have h1 : (i + 1) * size + j = size + (i * size + j) := by rw [Nat.add_mul]; omega
      rw [List.getElem?_append_right (by rw [hlen, h1]; omega), hlen, h1, Nat.add_sub_cancel_left]
      exact ih i (by simpa using hi)
theorem flat_length {α : Type} (cells : α → List Value) (size : Nat) (hlen : ∀ x, (cells x).length = size) (l : List α) : (l.flatMap cells).length = l.length * size := by
  induction l with
  | nil => simp
  | cons x l ih => rw [List.flatMap_cons, List.length_append, hlen, ih, List.length_cons, Nat.add_mul]; omega

theorem weights_at {e : TypeId} {elems : List (DataW H)} (h : (DataW.weightsAll P e elems).all (· ≤ reachBytes) = true) {d : DataW H} (hd : d ∈ elems) : (d.weights P e).all (· ≤ reachBytes) = true := by
  induction elems with
  | nil => cases hd
  | cons y r ih =>
    simp only [DataW.weightsAll, List.all_append, Bool.and_eq_true] at h
    cases hd with
    | head => exact h.1
    | tail _ hd => exact ih h.2 hd

/-- A SLICE, ELEMENT BY ELEMENT: whatever an element's cells are read as. -/
theorem open_seq {α : Type} [Inhabited α] {t e : TypeId} (size : Nat) (cells : α → List Value) (R : α → Prop) (hs0 : 0 < size) (hsize : P.cellsOf e = size) (hlen : ∀ x, (cells x).length = size)
    (hel : ∀ n cs' y, DataW.trod enc P w base spare held n e cs' = some y → (y.1.weights P e).all (· ≤ reachBytes) = true → ∃ x, cs' = cells x ∧ R x)
    {fuel : Nat} {cs : List Value} {x : DataW H × List MemPlace} (ht : P.underlying t = some (.slice e)) (h : DataW.trod enc P w base spare held fuel t cs = some x) (hw : (x.1.weights P t).all (· ≤ reachBytes) = true) :
    ∃ (v : Value) (l : List α), cs = [v] ∧ Rd w.heap.size w size v l.length (l.flatMap cells) ∧ (∀ x ∈ l, R x) ∧ l.length * P.bytesOf e ≤ reachBytes := by
  rcases open_slice ht h with ⟨rfl, rfl⟩ | ⟨a, len, cap, m, n, D, Pl, rfl, hb, hl, hm, hmm, rfl, hi⟩
  · exact ⟨_, [], rfl, Rd.nil _ _ _, by simp, by rw [List.length_nil, Nat.zero_mul]; exact Nat.zero_le _⟩
  · have hlm : len ≤ m := by rw [hmm]; split <;> omega
    simp only [DataW.weights, ht, List.all_cons, List.all_append, Bool.and_eq_true, decide_eq_true_eq] at hw
    have hlb : len * P.bytesOf e ≤ reachBytes := Nat.le_trans (Nat.mul_le_mul_right _ (by simp)) hw.1
    obtain ⟨V, hV⟩ := choose_lt (α := α) (n := len) (p := fun i v => (∀ j, j < size → w.cell? (a.add (i * size + j)) = (cells v)[j]?) ∧ R v) (fun i hil => by
      obtain ⟨cs', h1, h2⟩ := hi i (by omega)
      obtain ⟨v, rfl, hR⟩ := hel _ _ _ h2 (weights_at hw.2.1 (by simp; exact ⟨i, hil, rfl⟩))
      obtain ⟨_, hcl, hat⟩ := World.cells?_some h1
      refine ⟨v, fun j hj => ?_, hR⟩
      rw [← Go.Deep.add_add, ← hsize]
      exact hat j (by omega))
    refine ⟨_, (List.range len).map V, rfl, ?_, ?_, by rw [List.length_map, List.length_range]; exact hlb⟩
    · refine ⟨some a, cap, by simp, by simpa using hl, hm, by rw [flat_length cells size hlen], by simp, fun j u hu => ?_⟩
      have hjl : j < len * size := by
        have := (List.getElem?_eq_some_iff.1 hu).1
        rw [flat_length cells size hlen] at this
        simpa using this
      have hdiv : j / size < len := Nat.div_lt_of_lt_mul (by rw [Nat.mul_comm]; exact hjl)
      have hmod : j % size < size := Nat.mod_lt _ hs0
      have hj : j = j / size * size + j % size := by rw [Nat.mul_comm]; exact (Nat.div_add_mod j size).symm
      have hc := (hV (j / size) hdiv).1 (j % size) hmod
      have hg := flat_get cells size hlen ((List.range len).map V) (j / size) (by simpa using hdiv) (j % size) hmod
      rw [← hj] at hc hg
      rw [hu] at hg
      have hcell : w.cell? (a.add j) = some u := by rw [hc, hg]; simp
      have hblk := World.block_lt_of_cell? w _ hcell
      obtain ⟨b, off, sp⟩ := a
      cases sp with
      | some s =>
        have h00 := (hV 0 (Nat.lt_of_le_of_lt (Nat.zero_le _) hdiv)).1 0 hs0
        have hn : w.cell? ((⟨b, off, some s⟩ : Addr).add (0 * size + 0)) = none := by
          simp only [Nat.zero_mul, Nat.add_zero, Addr.add, if_true, World.cell?]
          split <;> rfl
        rw [hn] at h00
        have h01 := List.getElem?_eq_getElem (l := cells (V 0)) (i := 0) (by rw [hlen]; exact hs0)
        rw [h01] at h00
        cases h00
      | none =>
        rw [Addr.add_lit] at hcell hblk
        exact ⟨b, off, rfl, hblk, hcell⟩
    · intro y hy
      obtain ⟨i, hi', rfl⟩ := List.mem_map.1 hy
      exact (hV i (List.mem_range.1 hi')).2

theorem wf_int {n : Int} (h : (Lit.int .i64 n).wf = true) : -9223372036854775808 ≤ n ∧ n ≤ 9223372036854775807 := by
  simpa [Lit.wf, IntKind.min, IntKind.max, IntKind.signed, IntKind.bits] using h
theorem wf_u8 {n : Int} (h : (Lit.int .u8 n).wf = true) : 0 ≤ n ∧ n ≤ 255 := by
  simpa [Lit.wf, IntKind.min, IntKind.max, IntKind.signed, IntKind.bits] using h
/-- A text. -/
theorem open_S {r : Reach} {b0 : Nat} {t : TypeId} {v : Value} {d : DataW H} {ps : List MemPlace} (ht : P.underlying t = some .string) (hval : Value.okWide P w r b0 t v) (hd : DataW.Trod enc P w base spare held t v d ps)
    (hw : (d.weights P t).all (· ≤ reachBytes) = true) : ∃ l : Bytes, v = S l ∧ l.length ≤ 140737488351232 := by
  obtain ⟨s, rfl, rfl, _, _⟩ := open_string ht hval hd
  refine ⟨s.data.toList, rfl, ?_⟩
  simp only [DataW.weights, reachBytes, List.all_cons, List.all_nil, Bool.and_true] at hw
  exact of_decide_eq_true hw
theorem el_S {t : TypeId} (ht : P.underlying t = some .string) (n : Nat) (cs' : List Value) (y : DataW H × List MemPlace) (h : DataW.trod enc P w base spare held n t cs' = some y) (hw : (y.1.weights P t).all (· ≤ reachBytes) = true) :
    ∃ l : Bytes, cs' = [S l] ∧ l.length ≤ 140737488351232 := by
  obtain ⟨s, rfl, rfl, _⟩ := DataW.trod_string ht h
  refine ⟨s.data.toList, rfl, ?_⟩
  simp only [DataW.weights, reachBytes, List.all_cons, List.all_nil, Bool.and_true] at hw
  exact of_decide_eq_true hw

theorem flat_S (l : List Bytes) : l.flatMap (fun l => [S l]) = l.map S := by
  induction l with
  | nil => rfl
  | cons a l ih => rw [List.flatMap_cons, ih]; rfl

/-- A list of texts. -/
theorem open_Ss {r : Reach} {b0 : Nat} {t e : TypeId} {v : Value} {d : DataW H} {ps : List MemPlace} (ht : P.underlying t = some (.slice e)) (he : P.underlying e = some .string) (hC : P.cellsOf e = 1) (hB : P.bytesOf e = 16)
    (hval : Value.okWide P w r b0 t v) (hd : DataW.Trod enc P w base spare held t v d ps) (hw : (d.weights P t).all (· ≤ reachBytes) = true) :
    ∃ l : List Bytes, Ss w.heap.size w v l ∧ (∀ s ∈ l, s.length ≤ 140737488351232) ∧ l.length * 16 ≤ 140737488351232 := by
  obtain ⟨a, len, cap, rfl⟩ := okWide_slice ht hval
  obtain ⟨fuel, hf⟩ := hd
  obtain ⟨v, l, hv, h1, h2, h3⟩ := open_seq (α := Bytes) 1 (fun l => [S l]) (fun l => l.length ≤ 140737488351232) (by decide) hC (fun _ => rfl) (el_S he) ht hf hw
  simp only [Value.cells, List.cons.injEq, and_true] at hv
  subst hv
  rw [hB] at h3
  refine ⟨l, ?_, h2, h3⟩
  rw [flat_S] at h1
  exact h1

/-- A list of fields. -/
theorem open_Fs {r : Reach} {b0 : Nat} {t e es eb : TypeId} {f0 f1 f2 : Field} {v : Value} {d : DataW H} {ps : List MemPlace} (ht : P.underlying t = some (.slice e)) (he : P.underlying e = some (.struct #[f0, f1, f2]))
    (hs : P.underlying es = some .string) (hb : P.underlying eb = some .bool) (h0 : f0.type = es ∧ f0.offset = 0) (h1 : f1.type = es ∧ f1.offset = 1) (h2 : f2.type = eb ∧ f2.offset = 2) (hC : P.cellsOf e = 3) (hCs : P.cellsOf es = 1) (hCb : P.cellsOf eb = 1) (hB : P.bytesOf e = 40)
    (hval : Value.okWide P w r b0 t v) (hd : DataW.Trod enc P w base spare held t v d ps) (hw : (d.weights P t).all (· ≤ reachBytes) = true) :
    ∃ l : List F, Fs w.heap.size w v l ∧ (∀ f ∈ l, f.n.length ≤ 140737488351232 ∧ f.v.length ≤ 140737488351232) ∧ l.length * 40 ≤ 140737488351232 := by
  obtain ⟨a, len, cap, rfl⟩ := okWide_slice ht hval
  obtain ⟨fuel, hf⟩ := hd
  obtain ⟨v, l, hv, g1, g2, g3⟩ := open_seq (α := F) (hs0 := by decide) 3 F.cells (fun f => f.n.length ≤ 140737488351232 ∧ f.v.length ≤ 140737488351232) hC (fun _ => rfl) (fun n cs' y hy hwy => by
    obtain ⟨y0, y1, y2, n', rfl, hl, t0, t1, t2⟩ := trod_struct3 he hy
    simp only [DataW.weights, he, DataW.weightsEach, List.map_cons, List.map_nil, List.all_append, Bool.and_eq_true, h0.1, h1.1, h2.1] at hwy
    rw [h0.1, h0.2, hCs] at t0
    rw [h1.1, h1.2, hCs] at t1
    rw [h2.1, h2.2, hCb] at t2
    rw [hC] at hl
    match cs', hl with
    | [c0, c1, c2], _ =>
      obtain ⟨s0, e0, b0⟩ := el_S hs n' _ y0 t0 hwy.1
      obtain ⟨s1, e1, b1⟩ := el_S hs n' _ y1 t1 hwy.2.1
      obtain ⟨m, e2, _⟩ := DataW.trod_bool hb t2
      simp at e0 e1 e2
      subst e0 e1 e2
      exact ⟨⟨s0, s1, m⟩, rfl, b0, b1⟩) ht hf hw
  simp only [Value.cells, List.cons.injEq, and_true] at hv
  subst hv
  rw [hB] at g3
  exact ⟨l, g1, g2, g3⟩

end

end Go.Dr
namespace Go.Dr
open Go.RowKit Go.ChangeShapes Go.WideShapes Go.Deep Go.Joins
open Go.ChangeMaps (open_string)

section
variable {H : Type} {enc : TypeId × Value → H} {P : Program} {w : World} {base : Nat} {spare : Nat → Bool} {held : Bool}

/-- The types of a list of fields, known. -/
structure FT (P : Program) (t e es eb : TypeId) : Prop where
  ht : P.underlying t = some (.slice e)
  he : ∃ f0 f1 f2 : Field, P.underlying e = some (.struct #[f0, f1, f2]) ∧ (f0.type = es ∧ f0.offset = 0) ∧ (f1.type = es ∧ f1.offset = 1) ∧ (f2.type = eb ∧ f2.offset = 2)
  hs : P.underlying es = some .string
  hb : P.underlying eb = some .bool
  hC : P.cellsOf e = 3
  hCs : P.cellsOf es = 1
  hCb : P.cellsOf eb = 1
  hB : P.bytesOf e = 40

/-- What is known of a list of fields that came in. -/
def FOk (l : List F) : Prop := (∀ f ∈ l, f.n.length ≤ 140737488351232 ∧ f.v.length ≤ 140737488351232) ∧ l.length * 40 ≤ 140737488351232

theorem el_Fs {t e es eb : TypeId} (T : FT P t e es eb) {n : Nat} {cs' : List Value} {y : DataW H × List MemPlace} (hf : DataW.trod enc P w base spare held n t cs' = some y) (hw : (y.1.weights P t).all (· ≤ reachBytes) = true) :
    ∃ (v : Value) (l : List F), cs' = [v] ∧ Fs w.heap.size w v l ∧ FOk l := by
  obtain ⟨ht, ⟨f0, f1, f2, he, h0, h1, h2⟩, hs, hb, hC, hCs, hCb, hB⟩ := T
  obtain ⟨v, l, hv, g1, g2, g3⟩ := open_seq (α := F) (hs0 := by decide) 3 F.cells (fun f => f.n.length ≤ 140737488351232 ∧ f.v.length ≤ 140737488351232) hC (fun _ => rfl) (fun n cs' y hy hwy => by
    obtain ⟨y0, y1, y2, n', rfl, hl, t0, t1, t2⟩ := trod_struct3 he hy
    simp only [DataW.weights, he, DataW.weightsEach, List.map_cons, List.map_nil, List.all_append, Bool.and_eq_true, h0.1, h1.1, h2.1] at hwy
    rw [h0.1, h0.2, hCs] at t0
    rw [h1.1, h1.2, hCs] at t1
    rw [h2.1, h2.2, hCb] at t2
    rw [hC] at hl
    match cs', hl with
    | [c0, c1, c2], _ =>
      obtain ⟨s0, e0, b0⟩ := el_S hs n' _ y0 t0 hwy.1
      obtain ⟨s1, e1, b1⟩ := el_S hs n' _ y1 t1 hwy.2.1
      obtain ⟨m, e2, _⟩ := DataW.trod_bool hb t2
      simp at e0 e1 e2
      subst e0 e1 e2
      exact ⟨⟨s0, s1, m⟩, rfl, b0, b1⟩) ht hf hw
  rw [hB] at g3
  exact ⟨v, l, hv, g1, g2, g3⟩

theorem el_int {t : TypeId} {q : IntKind} (ht : P.underlying t = some (.int q)) {n : Nat} {cs' : List Value} {y : DataW H × List MemPlace} (h : DataW.trod enc P w base spare held n t cs' = some y) :
    ∃ i : Int, cs' = [.int q i] ∧ (Lit.int q i).wf = true := by
  obtain ⟨i, h1, _, h2⟩ := DataW.trod_int ht h
  exact ⟨i, h1, h2⟩

/-- A request. -/
structure Rq where
  m : Bytes
  s : Bytes
  a : Bytes
  p : Bytes
  v : Value
def Rq.val (r : Rq) : Value := .agg #[S r.m, S r.s, S r.a, S r.p, r.v]
def Rq.Ok (r : Rq) : Prop := r.m.length ≤ 140737488351232 ∧ r.s.length ≤ 140737488351232 ∧ r.a.length ≤ 140737488351232 ∧ r.p.length ≤ 140737488351232

theorem open_R {r : Reach} {b0 : Nat} {t tf e es eb : TypeId} {f0 f1 f2 f3 f4 : Field} {v : Value} {d : DataW H} {ps : List MemPlace} (hs : P.underlying t = some (.struct #[f0, f1, f2, f3, f4])) (hone : oneCellFields P #[f0, f1, f2, f3, f4] = true) (hC : P.cellsOf t = 5)
    (ht : f0.type = es ∧ f1.type = es ∧ f2.type = es ∧ f3.type = es ∧ f4.type = tf) (T : FT P tf e es eb)
    (hval : Value.okWide P w r b0 t v) (hd : DataW.Trod enc P w base spare held t v d ps) (hw : (d.weights P t).all (· ≤ reachBytes) = true) :
    ∃ (q : Rq) (l : List F), v = q.val ∧ q.Ok ∧ Fs w.heap.size w q.v l ∧ FOk l := by
  obtain ⟨cs, rfl, hsz⟩ := okWide_struct hs hval
  obtain ⟨cl⟩ := cs
  match cl, hsz.trans hC with
  | [c0, c1, c2, c3, c4], _ =>
    obtain ⟨fuel, hf⟩ := hd
    obtain ⟨xs, n, _, hx, _, hlen, hg⟩ := DataW.trod_struct hs hf
    obtain ⟨o0, k0⟩ := hone_of hone 0 f0 rfl
    obtain ⟨o1, k1⟩ := hone_of hone 1 f1 rfl
    obtain ⟨o2, k2⟩ := hone_of hone 2 f2 rfl
    obtain ⟨o3, k3⟩ := hone_of hone 3 f3 rfl
    obtain ⟨o4, k4⟩ := hone_of hone 4 f4 rfl
    match xs, hlen with
    | [y0, y1, y2, y3, y4], _ =>
      simp only [Prod.mk.injEq] at hx
      obtain ⟨rfl, -⟩ := hx
      have t0 := by simpa [Value.cells, o0, k0] using hg 0 f0 rfl
      rw [ht.1] at t0
      have t1 := by simpa [Value.cells, o1, k1] using hg 1 f1 rfl
      rw [ht.2.1] at t1
      have t2 := by simpa [Value.cells, o2, k2] using hg 2 f2 rfl
      rw [ht.2.2.1] at t2
      have t3 := by simpa [Value.cells, o3, k3] using hg 3 f3 rfl
      rw [ht.2.2.2.1] at t3
      have t4 := by simpa [Value.cells, o4, k4] using hg 4 f4 rfl
      rw [ht.2.2.2.2] at t4
      simp only [DataW.weights, hs, DataW.weightsEach, List.map_cons, List.map_nil, List.all_append, Bool.and_eq_true, ht.1, ht.2.1, ht.2.2.1, ht.2.2.2.1, ht.2.2.2.2] at hw
      obtain ⟨w0, w1, w2, w3, w4, -⟩ := hw
      obtain ⟨s0, e0, b0⟩ := el_S T.hs _ _ y0 t0 w0
      obtain ⟨s1, e1, b1⟩ := el_S T.hs _ _ y1 t1 w1
      obtain ⟨s2, e2, b2⟩ := el_S T.hs _ _ y2 t2 w2
      obtain ⟨s3, e3, b3⟩ := el_S T.hs _ _ y3 t3 w3
      obtain ⟨vf, l, e4, h4, b4⟩ := el_Fs T t4 w4
      simp only [List.cons.injEq, and_true] at e0 e1 e2 e3 e4
      subst e0 e1 e2 e3 e4
      exact ⟨⟨s0, s1, s2, s3, c4⟩, l, rfl, ⟨b0, b1, b2, b3⟩, h4, b4⟩

/-- An answer that is kept. -/
structure En where
  key : Bytes
  vp : Value
  st : Int
  vf : Value
  body : Bytes
  asked : Int
  came : Int
def En.val (e : En) : Value := .agg #[S e.key, e.vp, .int .i64 e.st, e.vf, S e.body, .int .i64 e.asked, .int .i64 e.came]
def I64 (n : Int) : Prop := -9223372036854775808 ≤ n ∧ n ≤ 9223372036854775807
def En.Ok (e : En) : Prop := e.key.length ≤ 140737488351232 ∧ I64 e.st ∧ e.body.length ≤ 140737488351232 ∧ I64 e.asked ∧ I64 e.came

theorem open_E {r : Reach} {b0 : Nat} {t tp tf ep ef es eb ti tl : TypeId} {f0 f1 f2 f3 f4 f5 f6 : Field} {v : Value} {d : DataW H} {ps : List MemPlace} (hs : P.underlying t = some (.struct #[f0, f1, f2, f3, f4, f5, f6])) (hone : oneCellFields P #[f0, f1, f2, f3, f4, f5, f6] = true) (hC : P.cellsOf t = 7)
    (ht : f0.type = es ∧ f1.type = tp ∧ f2.type = ti ∧ f3.type = tf ∧ f4.type = es ∧ f5.type = tl ∧ f6.type = tl) (TP : FT P tp ep es eb) (TF : FT P tf ef es eb) (hi : P.underlying ti = some (.int .i64)) (hl : P.underlying tl = some (.int .i64))
    (hval : Value.okWide P w r b0 t v) (hd : DataW.Trod enc P w base spare held t v d ps) (hw : (d.weights P t).all (· ≤ reachBytes) = true) :
    ∃ (q : En) (lp lf : List F), v = q.val ∧ q.Ok ∧ Fs w.heap.size w q.vp lp ∧ FOk lp ∧ Fs w.heap.size w q.vf lf ∧ FOk lf := by
  obtain ⟨cs, rfl, hsz⟩ := okWide_struct hs hval
  obtain ⟨cl⟩ := cs
  match cl, hsz.trans hC with
  | [c0, c1, c2, c3, c4, c5, c6], _ =>
    obtain ⟨fuel, hf⟩ := hd
    obtain ⟨xs, n, _, hx, _, hlen, hg⟩ := DataW.trod_struct hs hf
    obtain ⟨o0, k0⟩ := hone_of hone 0 f0 rfl
    obtain ⟨o1, k1⟩ := hone_of hone 1 f1 rfl
    obtain ⟨o2, k2⟩ := hone_of hone 2 f2 rfl
    obtain ⟨o3, k3⟩ := hone_of hone 3 f3 rfl
    obtain ⟨o4, k4⟩ := hone_of hone 4 f4 rfl
    obtain ⟨o5, k5⟩ := hone_of hone 5 f5 rfl
    obtain ⟨o6, k6⟩ := hone_of hone 6 f6 rfl
    match xs, hlen with
    | [y0, y1, y2, y3, y4, y5, y6], _ =>
      simp only [Prod.mk.injEq] at hx
      obtain ⟨rfl, -⟩ := hx
      obtain ⟨ht0, ht1, ht2, ht3, ht4, ht5, ht6⟩ := ht
      have t0 := by simpa [Value.cells, o0, k0] using hg 0 f0 rfl
      rw [ht0] at t0
      have t1 := by simpa [Value.cells, o1, k1] using hg 1 f1 rfl
      rw [ht1] at t1
      have t2 := by simpa [Value.cells, o2, k2] using hg 2 f2 rfl
      rw [ht2] at t2
      have t3 := by simpa [Value.cells, o3, k3] using hg 3 f3 rfl
      rw [ht3] at t3
      have t4 := by simpa [Value.cells, o4, k4] using hg 4 f4 rfl
      rw [ht4] at t4
      have t5 := by simpa [Value.cells, o5, k5] using hg 5 f5 rfl
      rw [ht5] at t5
      have t6 := by simpa [Value.cells, o6, k6] using hg 6 f6 rfl
      rw [ht6] at t6
      simp only [DataW.weights, hs, DataW.weightsEach, List.map_cons, List.map_nil, List.all_append, Bool.and_eq_true, ht0, ht1, ht2, ht3, ht4, ht5, ht6] at hw
      obtain ⟨w0, w1, w2, w3, w4, w5, w6, -⟩ := hw
      obtain ⟨s0, e0, b0⟩ := el_S TF.hs _ _ y0 t0 w0
      obtain ⟨vp, lp, e1, h1, b1⟩ := el_Fs TP t1 w1
      obtain ⟨i2, e2, b2⟩ := el_int hi t2
      obtain ⟨vf, lf, e3, h3, b3⟩ := el_Fs TF t3 w3
      obtain ⟨s4, e4, b4⟩ := el_S TF.hs _ _ y4 t4 w4
      obtain ⟨i5, e5, b5⟩ := el_int hl t5
      obtain ⟨i6, e6, b6⟩ := el_int hl t6
      simp only [List.cons.injEq, and_true] at e0 e1 e2 e3 e4 e5 e6
      subst e0 e1 e2 e3 e4 e5 e6
      exact ⟨⟨s0, c1, i2, c3, s4, i5, i6⟩, lp, lf, rfl, ⟨b0, wf_int b2, b4, wf_int b5, wf_int b6⟩, h1, b1, h3, b3⟩

theorem open_P {r : Reach} {b0 : Nat} {t e es eb : TypeId} {v : Value} {d : DataW H} {ps : List MemPlace} (T : FT P t e es eb)
    (hval : Value.okWide P w r b0 t v) (hd : DataW.Trod enc P w base spare held t v d ps) (hw : (d.weights P t).all (· ≤ reachBytes) = true) : ∃ l : List F, Fs w.heap.size w v l ∧ FOk l := by
  obtain ⟨a, len, cap, rfl⟩ := okWide_slice T.ht hval
  obtain ⟨fuel, hf⟩ := hd
  obtain ⟨v, l, hv, h1, h2⟩ := el_Fs T hf hw
  simp only [Value.cells, List.cons.injEq, and_true] at hv
  subst hv
  exact ⟨l, h1, h2⟩

theorem open_B {r : Reach} {b0 : Nat} {t : TypeId} {v : Value} {d : DataW H} {ps : List MemPlace} (ht : P.underlying t = some .bool) (hval : Value.okWide P w r b0 t v) (hd : DataW.Trod enc P w base spare held t v d ps) : ∃ b : Bool, v = .bool b := by
  obtain ⟨b, rfl, -⟩ := open_bool ht hval hd
  exact ⟨b, rfl⟩

theorem open_G {r : Reach} {b0 : Nat} {t es eb : TypeId} {f0 f1 f2 : Field} {v : Value} {d : DataW H} {ps : List MemPlace} (hs : P.underlying t = some (.struct #[f0, f1, f2])) (hone : oneCellFields P #[f0, f1, f2] = true) (hC : P.cellsOf t = 3)
    (ht : f0.type = es ∧ f1.type = es ∧ f2.type = eb) (hes : P.underlying es = some .string) (heb : P.underlying eb = some .bool)
    (hval : Value.okWide P w r b0 t v) (hd : DataW.Trod enc P w base spare held t v d ps) (hw : (d.weights P t).all (· ≤ reachBytes) = true) :
    ∃ f : F, v = .agg #[S f.n, S f.v, .bool f.m] ∧ f.n.length ≤ 140737488351232 ∧ f.v.length ≤ 140737488351232 := by
  obtain ⟨cs, rfl, hsz⟩ := okWide_struct hs hval
  obtain ⟨cl⟩ := cs
  match cl, hsz.trans hC with
  | [c0, c1, c2], _ =>
    obtain ⟨fuel, hf⟩ := hd
    obtain ⟨xs, n, _, hx, _, hlen, hg⟩ := DataW.trod_struct hs hf
    obtain ⟨o0, k0⟩ := hone_of hone 0 f0 rfl
    obtain ⟨o1, k1⟩ := hone_of hone 1 f1 rfl
    obtain ⟨o2, k2⟩ := hone_of hone 2 f2 rfl
    match xs, hlen with
    | [y0, y1, y2], _ =>
      simp only [Prod.mk.injEq] at hx
      obtain ⟨rfl, -⟩ := hx
      have t0 := by simpa [Value.cells, o0, k0] using hg 0 f0 rfl
      rw [ht.1] at t0
      have t1 := by simpa [Value.cells, o1, k1] using hg 1 f1 rfl
      rw [ht.2.1] at t1
      have t2 := by simpa [Value.cells, o2, k2] using hg 2 f2 rfl
      rw [ht.2.2] at t2
      simp only [DataW.weights, hs, DataW.weightsEach, List.map_cons, List.map_nil, List.all_append, Bool.and_eq_true, ht.1, ht.2.1, ht.2.2] at hw
      obtain ⟨w0, w1, w2, -⟩ := hw
      obtain ⟨s0, e0, b0⟩ := el_S hes _ _ y0 t0 w0
      obtain ⟨s1, e1, b1⟩ := el_S hes _ _ y1 t1 w1
      obtain ⟨m, e2, _⟩ := DataW.trod_bool heb t2
      simp at e0 e1 e2
      subst e0 e1 e2
      exact ⟨⟨s0, s1, m⟩, rfl, b0, b1⟩

theorem wf_u16 {n : Int} (h : (Lit.int .u16 n).wf = true) : 0 ≤ n ∧ n ≤ 65535 := by
  simpa [Lit.wf, IntKind.min, IntKind.max, IntKind.signed, IntKind.bits] using h
theorem wf_u32 {n : Int} (h : (Lit.int .u32 n).wf = true) : 0 ≤ n ∧ n ≤ 4294967295 := by
  simpa [Lit.wf, IntKind.min, IntKind.max, IntKind.signed, IntKind.bits] using h
end
end Go.Dr
namespace Go.Dr
open Go.RowKit Go.ChangeShapes Go.WideShapes Go.Deep
section
variable {H : Type} {enc : TypeId × Value → H} {P : Program} {w : World} {base : Nat} {spare : Nat → Bool} {held : Bool}
theorem open_D {r : Reach} {b0 : Nat} {t e : TypeId} {v : Value} {d : DataW H} {ps : List MemPlace} (ht : P.underlying t = some (.array 2 e)) (he : P.underlying e = some (.int .i64)) (hC : P.cellsOf t = 2) (hCe : P.cellsOf e = 1)
    (hval : Value.okWide P w r b0 t v) (hd : DataW.Trod enc P w base spare held t v d ps) : ∃ x y : Int, v = .agg #[.int .i64 x, .int .i64 y] ∧ I64 x ∧ I64 y := by
  have hv := hval
  simp only [Value.okWide, ht] at hv
  obtain ⟨cs, rfl, hsz, _⟩ := hv
  obtain ⟨cl⟩ := cs
  match cl, hsz.trans hC with
  | [c0, c1], _ =>
    obtain ⟨fuel, hf⟩ := hd
    obtain ⟨xs, m, _, _, _, hlen, hg⟩ := DataW.trod_array ht hf
    match xs, hlen with
    | [y0, y1], _ =>
      have t0 := hg 0 (by omega)
      have t1 := hg 1 (by omega)
      rw [hCe] at t0 t1
      simp [Value.cells] at t0 t1
      obtain ⟨x, e0, w0⟩ := el_int he t0
      obtain ⟨y, e1, w1⟩ := el_int he t1
      simp only [List.cons.injEq, and_true] at e0 e1
      subst e0 e1
      exact ⟨x, y, rfl, wf_int w0, wf_int w1⟩
end
end Go.Dr
