/- Parts of the proof of DealDecides_holds: the texts Open Ft Shelf Oct. -/
import Derived.ChangeSame
import Derived.Deep.DeepHandedRow
import Derived.Deep.Fields
import Derived.Deep.Slices
import Derived.Deep.Strs
import Derived.LaidMore
import Derived.Lay
import Derived.Lib.SmallJoins
import Derived.OpenShut
import Derived.ProofKit
import Derived.SevenTiedAt
import Derived.Stop.Joined
import Derived.Shelf.LaysM
import Derived.Shelf.Slices.CompactS
import Derived.Shelf.Slices.In.SortNone
import Derived.Shelf.Small.Strs
import Derived.Shelf.Small.Utf8
import Derived.Shelf.Small.Wraps
import Derived.Shelf.Sort.Plain
import Derived.Shelf.Strings.AsciiSet
import Derived.Shelf.Strings.Builder1
import Derived.Shelf.Strings.Builder2
import Derived.Shelf.Strings.Cut
import Derived.Shelf.Strings.OnBuilder
import Derived.Shelf.Strings.Prefix
import Derived.Shelf.Strings.Runes
import Derived.Shelf.Strings.Search1
import Derived.Shelf.Strings.Search2
import Derived.Shelf.Strings.Shaped
import Derived.Shelf.Strings.Trim
import Derived.Shelf.Unicode.DecodeSlow
import Derived.Shelf.Strings.SlTrimAscii
import Derived.Test.YtahapblgmehngaaGreatDoorE1
import Derived.Test.YtahapblgmehngaaGreatDoorChecked
import Derived.Test.YtahapblgmehngaaGreatDoorProg
import Derived.Test.YtahapblgmehngaaGreatDoorRows
set_option linter.unusedSimpArgs false
set_option linter.unusedVariables false
set_option linter.unnecessarySimpa false
set_option maxRecDepth 100000
set_option maxHeartbeats 64000000
namespace Go.Dr
open Go.RowKit Go.ChangeShapes Go.WideShapes Go.Deep
open Go.ChangeMaps (open_string)
section
variable {H : Type} {enc : TypeId × Value → H} {P : Program}
theorem TrodAll_below (hl : laidOutB P = true) {W W' : World} (hb : Below W.heap.size W W') : ∀ (ts : List TypeId) (vs : List Value) (ds : List (DataW H)) (ps : List MemPlace),
    (ts.all fun t => P.readableRec t && decide (t < P.types.size)) = true → DataW.TrodAll enc P W 0 (fun _ => true) true ts vs ds ps → (∀ x ∈ ps, x.block < W.heap.size) →
    DataW.TrodAll enc P W' 0 (fun b => decide (b < W.heap.size)) true ts vs ds ps
  | [], [], [], _, _, h, _ => h
  | t :: ts, v :: vs, d :: ds, ps, hr, h, hlt => by
    obtain ⟨p, q, h1, h2, rfl⟩ := h;simp only [List.all_cons, Bool.and_eq_true, decide_eq_true_eq] at hr
    exact ⟨p, q, Below.trod hl hr.1.1 hr.1.2 h1 hb (fun x hx => hlt x (List.mem_append_left _ hx)),
      TrodAll_below hl hb ts vs ds q hr.2 h2 (fun x hx => hlt x (List.mem_append_right _ hx)), rfl⟩
theorem law_post {f : Func} {s : ChangeSpec} {W W' : World} {args : Array Value} {ds gs : List (DataW H)} {before : List MemPlace} {bt : TypeId}
  (hW : DataW.Whole enc P f.params.toList s.vars false W args.toList ds gs before) (hv : s.vars = []) (hfn : s.fn H (ds ++ gs) = { results := [.lit (.bool true)], args := ds })
  (hres : f.resultTypes = #[bt]) (hbt : P.underlying bt = some .bool) (hl : laidOutB P = true) (hr : (f.params.toList.all fun t => P.readableRec t && decide (t < P.types.size)) = true)
  (hb : Below W.heap.size W W') : s.post enc P f false true false false W args (.bool true) W' := by
 have hlt := fun p hp => DataW.Whole.lt hW p hp
 have hW' := hW
 obtain ⟨p, q, hA, hV, rfl, hfz, hnd⟩ := hW;rw [hv] at hV;obtain ⟨rfl, rfl⟩ := trodVars_none hV;refine ⟨ds, [], _, [], p, [], hW', ?_, ?_, ?_, hb.frame _, fun h => by cases h⟩
 ·rw [hfn, hres]
  exact trodAll_mk1 (shut_bool hbt true)
 ·rw [hfn]
  exact TrodAll_below hl hb _ _ _ _ hr hA fun x hx => hlt x (by simpa using hx)
 ·rw [hfn, hv]
  rfl
variable {w : World} {base : Nat} {spare : Nat → Bool} {held : Bool}
theorem flat_get {α : Type} (cells : α → List Value) (size : Nat) (hlen : ∀ x, (cells x).length = size) (l : List α) (i : Nat) (hi : i < l.length) (j : Nat) (hj : j < size) : (l.flatMap cells)[i * size + j]? = (cells l[i])[j]? := by
 induction l generalizing i with
 | nil => simp at hi
 | cons x l ih =>
  rw [List.flatMap_cons]
  cases i with
  | zero => rw [List.getElem?_append_left (by rw [hlen];omega)];simp
  | succ i =>
   have h1 : (i + 1) * size + j = size + (i * size + j) := (by rw [Nat.add_mul];omega);rw [List.getElem?_append_right (by rw [hlen, h1];omega), hlen, h1, Nat.add_sub_cancel_left];exact ih i (by simpa using hi)
theorem flat_length {α : Type} (cells : α → List Value) (size : Nat) (hlen : ∀ x, (cells x).length = size) (l : List α) : (l.flatMap cells).length = l.length * size := by
 induction l with
 | nil => simp
 | cons x l ih => rw [List.flatMap_cons, List.length_append, hlen, ih, List.length_cons, Nat.add_mul];omega
theorem weights_at {e : TypeId} {elems : List (DataW H)} (h : (DataW.weightsAll P e elems).all (· ≤ reachBytes) = true) {d : DataW H} (hd : d ∈ elems) : (d.weights P e).all (· ≤ reachBytes) = true := by
 induction elems with
 | nil => cases hd
 | cons y r ih =>
  simp only [DataW.weightsAll, List.all_append, Bool.and_eq_true] at h
  cases hd with
  | head => exact h.1
  | tail _ hd => exact ih h.2 hd
theorem open_seq {α : Type} [Inhabited α] {t e : TypeId} (size : Nat) (cells : α → List Value) (R : α → Prop) (hs0 : 0 < size) (hsize : P.cellsOf e = size) (hlen : ∀ x, (cells x).length = size)
  (hel : ∀ n cs' y, DataW.trod enc P w base spare held n e cs' = some y → (y.1.weights P e).all (· ≤ reachBytes) = true → ∃ x, cs' = cells x ∧ R x)
  {fuel : Nat} {cs : List Value} {x : DataW H × List MemPlace} (ht : P.underlying t = some (.slice e)) (h : DataW.trod enc P w base spare held fuel t cs = some x) (hw : (x.1.weights P t).all (· ≤ reachBytes) = true) :
  ∃ (v : Value) (l : List α), cs = [v] ∧ Rd w.heap.size w size v l.length (l.flatMap cells) ∧ (∀ x ∈ l, R x) ∧ l.length * P.bytesOf e ≤ reachBytes := by
 rcases open_slice ht h with ⟨rfl, rfl⟩ | ⟨a, len, cap, m, n, D, Pl, rfl, hb, hl, hm, hmm, rfl, hi⟩
 ·exact ⟨_, [], rfl, Rd.nil _ _ _, by simp, by rw [List.length_nil, Nat.zero_mul];exact Nat.zero_le _⟩
 ·have hlm : len ≤ m := by rw [hmm];split <;> omega
  simp only [DataW.weights, ht, List.all_cons, List.all_append, Bool.and_eq_true, decide_eq_true_eq] at hw;have hlb : len * P.bytesOf e ≤ reachBytes := Nat.le_trans (Nat.mul_le_mul_right _ (by simp)) hw.1
  obtain ⟨V, hV⟩ := choose_lt (α := α) (n := len) (p := fun i v => (∀ j, j < size → w.cell? (a.add (i * size + j)) = (cells v)[j]?) ∧ R v) (fun i hil => by
   obtain ⟨cs', h1, h2⟩ := hi i (by omega);obtain ⟨v, rfl, hR⟩ := hel _ _ _ h2 (weights_at hw.2.1 (by simp;exact ⟨i, hil, rfl⟩));obtain ⟨_, hcl, hat⟩ := World.cells?_some h1;refine ⟨v, fun j hj => ?_, hR⟩;rw [← Go.Deep.add_add, ← hsize]
   exact hat j (by omega))
  refine ⟨_, (List.range len).map V, rfl, ?_, ?_, by rw [List.length_map, List.length_range];exact hlb⟩
  ·refine ⟨some a, cap, by simp, by simpa using hl, hm, by rw [flat_length cells size hlen], by simp, fun j u hu => ?_⟩
   have hjl : j < len * size := by
    have := (List.getElem?_eq_some_iff.1 hu).1
    rw [flat_length cells size hlen] at this;simpa using this
   have hdiv : j / size < len := Nat.div_lt_of_lt_mul (by rw [Nat.mul_comm];exact hjl);have hmod : j % size < size := Nat.mod_lt _ hs0;have hj : j = j / size * size + j % size := (by rw [Nat.mul_comm];exact (Nat.div_add_mod j size).symm);have hc := (hV (j / size) hdiv).1 (j % size) hmod;have hg := flat_get cells size hlen ((List.range len).map V) (j / size) (by simpa using hdiv) (j % size) hmod;rw [← hj] at hc hg;rw [hu] at hg;have hcell : w.cell? (a.add j) = some u := (by rw [hc, hg];simp);have hblk := World.block_lt_of_cell? w _ hcell;obtain ⟨b, off, sp⟩ := a
   cases sp with
   | some s =>
    have h00 := (hV 0 (Nat.lt_of_le_of_lt (Nat.zero_le _) hdiv)).1 0 hs0
    have hn : w.cell? ((⟨b, off, some s⟩ : Addr).add (0 * size + 0)) = none := by
     simp only [Nat.zero_mul, Nat.add_zero, Addr.add, if_true, World.cell?]
     split <;> rfl
    rw [hn] at h00;have h01 := List.getElem?_eq_getElem (l := cells (V 0)) (i := 0) (by rw [hlen];exact hs0);rw [h01] at h00
    cases h00
   | none =>
    rw [Addr.add_lit] at hcell hblk;exact ⟨b, off, rfl, hblk, hcell⟩
  ·intro y hy
   obtain ⟨i, hi', rfl⟩ := List.mem_map.1 hy;exact (hV i (List.mem_range.1 hi')).2
theorem wf_int {n : Int} (h : (Lit.int .i64 n).wf = true) : -9223372036854775808 ≤ n ∧ n ≤ 9223372036854775807 := by
 simpa [Lit.wf, IntKind.min, IntKind.max, IntKind.signed, IntKind.bits] using h
theorem el_S {t : TypeId} (ht : P.underlying t = some .string) (n : Nat) (cs' : List Value) (y : DataW H × List MemPlace) (h : DataW.trod enc P w base spare held n t cs' = some y) (hw : (y.1.weights P t).all (· ≤ reachBytes) = true) :
  ∃ l : Bytes, cs' = [S l] ∧ l.length ≤ 140737488351232 := by
 obtain ⟨s, rfl, rfl, _⟩ := DataW.trod_string ht h;refine ⟨s.data.toList, rfl, ?_⟩;simp only [DataW.weights, reachBytes, List.all_cons, List.all_nil, Bool.and_true] at hw;exact of_decide_eq_true hw
theorem open_Fs {r : Reach} {b0 : Nat} {t e es eb : TypeId} {f0 f1 f2 : Field} {v : Value} {d : DataW H} {ps : List MemPlace} (ht : P.underlying t = some (.slice e)) (he : P.underlying e = some (.struct #[f0, f1, f2]))
  (hs : P.underlying es = some .string) (hb : P.underlying eb = some .bool) (h0 : f0.type = es ∧ f0.offset = 0) (h1 : f1.type = es ∧ f1.offset = 1) (h2 : f2.type = eb ∧ f2.offset = 2) (hC : P.cellsOf e = 3) (hCs : P.cellsOf es = 1) (hCb : P.cellsOf eb = 1) (hB : P.bytesOf e = 40)
  (hval : Value.okWide P w r b0 t v) (hd : DataW.Trod enc P w base spare held t v d ps) (hw : (d.weights P t).all (· ≤ reachBytes) = true) :
  ∃ l : List F, Fs w.heap.size w v l ∧ (∀ f ∈ l, f.n.length ≤ 140737488351232 ∧ f.v.length ≤ 140737488351232) ∧ l.length * 40 ≤ 140737488351232 := by
 obtain ⟨a, len, cap, rfl⟩ := okWide_slice ht hval;obtain ⟨fuel, hf⟩ := hd
 obtain ⟨v, l, hv, g1, g2, g3⟩ := open_seq (α := F) (hs0 := by decide) 3 F.cells (fun f => f.n.length ≤ 140737488351232 ∧ f.v.length ≤ 140737488351232) hC (fun _ => rfl) (fun n cs' y hy hwy => by
  obtain ⟨y0, y1, y2, n', rfl, hl, t0, t1, t2⟩ := trod_struct3 he hy;simp only [DataW.weights, he, DataW.weightsEach, List.map_cons, List.map_nil, List.all_append, Bool.and_eq_true, h0.1, h1.1, h2.1] at hwy;rw [h0.1, h0.2, hCs] at t0;rw [h1.1, h1.2, hCs] at t1;rw [h2.1, h2.2, hCb] at t2;rw [hC] at hl
  match cs', hl with
  | [c0, c1, c2], _ =>
   obtain ⟨s0, e0, b0⟩ := el_S hs n' _ y0 t0 hwy.1;obtain ⟨s1, e1, b1⟩ := el_S hs n' _ y1 t1 hwy.2.1;obtain ⟨m, e2, _⟩ := DataW.trod_bool hb t2;simp at e0 e1 e2
   subst e0 e1 e2
   exact ⟨⟨s0, s1, m⟩, rfl, b0, b1⟩) ht hf hw
 simp only [Value.cells, List.cons.injEq, and_true] at hv;subst hv;rw [hB] at g3;exact ⟨l, g1, g2, g3⟩
end
open Go.RowKit Go.ChangeShapes Go.WideShapes Go.Deep Go.Joins
open Go.ChangeMaps (open_string)
section
variable {H : Type} {enc : TypeId × Value → H} {P : Program} {w : World} {base : Nat} {spare : Nat → Bool} {held : Bool}
structure FT (P : Program) (t e es eb : TypeId) : Prop where
 ht : P.underlying t = some (.slice e)
 he : ∃ f0 f1 f2 : Field, P.underlying e = some (.struct #[f0, f1, f2]) ∧ (f0.type = es ∧ f0.offset = 0) ∧ (f1.type = es ∧ f1.offset = 1) ∧ (f2.type = eb ∧ f2.offset = 2)
 hs : P.underlying es = some .string
 hb : P.underlying eb = some .bool
 hC : P.cellsOf e = 3
 hCs : P.cellsOf es = 1
 hCb : P.cellsOf eb = 1
 hB : P.bytesOf e = 40
def FOk (l : List F) : Prop := (∀ f ∈ l, f.n.length ≤ 140737488351232 ∧ f.v.length ≤ 140737488351232) ∧ l.length * 40 ≤ 140737488351232
theorem el_Fs {t e es eb : TypeId} (T : FT P t e es eb) {n : Nat} {cs' : List Value} {y : DataW H × List MemPlace} (hf : DataW.trod enc P w base spare held n t cs' = some y) (hw : (y.1.weights P t).all (· ≤ reachBytes) = true) :
  ∃ (v : Value) (l : List F), cs' = [v] ∧ Fs w.heap.size w v l ∧ FOk l := by
 obtain ⟨ht, ⟨f0, f1, f2, he, h0, h1, h2⟩, hs, hb, hC, hCs, hCb, hB⟩ := T
 obtain ⟨v, l, hv, g1, g2, g3⟩ := open_seq (α := F) (hs0 := by decide) 3 F.cells (fun f => f.n.length ≤ 140737488351232 ∧ f.v.length ≤ 140737488351232) hC (fun _ => rfl) (fun n cs' y hy hwy => by
  obtain ⟨y0, y1, y2, n', rfl, hl, t0, t1, t2⟩ := trod_struct3 he hy;simp only [DataW.weights, he, DataW.weightsEach, List.map_cons, List.map_nil, List.all_append, Bool.and_eq_true, h0.1, h1.1, h2.1] at hwy;rw [h0.1, h0.2, hCs] at t0;rw [h1.1, h1.2, hCs] at t1;rw [h2.1, h2.2, hCb] at t2;rw [hC] at hl
  match cs', hl with
  | [c0, c1, c2], _ =>
   obtain ⟨s0, e0, b0⟩ := el_S hs n' _ y0 t0 hwy.1;obtain ⟨s1, e1, b1⟩ := el_S hs n' _ y1 t1 hwy.2.1;obtain ⟨m, e2, _⟩ := DataW.trod_bool hb t2;simp at e0 e1 e2
   subst e0 e1 e2
   exact ⟨⟨s0, s1, m⟩, rfl, b0, b1⟩) ht hf hw
 rw [hB] at g3;exact ⟨v, l, hv, g1, g2, g3⟩
theorem el_int {t : TypeId} {q : IntKind} (ht : P.underlying t = some (.int q)) {n : Nat} {cs' : List Value} {y : DataW H × List MemPlace} (h : DataW.trod enc P w base spare held n t cs' = some y) :
  ∃ i : Int, cs' = [.int q i] ∧ (Lit.int q i).wf = true := by
 obtain ⟨i, h1, _, h2⟩ := DataW.trod_int ht h;exact ⟨i, h1, h2⟩
structure Rq where
 m : Bytes
 s : Bytes
 a : Bytes
 p : Bytes
 v : Value
def Rq.val (r : Rq) : Value := .agg #[S r.m, S r.s, S r.a, S r.p, r.v]
def Rq.Ok (r : Rq) : Prop := r.m.length ≤ 140737488351232 ∧ r.s.length ≤ 140737488351232 ∧ r.a.length ≤ 140737488351232 ∧ r.p.length ≤ 140737488351232
structure En where
 key : Bytes
 vp : Value
 st : Int
 vf : Value
 body : Bytes
 asked : Int
 came : Int
def En.val (e : En) : Value := .agg #[S e.key, e.vp, .int .i64 e.st, e.vf, S e.body, .int .i64 e.asked, .int .i64 e.came]
def I64 (n : Int) : Prop := -9223372036854775808 ≤ n ∧ n ≤ 9223372036854775807
end
open Go.RowKit Go.ChangeShapes Go.WideShapes Go.Deep
section
variable {H : Type} {enc : TypeId × Value → H} {P : Program} {w : World} {base : Nat} {spare : Nat → Bool} {held : Bool}
end
end Go.Dr
namespace Go.Proofs.YtahapblgmehngaaGreatDoor
open Go.RowKit Go.Dr
theorem ftF : FT Tryz.prog 26 60 9 4 :=
 ⟨Tryz.underlying26, ⟨_, _, _, Tryz.underlying60, ⟨rfl, rfl⟩, ⟨rfl, rfl⟩, ⟨rfl, rfl⟩⟩, Tryz.underlying9, Tryz.underlying4, by kernel_rfl, by kernel_rfl, by kernel_rfl, by kernel_rfl⟩
end Go.Proofs.YtahapblgmehngaaGreatDoor
namespace Go.Proofs
open Go.Shelf
def Tryz.lays156_ren : Go.Shelf.Ren := ⟨fun | 156 => 96 | 165 => 124 | 166 => 125 | 169 => 126 | 240 => 147 | 241 => 148 | 276 => 175 | 277 => 176 | n => n, fun | 31 => 44 | 9 => 9 | 3 => 3 | 4 => 4 | 0 => 0 | 20 => 20 | 72 => 154 | 76 => 158 | 70 => 152 | 37 => 124 | 75 => 157 | 127 => 177 | 164 => 192 | 5 => 5 | 80 => 160 | n => n, fun | n => n⟩
theorem Tryz.lays156 : Go.Proofs.Lays.n156 Tryz.prog Tryz.lays156_ren := {
 mixed := by kernel_rfl
 f156 := Tryz.func96.trans (congrArg some (by kernel_rfl))
 f165 := Tryz.func124.trans (congrArg some (by kernel_rfl))
 f166 := Tryz.func125.trans (congrArg some (by kernel_rfl))
 f169 := Tryz.func126.trans (congrArg some (by kernel_rfl))
 f240 := Tryz.func147.trans (congrArg some (by kernel_rfl))
 f241 := Tryz.func148.trans (congrArg some (by kernel_rfl))
 f276 := Tryz.func175.trans (congrArg some (by kernel_rfl))
 f277 := Tryz.func176.trans (congrArg some (by kernel_rfl))
 t0 := Tryz.underlying0
 a0 := Tryz.isAgg0
 z0 := Tryz.sizeOf0
 v0 := Tryz.zeroValue0
 t3 := Tryz.underlying3
 a3 := Tryz.isAgg3
 z3 := Tryz.sizeOf3
 v3 := Tryz.zeroValue3
 t4 := Tryz.underlying4
 a4 := Tryz.isAgg4
 z4 := Tryz.sizeOf4
 v4 := Tryz.zeroValue4
 t9 := Tryz.underlying9
 a9 := Tryz.isAgg9
 z9 := Tryz.sizeOf9
 v9 := Tryz.zeroValue9
 t20 := Tryz.underlying20
 a20 := Tryz.isAgg20
 z20 := Tryz.sizeOf20
 v20 := Tryz.zeroValue20
 t31 := Tryz.underlying44
 a31 := Tryz.isAgg44
 z31 := Tryz.sizeOf44
 v31 := Tryz.zeroValue44
 t37 := Tryz.underlying124
 a37 := Tryz.isAgg124
 z37 := Tryz.sizeOf124
 v37 := Tryz.zeroValue124
 t70 := Tryz.underlying152
 a70 := Tryz.isAgg152
 z70 := Tryz.sizeOf152
 v70 := Tryz.zeroValue152
 t72 := Tryz.underlying154
 a72 := Tryz.isAgg154
 z72 := Tryz.sizeOf154
 v72 := Tryz.zeroValue154
 t75 := Tryz.underlying157
 a75 := Tryz.isAgg157
 z75 := Tryz.sizeOf157
 v75 := Tryz.zeroValue157
 t76 := Tryz.underlying158
 a76 := Tryz.isAgg158
 z76 := Tryz.sizeOf158
 v76 := Tryz.zeroValue158
 t127 := Tryz.underlying177
 a127 := Tryz.isAgg177
 z127 := Tryz.sizeOf177
 v127 := Tryz.zeroValue177
 t164 := Tryz.underlying192
 a164 := Tryz.isAgg192
 z164 := Tryz.sizeOf192
 v164 := Tryz.zeroValue192 }
theorem Tryz.Builder_Extra_156 : Builder.Extra Tryz.prog Tryz.lays156_ren := {
 sizeBuilder := by kernel_rfl
 liesBuilder := by kernel_rfl
 t5 := Tryz.underlying5
 a5 := Tryz.isAgg5
 z5 := Tryz.sizeOf5
 v5 := Tryz.zeroValue5
 infoByte := by kernel_rfl
 cellsByte := by kernel_rfl
 sizeByte := by kernel_rfl
 neB5 := by decide }
open Go.RowKit in
theorem Tryz.strings_Join_none (a : Option Addr) (c : Nat) (sep : ByteArray) (w : World) :
 Calls Tryz.prog 96 #[.slice a 0 c, .string sep] w fun e w' => e = .returned (.string ⟨#[]⟩) ∧ w' = w := Any.strings_Join_none Tryz.lays156 Tryz.Builder_Extra_156 a c sep w
open Go.RowKit in
theorem Tryz.strings_Join (bk o c : Nat) (xs : List ByteArray) (sep : ByteArray) (w : World) (hcells : ∀ (j : Nat) x, xs[j]? = some x → w.cell? ⟨bk, o + j, none⟩ = some (.string x)) (hbk : bk < w.heap.size) (hN : xs.length ≤ 140737488355328) (hcap : xs.length ≤ c) (hlen : (Lib.join (xs.map (·.data.toList)) sep.data.toList).length ≤ 140737488355328) :
 Calls Tryz.prog 96 #[.slice (some ⟨bk, o, none⟩) xs.length c, .string sep] w fun e w' => e = .returned (.string ⟨(Lib.join (xs.map (·.data.toList)) sep.data.toList).toArray⟩) ∧ Below w.heap.size w w' := Any.strings_Join Tryz.lays156 Tryz.Builder_Extra_156 bk o c xs sep w hcells hbk hN hcap hlen
def Tryz.lays160_ren : Go.Shelf.Ren := ⟨fun | 160 => 159 | 232 => 184 | 231 => 183 | 227 => 185 | 234 => 187 | 233 => 186 | 236 => 189 | 235 => 188 | 228 => 207 | 271 => 210 | 151 => 209 | 197 => 208 | 120 => 221 | 152 => 220 | 260 => 219 | 137 => 215 | 119 => 225 | 224 => 213 | 225 => 212 | 217 => 211 | 266 => 222 | n => n, fun | 9 => 9 | 4 => 4 | 3 => 3 | 5 => 5 | 117 => 206 | 116 => 205 | 0 => 0 | 124 => 209 | 21 => 21 | 105 => 221 | 46 => 176 | 119 => 234 | 139 => 237 | 138 => 236 | n => n, fun | 3 => 1 | 4 => 2 | n => n⟩
theorem Tryz.lays160 : Go.Proofs.Lays.n160 Tryz.prog Tryz.lays160_ren := {
 mixed := by kernel_rfl
 f119 := Tryz.func225.trans (congrArg some (by kernel_rfl))
 f120 := Tryz.func221.trans (congrArg some (by kernel_rfl))
 f137 := Tryz.func215.trans (congrArg some (by kernel_rfl))
 f151 := Tryz.func209.trans (congrArg some (by kernel_rfl))
 f152 := Tryz.func220.trans (congrArg some (by kernel_rfl))
 f160 := Tryz.func159.trans (congrArg some (by kernel_rfl))
 f197 := Tryz.func208.trans (congrArg some (by kernel_rfl))
 f217 := Tryz.func211.trans (congrArg some (by kernel_rfl))
 f224 := Tryz.func213.trans (congrArg some (by kernel_rfl))
 f225 := Tryz.func212.trans (congrArg some (by kernel_rfl))
 f227 := Tryz.func185.trans (congrArg some (by kernel_rfl))
 f228 := Tryz.func207.trans (congrArg some (by kernel_rfl))
 f231 := Tryz.func183.trans (congrArg some (by kernel_rfl))
 f232 := Tryz.func184.trans (congrArg some (by kernel_rfl))
 f233 := Tryz.func186.trans (congrArg some (by kernel_rfl))
 f234 := Tryz.func187.trans (congrArg some (by kernel_rfl))
 f235 := Tryz.func188.trans (congrArg some (by kernel_rfl))
 f236 := Tryz.func189.trans (congrArg some (by kernel_rfl))
 f260 := Tryz.func219.trans (congrArg some (by kernel_rfl))
 f266 := Tryz.func222.trans (congrArg some (by kernel_rfl))
 f271 := Tryz.func210.trans (congrArg some (by kernel_rfl))
 t0 := Tryz.underlying0
 a0 := Tryz.isAgg0
 z0 := Tryz.sizeOf0
 v0 := Tryz.zeroValue0
 t3 := Tryz.underlying3
 a3 := Tryz.isAgg3
 z3 := Tryz.sizeOf3
 v3 := Tryz.zeroValue3
 t4 := Tryz.underlying4
 a4 := Tryz.isAgg4
 z4 := Tryz.sizeOf4
 v4 := Tryz.zeroValue4
 t5 := Tryz.underlying5
 a5 := Tryz.isAgg5
 z5 := Tryz.sizeOf5
 v5 := Tryz.zeroValue5
 t9 := Tryz.underlying9
 a9 := Tryz.isAgg9
 z9 := Tryz.sizeOf9
 v9 := Tryz.zeroValue9
 t21 := Tryz.underlying21
 a21 := Tryz.isAgg21
 z21 := Tryz.sizeOf21
 v21 := Tryz.zeroValue21
 t46 := Tryz.underlying176
 a46 := Tryz.isAgg176
 z46 := Tryz.sizeOf176
 v46 := Tryz.zeroValue176
 t105 := Tryz.underlying221
 a105 := Tryz.isAgg221
 z105 := Tryz.sizeOf221
 v105 := Tryz.zeroValue221
 t116 := Tryz.underlying205
 a116 := Tryz.isAgg205
 z116 := Tryz.sizeOf205
 t117 := Tryz.underlying206
 a117 := Tryz.isAgg206
 z117 := Tryz.sizeOf206
 v117 := Tryz.zeroValue206
 t119 := Tryz.underlying234
 a119 := Tryz.isAgg234
 z119 := Tryz.sizeOf234
 t124 := Tryz.underlying209
 a124 := Tryz.isAgg209
 z124 := Tryz.sizeOf209
 v124 := Tryz.zeroValue209
 t138 := Tryz.underlying236
 a138 := Tryz.isAgg236
 z138 := Tryz.sizeOf236
 v138 := Tryz.zeroValue236
 t139 := Tryz.underlying237
 a139 := Tryz.isAgg237
 z139 := Tryz.sizeOf237
 v139 := Tryz.zeroValue237
 g3 := by kernel_rfl
 g4 := by kernel_rfl }
def Tryz.lays137_ren : Go.Shelf.Ren := ⟨fun | 137 => 215 | 217 => 211 | 266 => 222 | n => n, fun | 9 => 9 | 5 => 5 | 3 => 3 | n => n, fun | n => n⟩
theorem Tryz.lays137 : Go.Proofs.Lays.n137 Tryz.prog Tryz.lays137_ren := {
 mixed := by kernel_rfl
 f137 := Tryz.func215.trans (congrArg some (by kernel_rfl))
 f217 := Tryz.func211.trans (congrArg some (by kernel_rfl))
 f266 := Tryz.func222.trans (congrArg some (by kernel_rfl))
 t3 := Tryz.underlying3
 a3 := Tryz.isAgg3
 z3 := Tryz.sizeOf3
 v3 := Tryz.zeroValue3
 t5 := Tryz.underlying5
 a5 := Tryz.isAgg5
 z5 := Tryz.sizeOf5
 v5 := Tryz.zeroValue5
 t9 := Tryz.underlying9
 a9 := Tryz.isAgg9
 z9 := Tryz.sizeOf9
 v9 := Tryz.zeroValue9 }
open Go.RowKit in
theorem Tryz.strings_IndexByte (s : ByteArray) (c : Int) (w : World) :
 Calls Tryz.prog 215 #[.string s, .int .u8 c] w fun e w' => e = .returned (.int .i64 (Lib.indexByte s.data.toList c.toNat.toUInt8)) ∧ w' = w := Any.strings_IndexByte Tryz.lays137 s c w
def Tryz.lays219_ren : Go.Shelf.Ren := ⟨fun | 219 => 190 | 217 => 211 | 225 => 212 | 224 => 213 | 267 => 214 | 266 => 222 | 314 => 223 | n => n, fun | 9 => 9 | 3 => 3 | 4 => 4 | 5 => 5 | 46 => 176 | 146 => 232 | 51 => 52 | n => n, fun | 1 => 0 | n => n⟩
theorem Tryz.lays219 : Go.Proofs.Lays.n219 Tryz.prog Tryz.lays219_ren := {
 mixed := by kernel_rfl
 f217 := Tryz.func211.trans (congrArg some (by kernel_rfl))
 f219 := Tryz.func190.trans (congrArg some (by kernel_rfl))
 f224 := Tryz.func213.trans (congrArg some (by kernel_rfl))
 f225 := Tryz.func212.trans (congrArg some (by kernel_rfl))
 f266 := Tryz.func222.trans (congrArg some (by kernel_rfl))
 f267 := Tryz.func214.trans (congrArg some (by kernel_rfl))
 f314 := Tryz.func223.trans (congrArg some (by kernel_rfl))
 t3 := Tryz.underlying3
 a3 := Tryz.isAgg3
 z3 := Tryz.sizeOf3
 v3 := Tryz.zeroValue3
 t4 := Tryz.underlying4
 a4 := Tryz.isAgg4
 z4 := Tryz.sizeOf4
 v4 := Tryz.zeroValue4
 t5 := Tryz.underlying5
 a5 := Tryz.isAgg5
 z5 := Tryz.sizeOf5
 v5 := Tryz.zeroValue5
 t9 := Tryz.underlying9
 a9 := Tryz.isAgg9
 z9 := Tryz.sizeOf9
 v9 := Tryz.zeroValue9
 t46 := Tryz.underlying176
 a46 := Tryz.isAgg176
 z46 := Tryz.sizeOf176
 v46 := Tryz.zeroValue176
 t51 := Tryz.underlying52
 a51 := Tryz.isAgg52
 z51 := Tryz.sizeOf52
 v51 := Tryz.zeroValue52
 t146 := Tryz.underlying232
 a146 := Tryz.isAgg232
 z146 := Tryz.sizeOf232
 v146 := Tryz.zeroValue232
 g1 := by kernel_rfl }
open Go.RowKit Go.Lib in
theorem Tryz.stringslite_Index_one (s : ByteArray) (c : UInt8) (w : World) :
 Calls Tryz.prog 190 #[.string s, .string ⟨#[c]⟩] w fun e w' => e = .returned (.int .i64 (Lib.indexByte s.data.toList c)) ∧ w' = w := Any.stringslite_Index_one Tryz.lays219 s c w
def Tryz.lays99_ren : Go.Shelf.Ren := ⟨fun | 99 => 142 | 206 => 162 | n => n, fun | 9 => 9 | 4 => 4 | 3 => 3 | n => n, fun | n => n⟩
theorem Tryz.lays99 : Go.Proofs.Lays.n99 Tryz.prog Tryz.lays99_ren := {
 mixed := by kernel_rfl
 f99 := Tryz.func142.trans (congrArg some (by kernel_rfl))
 f206 := Tryz.func162.trans (congrArg some (by kernel_rfl))
 t3 := Tryz.underlying3
 a3 := Tryz.isAgg3
 z3 := Tryz.sizeOf3
 v3 := Tryz.zeroValue3
 t4 := Tryz.underlying4
 a4 := Tryz.isAgg4
 z4 := Tryz.sizeOf4
 v4 := Tryz.zeroValue4
 t9 := Tryz.underlying9
 a9 := Tryz.isAgg9
 z9 := Tryz.sizeOf9
 v9 := Tryz.zeroValue9 }
open Go.RowKit Go.Lib in
theorem Tryz.strings_HasPrefix (s p : ByteArray) (w : World) :
 Calls Tryz.prog 142 #[.string s, .string p] w fun e w' => e = .returned (.bool (Lib.hasPrefix s.data.toList p.data.toList)) ∧ w' = w := Any.strings_HasPrefix Tryz.lays99 s p w
def Tryz.lays194_ren : Go.Shelf.Ren := ⟨fun | 194 => 123 | n => n, fun | 31 => 44 | 9 => 9 | 3 => 3 | 4 => 4 | 0 => 0 | n => n, fun | n => n⟩
theorem Tryz.lays194 : Go.Proofs.Lays.n194 Tryz.prog Tryz.lays194_ren := {
 mixed := by kernel_rfl
 f194 := Tryz.func123.trans (congrArg some (by kernel_rfl))
 t0 := Tryz.underlying0
 a0 := Tryz.isAgg0
 z0 := Tryz.sizeOf0
 v0 := Tryz.zeroValue0
 t3 := Tryz.underlying3
 a3 := Tryz.isAgg3
 z3 := Tryz.sizeOf3
 v3 := Tryz.zeroValue3
 t4 := Tryz.underlying4
 a4 := Tryz.isAgg4
 z4 := Tryz.sizeOf4
 v4 := Tryz.zeroValue4
 t9 := Tryz.underlying9
 a9 := Tryz.isAgg9
 z9 := Tryz.sizeOf9
 v9 := Tryz.zeroValue9
 t31 := Tryz.underlying44
 a31 := Tryz.isAgg44
 z31 := Tryz.sizeOf44
 v31 := Tryz.zeroValue44 }
open Go.RowKit Go.Lib Go.Sort in
theorem Tryz.slices_Compact_string (blk off cap : Nat) (zs : List (List UInt8)) (w : World) (hH : Holds encStr w blk off zs.toArray) (hsz : zs.length ≤ 9223372036854775807) (hcap : zs.length ≤ cap) :
 Calls Tryz.prog 123 #[.slice (some ⟨blk, off, none⟩) zs.length cap] w fun e w' => e = .returned (.slice (some ⟨blk, off, none⟩) (Lib.compact zs).length cap) ∧ ∃ q, w' = putRow encStr (Sort.ahead w q) blk off (Lib.compact zs ++ List.replicate (zs.length - (Lib.compact zs).length) []).toArray := Any.slices_Compact_string Tryz.lays194 blk off cap zs w hH hsz hcap
open Go.RowKit Go.Lib Go.Sort in
theorem Tryz.slices_Compact_string_empty (a : Option Addr) (cap : Nat) (w : World) :
 Calls Tryz.prog 123 #[.slice a 0 cap] w fun e w' => e = .returned (.slice a 0 cap) ∧ w' = w := Any.slices_Compact_string_empty Tryz.lays194 a cap w
end Go.Proofs
namespace Go.Proofs.YtahapblgmehngaaGreatDoor
open Go.RowKit Go.Dr
theorem or32n : ∀ n, n < 256 → 65 ≤ n → n ≤ 90 → bits .or .u8 ((n : Nat) : Int) 32 = (n : Int) + 32 := by decide +kernel
theorem or32 (c : UInt8) (h1 : 65 ≤ c.toNat) (h2 : c.toNat ≤ 90) : bits .or .u8 (c.toNat : Int) 32 = (c.toNat : Int) + 32 := or32n _ (UInt8.toNat_lt c) h1 h2
theorem Lower_any (l : Bytes) (w : World) (hl : l.length ≤ maxLen) :
  Calls Tryz.prog 93 #[S l] w fun e w' => e = .returned (S (low l)) ∧ Below w.heap.size w w' := by
 unfold maxLen at hl;obtain ⟨cap, w1, hrun, hcap, hrow, hbel, hsz⟩ := run_bytes_row (P := Tryz.prog) w 9 124 5 l Tryz.underlying9 Tryz.underlying124 Tryz.underlying5;go_enter Tryz.func93, Tryz.ntmps93
 go_wp2;clear hrun
 go_loopw [10] (fun i wr => ∃ k : Nat, k ≤ l.length ∧ i = .int .i64 k ∧ BRow wr 5 w.heap.size (lowTo l k) ∧ Below w.heap.size w wr) (fun i _ => l.length - (intOf i).toNat)
 case atStart => exact ⟨0, Nat.zero_le _, rfl, by rw [lowTo_zero];exact hrow, hbel⟩
 case round =>
  obtain ⟨k, hk, rfl, hrow, hbel⟩ := hrel;by_cases hlt : k < l.length
  ·have c0 := hrow.cell k (by rw [lowTo_length];exact hlt)
   rw [lowTo_get l k hlt] at c0;have f0 := hrow.free k (by rw [lowTo_length];exact hlt);by_cases h1 : 65 ≤ l[k].toNat
   ·by_cases h2 : l[k].toNat ≤ 90
    ·go_wp2
     go_roundw
     case rel =>
      refine ⟨k + 1, by omega, by go_num, ?_, hbel.setCell (Nat.le_refl _) _⟩;rw [← lowTo_set l k hlt];have := hrow.set k (lowB l[k])
      rw [lowB_up _ h1 h2, ← or32 _ h1 h2] at this;exact this
     case measure => simp [intOf];omega
    ·go_wp2
     go_roundw
     case rel => exact ⟨k + 1, by omega, by go_num, by rw [← lowTo_skip l k hlt (lowB_no _ (by omega))];exact hrow, hbel⟩
     case measure => simp [intOf];omega
   ·go_wp2
    go_roundw
    case rel => exact ⟨k + 1, by omega, by go_num, by rw [← lowTo_skip l k hlt (lowB_no _ (by omega))];exact hrow, hbel⟩
    case measure => simp [intOf];omega
  ·have hc := run_string_row (P := Tryz.prog) wr 124 9 5 w.heap.size cap (lowTo l k) Tryz.underlying124 Tryz.underlying5 Tryz.underlying9 hrow
   rw [lowTo_length, lowTo_all l k (by omega)] at hc;go_wp2;go_ret;exact ⟨rfl, hbel⟩
theorem Same_any (a b : Bytes) (w : World) (ha : a.length ≤ maxLen) (hb : b.length ≤ maxLen) :
  Calls Tryz.prog 98 #[S a, S b] w fun e w' => e = .returned (.bool (same a b)) ∧ Below w.heap.size w w' := by
 have ha' := ha
 unfold maxLen at ha';by_cases h : a.length = b.length
 ·have h1 : ((a.length : Int) == (b.length : Int)) = true := by simp [h]
  go_enter Tryz.func98, Tryz.ntmps98
  go_wp2_with fail;refine (Lower_any _ _ ha).mono ?_;rintro e w1 ⟨rfl, hb1⟩;go_wp2_with fail;refine (Lower_any _ _ hb).mono ?_;rintro e w2 ⟨rfl, hb2⟩;go_wp2;go_ret;exact ⟨rfl, Bl.tr hb1 hb2⟩
 ·have h1 : ((a.length : Int) == (b.length : Int)) = false := by simp;omega
  have h2 : same a b = false := by
   unfold same;rw [beq_eq_false_iff_ne];intro e;exact h (by rw [← low_length a, e, low_length])
  go_enter Tryz.func98, Tryz.ntmps98
  go_wp2;go_ret;exact ⟨by rw [h2];rfl, Below.refl _ _⟩
theorem blank_eq (c : UInt8) : isBlank c = (((c.toNat : Int) == 32) || ((c.toNat : Int) == 9)) := by
 unfold isBlank;rw [Bool.eq_iff_iff];simp [← UInt8.toNat_inj]
 omega
theorem Blank_any (c : UInt8) (w : World) :
  Calls Tryz.prog 137 #[.int .u8 (c.toNat : Int)] w fun e w' => e = .returned (.bool (isBlank c)) ∧ w = w' := by
 have hb := blank_eq c;by_cases h : (c.toNat : Int) = 32
 ·have h1 : ((c.toNat : Int) == 32) = true := by simpa using h
  rw [h1] at hb;clear h;go_enter Tryz.func137, Tryz.ntmps137
  go_wp2;go_ret;exact ⟨ret_bool (by rw [hb];rfl), rfl⟩
 ·have h1 : ((c.toNat : Int) == 32) = false := by simpa using h
  rw [h1] at hb;clear h;go_enter Tryz.func137, Tryz.ntmps137
  go_wp2;go_ret;exact ⟨ret_bool (by rw [hb];rfl), rfl⟩
theorem refTrim_any (l : Bytes) (w : World) (hl : l.length ≤ maxLen) :
    Calls Tryz.prog 114 #[S l] w fun e w' => e = .returned (S (trim l)) ∧ w = w' := by
  unfold maxLen at hl;go_enter Tryz.func114, Tryz.ntmps114
  go_wp2
  go_loop [0] (fun v => ∃ r : Bytes, r.length ≤ 9223372036854775807 ∧ Hid (trimL r = trimL l) ∧ v = S r) (fun v => match v with | .string s => s.size | _ => 0)
  case atStart => exact ⟨l, by omega, rfl, rfl⟩
  case round =>
    obtain ⟨r, hr, HT, rfl⟩ := hrel;by_cases hgo : ∃ h : 0 < r.length, isBlank r[0] = true
    · obtain ⟨h0, hb⟩ := hgo
      have HY := Lib.hid (trimL_yes r h0 hb);go_wp2_with (go_at_call 137;refine (Blank_any _ _).mono ?_;rintro e w' ⟨rfl, rfl⟩)
      go_round
      case rel => exact ⟨r.tail, by simp;omega, HY.out.trans HT.out, rfl⟩
      case measure => simp [ByteArray.size];omega
    · have HY := Lib.hid (trimL_no r (fun h => by simpa using fun hb => hgo ⟨h, hb⟩))
      have HR : Hid (trimR r = trim l) := (by show _ = _;rw [trim, ← HT.out, HY.out]);clear HY HT;by_cases h0 : 0 < r.length
      all_goals
        first
          | (have hb' : isBlank r[0] = false := by simpa using fun hb => hgo ⟨h0, hb⟩
             clear hgo
             go_wp2_with (go_at_call 137;refine (Blank_any _ _).mono ?_;rintro e w' ⟨rfl, rfl⟩))
          | (clear hgo
             go_wp2)
        go_loop [0] (fun v => ∃ q : Bytes, q.length ≤ 9223372036854775807 ∧ Hid (trimR q = trim l) ∧ v = S q) (fun v => match v with | .string s => s.size | _ => 0)
        case atStart => exact ⟨r, hr, HR, rfl⟩
        case round =>
          obtain ⟨q, hq, HQ, rfl⟩ := hrel;by_cases hgo : ∃ h : 0 < q.length, isBlank q[q.length - 1] = true
          · obtain ⟨h0, hb⟩ := hgo
            have HY := Lib.hid (trimR_yes q h0 hb);go_wp2_with (go_at_call 137;refine (Blank_any _ _).mono ?_;rintro e w' ⟨rfl, rfl⟩)
            go_round
            case rel => exact ⟨q.take (q.length - 1), by simp;omega, HY.out.trans HQ.out, rfl⟩
            case measure => simp [ByteArray.size];omega
          · have HY := Lib.hid (trimR_no q (fun h => by simpa using fun hb => hgo ⟨h, hb⟩))
            by_cases h0 : 0 < q.length
            · have hb' : isBlank q[q.length - 1] = false := by simpa using fun hb => hgo ⟨h0, hb⟩
              clear hgo;go_wp2_with (go_at_call 137;refine (Blank_any _ _).mono ?_;rintro e w' ⟨rfl, rfl⟩)
              go_ret;exact ⟨ret_S (by rw [← HQ.out, HY.out]), rfl⟩
            · clear hgo
              go_wp2;go_ret;exact ⟨ret_S (by rw [← HQ.out, HY.out]), rfl⟩
theorem trimS_eq (l : Bytes) : Lib.trimS l [32, 9] = trim l := by
 have e : (fun c : UInt8 => [32, 9].contains c) = isBlank := by
  funext c
  by_cases h1 : c = 32 <;> by_cases h2 : c = 9 <;> simp [isBlank, h1, h2]
 rw [trim, ← trim_comm];simp only [Lib.trimS, Lib.trimLeftS, Lib.trimRightS, e];rfl
theorem Trim_any (l : Bytes) (w : World) (hl : l.length ≤ maxLen) :
  Calls Tryz.prog 139 #[S l] w fun e w' => e = .returned (S (trim l)) ∧ Below w.heap.size w w' := by
 unfold maxLen at hl;have hcon := Any.strings_Trim_laid Tryz.lays160 (by kernel_rfl) ⟨l.toArray⟩ ⟨#[32, 9]⟩ w (by show l.length ≤ _;omega) (by decide) (ascii_of_all (by decide))
 change Calls Tryz.prog 159 _ _ (fun e w' => e = .returned (.string ⟨(Lib.trimS l [32, 9]).toArray⟩) ∧ Below w.heap.size w w') at hcon
 rw [trimS_eq] at hcon;have HC := Lib.hid hcon;clear hcon;go_enter Tryz.func139, Tryz.ntmps139
 go_wp2_with (go_at_call 159;refine HC.out.mono ?_;rintro e w' ⟨rfl, hB⟩)
 go_ret;exact ⟨rfl, hB⟩
theorem refLower_any (l : Bytes) (w : World) (hl : l.length ≤ 1099511627776) :
  Calls Tryz.prog 46 #[S l] w fun e w' => e = .returned (S (low l)) ∧ Below w.heap.size w w' := by
 go_enter Tryz.func46, Tryz.ntmps46
 go_wp2
 go_loopw [3, 4] (fun v i wr => ∃ k : Nat, k ≤ l.length ∧ i = .int .i64 k ∧ wr.ownsRow w.heap.size 5 1 v k ((low (l.take k)).map B8) ∧ Below w.heap.size w wr) (fun _ i _ => l.length - (intOf i).toNat)
 case atStart => exact ⟨0, Nat.zero_le _, rfl, World.ownsRow_made w #[] 0 (Nat.le_refl _) (Nat.zero_le _) rfl, (Below.refl _ _).alloc (Nat.le_refl _) _⟩
 case round =>
  obtain ⟨k, hk, rfl, hown, hbel⟩ := hrel;by_cases hlt : k < l.length
  ·have HN := Lib.hid (take_snoc l k hlt)
   by_cases h1 : 65 ≤ l[k].toNat
   ·by_cases h2 : l[k].toNat ≤ 90
    ·have h3 := lowB_up _ h1 h2
     have HN : Hid ((low (l.take k)).map B8 ++ [.int .u8 ((l[k].toNat : Int) + 32)] = (low (l.take (k + 1))).map B8) := by
      show _ = _
      rw [HN.out, low, low, List.map_append, List.map_append, ← h3];rfl
     clear h3;go_wp2_with (at_builtin;refine wpList_app1 rfl _ _ 124 rfl w.heap.size (.int .u8 0) 1 Tryz.underlying124 (by kernel_rfl) rfl rfl _ _ _ rfl hown rfl (by omega) (by decide) hbel.size ?_;intro a' c' w' hown' hb' hz')
     go_roundw
     case rel => exact ⟨k + 1, by omega, by go_num, by rw [← HN.out];exact hown', hbel.trans hb'⟩
     case measure => simp [intOf];omega
    ·skip
     have HN : Hid ((low (l.take k)).map B8 ++ [B8 l[k]] = (low (l.take (k + 1))).map B8) := by
      show _ = _
      rw [HN.out, low, low, List.map_append, List.map_append];simp only [List.map_cons, List.map_nil];rw [lowB_no _ (by omega)]
     go_wp2_with (at_builtin;refine wpList_app1 rfl _ _ 124 rfl w.heap.size (.int .u8 0) 1 Tryz.underlying124 (by kernel_rfl) rfl rfl _ _ _ rfl hown rfl (by omega) (by decide) hbel.size ?_;intro a' c' w' hown' hb' hz')
     go_roundw
     case rel => exact ⟨k + 1, by omega, by go_num, by rw [← HN.out];exact hown', hbel.trans hb'⟩
     case measure => simp [intOf];omega
   ·skip
    have HN : Hid ((low (l.take k)).map B8 ++ [B8 l[k]] = (low (l.take (k + 1))).map B8) := by
     show _ = _
     rw [HN.out, low, low, List.map_append, List.map_append];simp only [List.map_cons, List.map_nil];rw [lowB_no _ (by omega)]
    go_wp2_with (at_builtin;refine wpList_app1 rfl _ _ 124 rfl w.heap.size (.int .u8 0) 1 Tryz.underlying124 (by kernel_rfl) rfl rfl _ _ _ rfl hown rfl (by omega) (by decide) hbel.size ?_;intro a' c' w' hown' hb' hz')
    go_roundw
    case rel => exact ⟨k + 1, by omega, by go_num, by rw [← HN.out];exact hown', hbel.trans hb'⟩
    case measure => simp [intOf];omega
  ·have hk' : k = l.length := by omega
   subst hk';have hc := run_string_own (P := Tryz.prog) wr 124 9 5 w.heap.size u3 (low l) Tryz.underlying124 Tryz.underlying5 Tryz.underlying9 (by rw [low_length];rw [List.take_length] at hown;exact hown);go_wp2;go_ret;exact ⟨rfl, hbel⟩
theorem refSame_any (a b : Bytes) (w : World) (ha : a.length ≤ 1099511627776) (hb : b.length ≤ 1099511627776) :
  Calls Tryz.prog 110 #[S a, S b] w fun e w' => e = .returned (.bool (same a b)) ∧ Below w.heap.size w w' := by
 go_enter Tryz.func110, Tryz.ntmps110
 go_wp2_with fail;refine (refLower_any _ _ ha).mono ?_;rintro e w1 ⟨rfl, hb1⟩;go_wp2_with fail;refine (refLower_any _ _ hb).mono ?_;rintro e w2 ⟨rfl, hb2⟩;go_wp2;go_ret;exact ⟨rfl, Bl.tr hb1 hb2⟩
theorem f_eq (a b : F) : (a == b) = (a.n == b.n && a.v == b.v && a.m == b.m) := by
 rw [Bool.eq_iff_iff]
 cases a
 cases b
 simp
 constructor
 ·rintro ⟨rfl, rfl, rfl⟩;simp
 ·rintro ⟨⟨rfl, rfl⟩, rfl⟩;simp
theorem Fields_any (a b : List F) (va vb : Value) (w : World) (ha : Fs w.heap.size w va a) (hb : Fs w.heap.size w vb b) :
  Calls Tryz.prog 53 #[va, vb] w fun e w' => e = .returned (.bool (a == b)) ∧ Below w.heap.size w w' := by
 obtain ⟨pa, ca, rfl, hma⟩ := ha.form;obtain ⟨pb, cb, rfl, hmb⟩ := hb.form;by_cases hlen : a.length = b.length
 ·have h1 : ((a.length : Int) == (b.length : Int)) = true := by simp [hlen]
  have h2 : ((a.length : Int) != (b.length : Int)) = false := (by simp [hlen]);have HL := Lib.hid hlen;clear hlen;go_enter Tryz.func53, Tryz.ntmps53
  go_wp2
  go_loopw [5] (fun i wr => ∃ k : Nat, k ≤ a.length ∧ i = .int .i64 k ∧ Hid (a.take k = b.take k) ∧ Below w.heap.size w wr) (fun i _ => a.length - (intOf i).toNat)
  case atStart => exact ⟨0, Nat.zero_le _, rfl, rfl, Below.refl _ _⟩
  case round =>
   obtain ⟨k, hk, rfl, HT, hbel⟩ := hrel;by_cases hlt : k < a.length
   ·have hlt' : k < b.length := by rw [← HL.out];exact hlt
    obtain ⟨ba, oa, rfl, hba, hca0, hca1, hca2⟩ := (ha.below hbel).at k hlt;obtain ⟨bb, ob, rfl, hbb, hcb0, hcb1, hcb2⟩ := (hb.below hbel).at k hlt';have HE := Lib.hid (f_eq a[k] b[k]);by_cases e1 : a[k].n = b[k].n
    ·by_cases e2 : a[k].v = b[k].v
     ·by_cases e3 : a[k].m = b[k].m
      ·have he : a[k] = b[k] := by rw [← beq_iff_eq, HE.out];simp [e1, e2, e3]
       have HN := Lib.hid (take_eq_succ hlt hlt' HT.out he);clear he;go_wp2_with fail;go_quiet (fail)
       go_wp2
       go_roundw
       case rel => exact ⟨k + 1, by omega, by go_num, HN, below_drewN hbel _⟩
       case measure => simp [intOf];omega
      ·have HN := Lib.hid (ne_of_get hlt hlt' (fun h => e3 (by rw [h])))
       go_wp2_with fail;go_quiet (fail)
       go_wp2;go_ret;exact ⟨ret_bool (by symm;rw [beq_eq_false_iff_ne];exact HN.out), below_drewN hbel _⟩
     ·have HN := Lib.hid (ne_of_get hlt hlt' (fun h => e2 (by rw [h])))
      go_wp2_with fail;go_quiet (fail)
      go_wp2;go_ret;exact ⟨ret_bool (by symm;rw [beq_eq_false_iff_ne];exact HN.out), below_drewN hbel _⟩
    ·have HN := Lib.hid (ne_of_get hlt hlt' (fun h => e1 (by rw [h])))
     go_wp2_with fail;go_quiet (fail)
     go_wp2;go_ret;exact ⟨ret_bool (by symm;rw [beq_eq_false_iff_ne];exact HN.out), below_drewN hbel _⟩
   ·go_wp2
    go_ret;exact ⟨ret_bool (by symm;rw [beq_iff_eq];have := HT.out;rwa [List.take_of_length_le (by omega), List.take_of_length_le (by rw [← HL.out];omega)] at this), hbel⟩
 ·have h1 : ((a.length : Int) == (b.length : Int)) = false := by simp;omega
  have h2 : ((a.length : Int) != (b.length : Int)) = true := (by simp;omega);go_enter Tryz.func53, Tryz.ntmps53
  go_wp2;go_ret;exact ⟨ret_bool (by symm;rw [beq_eq_false_iff_ne];intro e;exact hlen (by rw [e])), Below.refl _ _⟩
open Go.RowKit Go.Dr
theorem FBytes_any (l : List F) (v : Value) (w : World) (h : Fs w.heap.size w v l) (hb : ∀ f ∈ l, f.n.length ≤ 140737488355328 ∧ f.v.length ≤ 140737488355328) :
  Calls Tryz.prog 29 #[v] w fun e w' => e = .returned (.int .i64 (fbytes l : Nat)) ∧ Below w.heap.size w w' := by
 obtain ⟨pa, ca, rfl, hm⟩ := h.form;go_enter Tryz.func29, Tryz.ntmps29
 go_wp2
 go_loopw [3, 4] (fun n i wr => ∃ k : Nat, k ≤ l.length ∧ i = .int .i64 k ∧ n = .int .i64 (fbytes (l.take k) : Nat) ∧ fbytes (l.take k) ≤ 844424930131968 ∧ Below w.heap.size w wr) (fun _ i _ => l.length - (intOf i).toNat)
 case atStart => exact ⟨0, Nat.zero_le _, rfl, rfl, Nat.zero_le _, Below.refl _ _⟩
 case round =>
  obtain ⟨k, hk, rfl, rfl, hle, hbel⟩ := hrel;by_cases hlt : k < l.length
  ·obtain ⟨b, off, rfl, hbb, c0, c1, c2⟩ := (h.below hbel).at k hlt
   obtain ⟨b1, b2⟩ := hb l[k] (List.getElem_mem hlt);clear hb;have HS : Hid (fbytes (l.take (k + 1)) = fbStep (fbytes (l.take k)) l[k]) := (by show _ = _;rw [take_snoc l k hlt, fbytes_snoc]);generalize fbytes (l.take k) = s at *;by_cases hs : s < 1073741824
   ·have HS : Hid (fbytes (l.take (k + 1)) = s + l[k].n.length + l[k].v.length + 32) := by show _ = _;rw [HS.out, fbStep, if_pos hs]
    have hq : decide ((s : Int) < 1073741824) = true := (by rw [decide_eq_true_iff];omega);have HQ := Lib.hid hs;clear hs;go_wp2_with fail;go_quiet (fail)
    go_wp2
    go_roundw
    case rel => exact ⟨k + 1, by omega, by go_num, by rw [HS.out];go_num, by rw [HS.out];have := HQ.out;omega, below_drewN hbel _⟩
    case measure => simp [intOf];omega
   ·have HS : Hid (fbytes (l.take (k + 1)) = s) := by show _ = _;rw [HS.out, fbStep, if_neg hs]
    have hq : decide ((s : Int) < 1073741824) = false := (by rw [decide_eq_false_iff_not];omega);have HQ := Lib.hid hs;clear hs;go_wp2
    go_roundw
    case rel => exact ⟨k + 1, by omega, by go_num, by rw [HS.out], by rw [HS.out];omega, hbel⟩
    case measure => simp [intOf];omega
  ·have hk' : k = l.length := by omega
   subst hk';rw [List.take_length] at *;go_wp2;go_ret;exact ⟨rfl, hbel⟩
end Go.Proofs.YtahapblgmehngaaGreatDoor
