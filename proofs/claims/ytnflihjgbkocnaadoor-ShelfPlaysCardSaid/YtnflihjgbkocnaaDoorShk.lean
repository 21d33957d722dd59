
/- An entry that stays on a shelf: plain. The script of a list of entries. -/
import Derived.Test.YtnflihjgbkocnaaDoorShq3
import Derived.Test.YtnflihjgbkocnaaDoorShq5
import Derived.Test.YtnflihjgbkocnaaDoorShd
import Derived.Test.YtnflihjgbkocnaaDoorOpen5
namespace Go.Dr
open Go.RowKit
set_option linter.unusedSimpArgs false in
set_option linter.unusedVariables false in
set_option linter.unnecessarySimpa false in
theorem costs_filter (l : List Nd) (p : Nd → Bool) : costs ((l.filter p).map Nd.x) ≤ costs (l.map Nd.x) := by
  induction l with
  | nil => exact Nat.le_refl _
  | cons n l ih =>
    rw [List.filter_cons, List.map_cons, costs_cons]
    split
    · rw [List.map_cons, costs_cons]; omega
    · omega
/-- The step that puts an entry. -/
def Dof (x : Ex) : Dv := ⟨0, 0, x.q, .slice none 0 0, x.lp, x.lf, []⟩
set_option linter.unusedSimpArgs false in
set_option linter.unusedVariables false in
set_option linter.unnecessarySimpa false in
theorem Dof_ok {x : Ex} (h : x.Ok) : (Dof x).Ok :=
  ⟨Nat.le_trans h.1.1 (by decide), Nat.le_trans h.1.2.2.1 (by decide), fun f hf => ⟨Nat.le_trans (h.2.1.1 f hf).1 (by decide), Nat.le_trans (h.2.1.1 f hf).2 (by decide)⟩, fun f hf => ⟨Nat.le_trans (h.2.2.1 f hf).1 (by decide), Nat.le_trans (h.2.2.1 f hf).2 (by decide)⟩, fun f hf => by cases hf⟩
set_option linter.unusedSimpArgs false in
set_option linter.unusedVariables false in
set_option linter.unnecessarySimpa false in
theorem own_lit1 (w : World) (e : TypeId) (cs : Array Value) (size m : Nat) (hl : cs.size = m * size) (hm : m ≤ maxLen) : (w.alloc (.cells cs e)).ownsRow w.heap.size e size (.slice (some ⟨w.heap.size, 0, none⟩) m m) m cs.toList :=
  ⟨by simpa using hl, .inr ⟨w.heap.size, m, cs, rfl, Nat.le_refl _, heap_alloc_new w _, Nat.le_refl _, hm, hl, by rw [← hl, ← Array.length_toList, List.take_length]⟩⟩
set_option linter.unusedSimpArgs false in
set_option linter.unusedVariables false in
set_option linter.unnecessarySimpa false in
theorem row_form {w : World} {base : Nat} {e : TypeId} {size : Nat} {v : Value} {n : Nat} {xs : List Value} (h : w.ownsRow base e size v n xs) : ∃ a c, v = .slice a n c := by
  rcases h.2 with ⟨rfl, h0⟩ | ⟨g, cap, cur, rfl, _⟩
  · exact ⟨none, 0, by rw [h0]⟩
  · exact ⟨_, _, rfl⟩
set_option linter.unusedSimpArgs false in
set_option linter.unusedVariables false in
set_option linter.unnecessarySimpa false in
theorem Dv.one (d : Dv) (h1 : ∃ a n c, d.q.vp = .slice a n c) (h2 : ∃ a n c, d.q.vf = .slice a n c) (h3 : ∃ a n c, d.vl = .slice a n c) : ∀ u ∈ d.cells, u.oneCell' = true := by
  obtain ⟨a, n, c, h1⟩ := h1
  obtain ⟨a', n', c', h2⟩ := h2
  obtain ⟨a'', n'', c'', h3⟩ := h3
  intro u hu
  simp only [Dv.cells, List.mem_cons, List.not_mem_nil, or_false, h1, h2, h3] at hu
  rcases hu with rfl | rfl | rfl | rfl | rfl | rfl | rfl | rfl | rfl | rfl <;> rfl
end Go.Dr
namespace Go.Proofs.YtnflihjgbkocnaaDoor
open Go.RowKit Go.Dr
/-- The one link of a key that stays. -/
structure Keep (l : List Nd) (nd : Nd) (key : Bytes) (last : Int) (C : Nat) : Prop where
  mem : nd ∈ l
  isKey : nd.x.key = key
  only : ∀ n ∈ l, n.x.key = key → n = nd
  ids : ∀ n ∈ l, n.x.id ≤ last
  cost : costs (l.map Nd.x) ≤ C
set_option linter.unusedSimpArgs false in
set_option linter.unusedVariables false in
set_option linter.unnecessarySimpa false in
theorem Keep.put {l : List Nd} {nd : Nd} {key : Bytes} {last : Int} {C : Nat} (h : Keep l nd key last C) {q : En} {lp lf : List F} (hk : q.key ≠ key) {M : Nat} (hM : C + costF q lp lf ≤ M) {nd' : Nd} (hx : nd'.x = It.of (last + 1) q lp lf) :
    roomOf (M - costF q lp lf) (l.filter fun n => !alikeP q.key lp n) = l.filter (fun n => !alikeP q.key lp n) ∧ Keep (l.filter (fun n => !alikeP q.key lp n) ++ [nd']) nd key (last + 1) (C + costF q lp lf) := by
  have hc := costs_filter l fun n => !alikeP q.key lp n
  have hcc := h.cost
  refine ⟨roomOf_fit (by omega), List.mem_append.2 (.inl (List.mem_filter.2 ⟨h.mem, ?_⟩)), h.isKey, fun n hn e => ?_, fun n hn => ?_, ?_⟩
  · unfold alikeP
    rw [h.isKey]
    have : (key == q.key) = false := by simpa using fun e => hk e.symm
    rw [this]
    rfl
  · rcases List.mem_append.1 hn with hn | hn
    · exact h.only n (List.mem_filter.1 hn).1 e
    · rw [List.mem_singleton.1 hn, hx] at e
      exact absurd e hk
  · rcases List.mem_append.1 hn with hn | hn
    · have := h.ids n (List.mem_filter.1 hn).1
      omega
    · rw [List.mem_singleton.1 hn, hx]
      exact Int.le_refl _
  · rw [List.map_append, costs_append]
    have : costs ([nd'].map Nd.x) = costF q lp lf := by
      show nd'.x.cost + 0 = _
      rw [hx]
      rfl
    omega
set_option linter.unusedSimpArgs false in
set_option linter.unusedVariables false in
set_option linter.unnecessarySimpa false in
/-- The links of its key: that one alone. -/
theorem Keep.gone {l : List Nd} {nd : Nd} {key : Bytes} {last : Int} {C : Nat} (h : Keep l nd key last C) (hid : (l.map fun n => n.x.id).Nodup) :
    (l.filter fun n => n.x.key == key).length = 1 ∧ (l.filter fun n => !(n.x.key == key)).length + 1 = l.length ∧ (∀ n ∈ l.filter (fun n => !(n.x.key == key)), n.x.id ≠ nd.x.id) ∧ ((l.filter fun n => !(n.x.key == key)).filter fun n => n.x.key == key).length = 0 := by
  obtain ⟨a, b, rfl⟩ := List.append_of_mem h.mem
  have hout : ∀ n ∈ a ++ b, (n.x.key == key) = false ∧ n.x.id ≠ nd.x.id := fun n hn => by
    have hn2 := mem_more (p := nd) hn
    have hne : n.x.id ≠ nd.x.id := by
      rw [List.map_append, List.map_cons, List.nodup_append] at hid
      intro e
      rcases List.mem_append.1 hn with hn | hn
      · exact hid.2.2 _ (List.mem_map_of_mem hn) _ (by simp) e
      · have := hid.2.1
        rw [List.nodup_cons] at this
        exact this.1 (e ▸ List.mem_map_of_mem (f := fun n : Nd => n.x.id) hn)
    refine ⟨?_, hne⟩
    have : n.x.key ≠ key := fun e => hne (by rw [h.only n hn2 e])
    simpa using this
  have hkn : (nd.x.key == key) = true := by simpa using h.isKey
  have hA : ∀ l : List Nd, (∀ n ∈ l, (n.x.key == key) = false) → l.filter (fun n => n.x.key == key) = [] ∧ l.filter (fun n => !(n.x.key == key)) = l := fun l hl =>
    ⟨List.filter_eq_nil_iff.2 fun n hn => by rw [hl n hn]; simp, List.filter_eq_self.2 fun n hn => by rw [hl n hn]; rfl⟩
  have ha := hA a fun n hn => (hout n (by simp [hn])).1
  have hb := hA b fun n hn => (hout n (by simp [hn])).1
  have hno : (a ++ nd :: b).filter (fun n => !(n.x.key == key)) = a ++ b := by
    rw [List.filter_append, List.filter_cons, hkn, ha.2, hb.2]
    simp
  refine ⟨?_, ?_, ?_, ?_⟩
  · rw [List.filter_append, List.filter_cons, hkn, ha.1, hb.1]
    simp
  · rw [hno]; simp; omega
  · rw [hno]; exact fun n hn => (hout n hn).2
  · rw [hno, List.filter_append, ha.1, hb.1]
    rfl
end Go.Proofs.YtnflihjgbkocnaaDoor
