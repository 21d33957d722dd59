
/- A script for a shelf, in memory: what its steps read as. No program in sight. -/
import Derived.Test.YtnflihjgbkocnaaDoorOpen
namespace Go.Dr
open Go.RowKit

/-- A step of a script for a shelf. -/
structure Dv where
  kind : Int
  num : Int
  q : En
  vl : Value
  lp : List F
  lf : List F
  ll : List F
def Dv.cells (d : Dv) : List Value := [.int .i64 d.kind, .int .i64 d.num, S d.q.key, d.q.vp, .int .i64 d.q.st, d.q.vf, S d.q.body, .int .i64 d.q.asked, .int .i64 d.q.came, d.vl]
def dcells (l : List Dv) : List Value := l.flatMap Dv.cells
set_option linter.unusedSimpArgs false in
set_option linter.unusedVariables false in
set_option linter.unnecessarySimpa false in
theorem dcells_length (l : List Dv) : (dcells l).length = l.length * 10 := by
  induction l with
  | nil => rfl
  | cons f l ih => simp only [dcells, List.flatMap_cons, List.length_append, List.length_cons] at *; simp [Dv.cells, ih]; omega
set_option linter.unusedSimpArgs false in
set_option linter.unusedVariables false in
set_option linter.unnecessarySimpa false in
theorem dcells_append (a b : List Dv) : dcells (a ++ b) = dcells a ++ dcells b := by simp [dcells]
set_option linter.unusedSimpArgs false in
set_option linter.unusedVariables false in
set_option linter.unnecessarySimpa false in
theorem dcells_get (l : List Dv) (k : Nat) (h : k < l.length) (j : Nat) (hj : j < 10) : (dcells l)[k * 10 + j]? = (l[k].cells)[j]? := by
  induction l generalizing k with
  | nil => simp at h
  | cons f l ih =>
    simp only [dcells, List.flatMap_cons]
    cases k with
    | zero => rw [List.getElem?_append_left (by simp [Dv.cells]; omega)]; simp
    | succ k =>
      rw [List.getElem?_append_right (by simp [Dv.cells]; omega)]
      have := ih k (by simpa using h)
      simp only [dcells] at this
      simp only [List.getElem_cons_succ]
      rw [← this]
      congr 1
      simp [Dv.cells]; omega
/-- A script that is read: its steps, and the lists that they lead to. -/
def Ds (B : Nat) (w : World) (v : Value) (l : List Dv) : Prop := Rd B w 10 v l.length (dcells l) ∧ ∀ d ∈ l, Fs B w d.q.vp d.lp ∧ Fs B w d.q.vf d.lf ∧ Fs B w d.vl d.ll
set_option linter.unusedSimpArgs false in
set_option linter.unusedVariables false in
set_option linter.unnecessarySimpa false in
theorem Ds.below {B : Nat} {w w' : World} {v : Value} {l : List Dv} (h : Ds B w v l) (hb : Below B w w') : Ds B w' v l := ⟨h.1.below hb, fun d hd => ⟨(h.2 d hd).1.below hb, (h.2 d hd).2.1.below hb, (h.2 d hd).2.2.below hb⟩⟩
set_option linter.unusedSimpArgs false in
set_option linter.unusedVariables false in
set_option linter.unnecessarySimpa false in
theorem Ds.mono {B B' : Nat} {w : World} {v : Value} {l : List Dv} (h : Ds B w v l) (hB : B ≤ B') : Ds B' w v l := ⟨h.1.mono hB, fun d hd => ⟨(h.2 d hd).1.mono hB, (h.2 d hd).2.1.mono hB, (h.2 d hd).2.2.mono hB⟩⟩
set_option linter.unusedSimpArgs false in
set_option linter.unusedVariables false in
set_option linter.unnecessarySimpa false in
theorem Ds.form {B : Nat} {w : World} {v : Value} {l : List Dv} (h : Ds B w v l) : ∃ a cap, v = .slice a l.length cap ∧ l.length ≤ 9223372036854775807 := by
  obtain ⟨⟨a, cap, h1, h2, h3, _⟩, _⟩ := h
  exact ⟨a, cap, h1, by unfold maxLen at h3; omega⟩
set_option linter.unusedSimpArgs false in
set_option linter.unusedVariables false in
set_option linter.unnecessarySimpa false in
theorem Ds.at {B : Nat} {w : World} {a : Option Addr} {n cap : Nat} {l : List Dv} (h : Ds B w (.slice a n cap) l) (k : Nat) (hk : k < l.length) :
    ∃ b off, a = some ⟨b, off, none⟩ ∧ b < B ∧ w.cell? ⟨b, off + k * 10, none⟩ = some (.int .i64 l[k].kind) ∧ w.cell? ⟨b, off + k * 10 + 1, none⟩ = some (.int .i64 l[k].num) ∧ w.cell? ⟨b, off + k * 10 + 2, none⟩ = some (S l[k].q.key) ∧ w.cell? ⟨b, off + k * 10 + 3, none⟩ = some l[k].q.vp ∧ w.cell? ⟨b, off + k * 10 + 4, none⟩ = some (.int .i64 l[k].q.st) ∧ w.cell? ⟨b, off + k * 10 + 5, none⟩ = some l[k].q.vf ∧ w.cell? ⟨b, off + k * 10 + 6, none⟩ = some (S l[k].q.body) ∧ w.cell? ⟨b, off + k * 10 + 7, none⟩ = some (.int .i64 l[k].q.asked) ∧ w.cell? ⟨b, off + k * 10 + 8, none⟩ = some (.int .i64 l[k].q.came) ∧ w.cell? ⟨b, off + k * 10 + 9, none⟩ = some l[k].vl := by
  obtain ⟨⟨a', cap', h1, h2, h3, h4, h5, h6⟩, _⟩ := h
  simp only [Value.slice.injEq] at h1
  obtain ⟨rfl, rfl, rfl⟩ := h1
  obtain ⟨b, off, rfl, hb, c0⟩ := h6 (k * 10 + 0) _ (by rw [dcells_get l k hk 0 (by omega)]; rfl)
  have hc : ∀ j u, j < 10 → (l[k].cells)[j]? = some u → w.cell? ⟨b, off + (k * 10 + j), none⟩ = some u := fun j u hj hu => by
    obtain ⟨b1, off1, e1, _, c1⟩ := h6 (k * 10 + j) u (by rw [dcells_get l k hk j hj]; exact hu)
    simp only [Option.some.injEq, Addr.mk.injEq, and_true] at e1
    obtain ⟨rfl, rfl⟩ := e1
    exact c1
  refine ⟨b, off, rfl, hb, c0, ?_, ?_, ?_, ?_, ?_, ?_, ?_, ?_, ?_⟩
  · rw [Nat.add_assoc]; exact hc 1 _ (by omega) rfl
  · rw [Nat.add_assoc]; exact hc 2 _ (by omega) rfl
  · rw [Nat.add_assoc]; exact hc 3 _ (by omega) rfl
  · rw [Nat.add_assoc]; exact hc 4 _ (by omega) rfl
  · rw [Nat.add_assoc]; exact hc 5 _ (by omega) rfl
  · rw [Nat.add_assoc]; exact hc 6 _ (by omega) rfl
  · rw [Nat.add_assoc]; exact hc 7 _ (by omega) rfl
  · rw [Nat.add_assoc]; exact hc 8 _ (by omega) rfl
  · rw [Nat.add_assoc]; exact hc 9 _ (by omega) rfl

set_option linter.unusedSimpArgs false in
set_option linter.unusedVariables false in
set_option linter.unnecessarySimpa false in
theorem fbytes_max (l : List F) (hb : ∀ f ∈ l, f.n.length ≤ 140737488355328 ∧ f.v.length ≤ 140737488355328) : fbytes l ≤ 281476050452512 := by
  have : ∀ (l : List F) (n : Nat), (∀ f ∈ l, f.n.length ≤ 140737488355328 ∧ f.v.length ≤ 140737488355328) → n ≤ 281476050452512 → l.foldl fbStep n ≤ 281476050452512 := by
    intro l
    induction l with
    | nil => exact fun n _ h => h
    | cons f l ih =>
      intro n hb hn
      refine ih _ (fun g hg => hb g (List.mem_cons_of_mem _ hg)) ?_
      have := hb f (by simp)
      unfold fbStep
      split <;> omega
  exact this l 0 hb (Nat.zero_le _)

/-- What 'few' grants of a step. -/
structure Small (d : Dv) : Prop where
  key : d.q.key.length ≤ 65536
  body : d.q.body.length ≤ 2097152
  lp : d.lp.length ≤ 50
  lpe : ∀ p ∈ d.lp, p.n.length ≤ 1000 ∧ p.v.length ≤ 10000
  lf : fsum d.lf ≤ 131072
  ll : fsum d.ll ≤ 131072
set_option linter.unusedSimpArgs false in
set_option linter.unusedVariables false in
set_option linter.unnecessarySimpa false in
theorem Small.sum {d : Dv} (h : Small d) : fsum d.lp ≤ 551600 := by
  have : ∀ l : List F, (∀ p ∈ l, p.n.length ≤ 1000 ∧ p.v.length ≤ 10000) → fsum l ≤ l.length * 11032 := by
    intro l
    induction l with
    | nil => intro _; simp [fsum]
    | cons f l ih =>
      intro h
      have h1 := ih fun p hp => h p (List.mem_cons_of_mem _ hp)
      have h2 := h f (by simp)
      simp only [fsum, List.map_cons, List.sum_cons, List.length_cons] at *
      omega
  have h1 := this d.lp h.lpe
  have h2 := h.lp
  omega
/-- What is known of a step that came in. -/
def Dv.Ok (d : Dv) : Prop := d.q.key.length ≤ 140737488355328 ∧ d.q.body.length ≤ 140737488355328 ∧ (∀ f ∈ d.lp, f.n.length ≤ 140737488355328 ∧ f.v.length ≤ 140737488355328) ∧ (∀ f ∈ d.lf, f.n.length ≤ 140737488355328 ∧ f.v.length ≤ 140737488355328) ∧ (∀ f ∈ d.ll, f.n.length ≤ 140737488355328 ∧ f.v.length ≤ 140737488355328)
end Go.Dr
