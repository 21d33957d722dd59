
/- A shelf in memory: the words for it, and what its answers are, in plain terms. -/
import Derived.Test.YtnflihjgbkocnaaDoorPmp
import Derived.Test.YtnflihjgbkocnaaDoorProg
import Derived.Test.YtnflihjgbkocnaaDoorOpen
namespace Go.Dr
open Go.RowKit

/-- An entry that lies on a shelf, and its number. -/
structure It where
  id : Int
  key : Bytes
  lp : List F
  st : Int
  lf : List F
  body : Bytes
  asked : Int
  came : Int
def It.cost (x : It) : Nat := 64 + x.key.length + x.body.length + fsum x.lf + fsum x.lp
def It.of (id : Int) (q : En) (lp lf : List F) : It := ⟨id, q.key, lp, q.st, lf, q.body, q.asked, q.came⟩
/-- A link: its block, the cells of its two lists, what it holds. -/
structure Nd where
  b : Nat
  vp : Value
  vf : Value
  x : It
def Nd.k (n : Nd) : K := ⟨n.x.id, n.x.cost, n.x.key, n.vp, n.x.st, n.vf, n.x.body, n.x.asked, n.x.came⟩
def Nd.n (n : Nd) : N := (n.b, n.k)
def Nd.en (n : Nd) : En := ⟨n.x.key, n.vp, n.x.st, n.vf, n.x.body, n.x.asked, n.x.came⟩
def costs (l : List It) : Nat := (l.map It.cost).sum
set_option linter.unusedSimpArgs false in
set_option linter.unusedVariables false in
set_option linter.unnecessarySimpa false in
theorem costs_append (a b : List It) : costs (a ++ b) = costs a + costs b := by simp [costs]
set_option linter.unusedSimpArgs false in
set_option linter.unusedVariables false in
set_option linter.unnecessarySimpa false in
theorem costs_cons (x : It) (l : List It) : costs (x :: l) = x.cost + costs l := by simp [costs]
@[simp] theorem costs_nil : costs [] = 0 := rfl
set_option linter.unusedSimpArgs false in
set_option linter.unusedVariables false in
set_option linter.unnecessarySimpa false in
theorem nd_blocks (l : List Nd) : (l.map Nd.n).map (·.1) = l.map Nd.b := by simp [Nd.n]
/-- The seven cells of an entry are written. -/
abbrev put7 (w : World) (g : Nat) (b0 b1 b2 b3 b4 b5 b6 : Value) : World := (((((((w.setCell ⟨g, 0, none⟩ b0).setCell ⟨g, 1, none⟩ b1).setCell ⟨g, 2, none⟩ b2).setCell ⟨g, 3, none⟩ b3).setCell ⟨g, 4, none⟩ b4).setCell ⟨g, 5, none⟩ b5).setCell ⟨g, 6, none⟩ b6)
set_option linter.unusedSimpArgs false in
set_option linter.unusedVariables false in
set_option linter.unnecessarySimpa false in
theorem Blk.put7 {w : World} {g : Nat} {t : TypeId} {z0 z1 z2 z3 z4 z5 z6 : Value} (h : Blk w g t #[z0, z1, z2, z3, z4, z5, z6]) (b0 b1 b2 b3 b4 b5 b6 : Value) : Blk (put7 w g b0 b1 b2 b3 b4 b5 b6) g t #[b0, b1, b2, b3, b4, b5, b6] := by
  have := ((((((h.set 0 b0).set 1 b1).set 2 b2).set 3 b3).set 4 b4).set 5 b5).set 6 b6
  simpa using this
set_option linter.unusedSimpArgs false in
set_option linter.unusedVariables false in
set_option linter.unnecessarySimpa false in
theorem heap_put7 (w : World) (g : Nat) (b0 b1 b2 b3 b4 b5 b6 : Value) (k : Nat) (hk : k ≠ g) : (put7 w g b0 b1 b2 b3 b4 b5 b6).heap[k]? = w.heap[k]? := by
  unfold put7
  rw [Below.heap_setCell _ _ _ k hk, Below.heap_setCell _ _ _ k hk, Below.heap_setCell _ _ _ k hk, Below.heap_setCell _ _ _ k hk, Below.heap_setCell _ _ _ k hk, Below.heap_setCell _ _ _ k hk, Below.heap_setCell _ _ _ k hk]
set_option linter.unusedSimpArgs false in
set_option linter.unusedVariables false in
set_option linter.unnecessarySimpa false in
theorem put7_below {B : Nat} {a w : World} (h : Below B a w) {g : Nat} (hg : B ≤ g) (b0 b1 b2 b3 b4 b5 b6 : Value) : Below B a (put7 w g b0 b1 b2 b3 b4 b5 b6) :=
  ((((((h.setCell (p := ⟨g, 0, none⟩) hg b0).setCell (p := ⟨g, 1, none⟩) hg b1).setCell (p := ⟨g, 2, none⟩) hg b2).setCell (p := ⟨g, 3, none⟩) hg b3).setCell (p := ⟨g, 4, none⟩) hg b4).setCell (p := ⟨g, 5, none⟩) hg b5).setCell (p := ⟨g, 6, none⟩) hg b6
end Go.Dr
namespace Go.Proofs.YtnflihjgbkocnaaDoor
open Go.RowKit Go.Dr

def Rows (rb : Nat) (w : World) (n : Nd) : Prop := w.ownsRow rb 53 3 n.vp n.x.lp.length (fcells n.x.lp) ∧ w.ownsRow rb 62 3 n.vf n.x.lf.length (fcells n.x.lf)
/-- The blocks of a shelf. -/
def Foot (s R m : Nat) (l : List Nd) (k : Nat) : Prop := k = s ∨ k = m ∨ k = R ∨ k ∈ l.map Nd.b

/-- A shelf: its block s, its root R, its map m, its room, the last number, its links. The blocks are fb or above, the links' lists rb or above. -/
structure Sh (fb rb : Nat) (w : World) (s R m : Nat) (most last : Int) (l : List Nd) : Prop where
  blk : Blk w s 60 #[.int .i64 most, .int .i64 (costs (l.map Nd.x) : Nat), .int .i64 last, Ptr R, .map (some m)]
  ring : Ring w 57 R (l.map Nd.n)
  map : PMap Tryd.prog 3 w m (l.map fun n => (n.x.id, n.b))
  rows : ∀ n ∈ l, Rows rb w n
  base : ∀ k, Foot s R m l k → fb ≤ k
  room : (costs (l.map Nd.x) : Int) ≤ most
  most1 : most ≤ 1048576

set_option linter.unusedSimpArgs false in
set_option linter.unusedVariables false in
set_option linter.unnecessarySimpa false in
theorem Rows.block {rb : Nat} {w w' : World} {n : Nd} (h : Rows rb w n) (hb : ∀ g cur, (w.heap[g]? = some (.cells cur 53 (0, 0)) ∨ w.heap[g]? = some (.cells cur 62 (0, 0))) → rb ≤ g → w'.heap[g]? = w.heap[g]?) : Rows rb w' n :=
  ⟨own_block h.1 fun g cur hg hr => hb g cur (.inl hg) hr, own_block h.2 fun g cur hg hr => hb g cur (.inr hg) hr⟩
set_option linter.unusedSimpArgs false in
set_option linter.unusedVariables false in
set_option linter.unnecessarySimpa false in
theorem Rows.below {rb : Nat} {w w' : World} {n : Nd} (h : Rows rb w n) (hb : Below w.heap.size w w') : Rows rb w' n := ⟨own_below h.1 hb, own_below h.2 hb⟩

section
variable {fb rb : Nat} {w w' : World} {s R m : Nat} {most last : Int} {l : List Nd}
set_option linter.unusedSimpArgs false in
set_option linter.unusedVariables false in
set_option linter.unnecessarySimpa false in
theorem Sh.ndlt (h : Sh fb rb w s R m most last l) {n : Nd} (hn : n ∈ l) : n.b < w.heap.size := h.ring.lt (b := n.b) (by rw [nd_blocks]; simp; exact .inr ⟨n, hn, rfl⟩)
set_option linter.unusedSimpArgs false in
set_option linter.unusedVariables false in
set_option linter.unnecessarySimpa false in
theorem Sh.rlt (h : Sh fb rb w s R m most last l) : R < w.heap.size := h.ring.lt (b := R) (by simp)
set_option linter.unusedSimpArgs false in
set_option linter.unusedVariables false in
set_option linter.unnecessarySimpa false in
theorem Sh.foot_lt (h : Sh fb rb w s R m most last l) {k : Nat} (hk : Foot s R m l k) : k < w.heap.size := by
  rcases hk with rfl | rfl | rfl | hk
  · exact h.blk.lt
  · exact h.map.lt
  · exact h.rlt
  · obtain ⟨n, hn, rfl⟩ := List.mem_map.1 hk
    exact h.ndlt hn
set_option linter.unusedSimpArgs false in
set_option linter.unusedVariables false in
set_option linter.unnecessarySimpa false in
theorem Sh.at {a b : List Nd} {n : Nd} (h : Sh fb rb w s R m most last (a ++ n :: b)) : Blk w n.b 57 (n.k.cells (lastOr (a.map Nd.n) R) (headOr (b.map Nd.n) R)) := by
  have := h.ring
  rw [List.map_append, List.map_cons] at this
  exact this.at
set_option linter.unusedSimpArgs false in
set_option linter.unusedVariables false in
set_option linter.unnecessarySimpa false in
theorem Sh.nd (h : Sh fb rb w s R m most last l) {n : Nd} (hn : n ∈ l) : ∃ p q, Blk w n.b 57 (n.k.cells p q) := by
  obtain ⟨a, b, rfl⟩ := List.append_of_mem hn
  exact ⟨_, _, h.at⟩
set_option linter.unusedSimpArgs false in
set_option linter.unusedVariables false in
set_option linter.unnecessarySimpa false in
/-- A block of another kind than the shelf's is none of its. -/
theorem Sh.off (h : Sh fb rb w s R m most last l) {g : Nat} {t : TypeId} {xs : Array Value} (hg : w.heap[g]? = some (.cells xs t (0, 0))) (h1 : t ≠ 60) (h2 : t ≠ 57) : ¬ Foot s R m l g := by
  rintro (rfl | rfl | rfl | hk)
  · have := h.blk
    unfold Blk at this
    rw [hg] at this
    simp only [Option.some.injEq, Obj.cells.injEq] at this
    exact h1 this.2.1
  · obtain ⟨es, clock, e⟩ := h.map.obj
    rw [hg] at e
    simp at e
  · have := h.ring.root
    unfold Blk at this
    rw [hg] at this
    simp only [Option.some.injEq, Obj.cells.injEq] at this
    exact h2 this.2.1
  · obtain ⟨n, hn, rfl⟩ := List.mem_map.1 hk
    obtain ⟨p, q, this⟩ := h.nd hn
    unfold Blk at this
    rw [hg] at this
    simp only [Option.some.injEq, Obj.cells.injEq] at this
    exact h2 this.2.1
set_option linter.unusedSimpArgs false in
set_option linter.unusedVariables false in
set_option linter.unnecessarySimpa false in
theorem Sh.keep (h : Sh fb rb w s R m most last l) (hk : ∀ k, Foot s R m l k → w'.heap[k]? = w.heap[k]?) (hr : ∀ n ∈ l, Rows rb w' n) : Sh fb rb w' s R m most last l where
  blk := h.blk.block (hk s (.inl rfl))
  ring := h.ring.block fun b hb => hk b (by
    rw [nd_blocks, List.mem_cons] at hb
    rcases hb with rfl | hb
    · exact .inr (.inr (.inl rfl))
    · exact .inr (.inr (.inr hb)))
  map := h.map.block (hk m (.inr (.inl rfl)))
  rows := hr
  base := h.base
  room := h.room
  most1 := h.most1
set_option linter.unusedSimpArgs false in
set_option linter.unusedVariables false in
set_option linter.unnecessarySimpa false in
theorem Sh.below (h : Sh fb rb w s R m most last l) (hb : Below w.heap.size w w') : Sh fb rb w' s R m most last l := h.keep (fun k hk => hb.block k (h.foot_lt hk)) fun n hn => (h.rows n hn).below hb
set_option linter.unusedSimpArgs false in
set_option linter.unusedVariables false in
set_option linter.unnecessarySimpa false in
theorem Sh.drew (h : Sh fb rb w s R m most last l) : Sh fb rb w.drew s R m most last l := ⟨h.blk, h.ring.block fun _ _ => rfl, h.map.block rfl, h.rows, h.base, h.room, h.most1⟩
set_option linter.unusedSimpArgs false in
set_option linter.unusedVariables false in
set_option linter.unnecessarySimpa false in
theorem Sh.ne_s (h : Sh fb rb w s R m most last l) : s ≠ R ∧ s ≠ m ∧ m ≠ R ∧ (∀ n ∈ l, n.b ≠ s ∧ n.b ≠ m ∧ n.b ≠ R) := by
  have h1 := h.blk
  obtain ⟨es, clock, h2⟩ := h.map.obj
  have h3 := h.ring.root
  unfold Blk at h1 h3
  refine ⟨?_, ?_, ?_, fun n hn => ⟨?_, ?_, ?_⟩⟩
  · rintro rfl; rw [h3] at h1; simp only [Option.some.injEq, Obj.cells.injEq] at h1; exact absurd h1.2.1 (by decide)
  · rintro rfl; rw [h2] at h1; simp at h1
  · rintro rfl; rw [h3] at h2; simp at h2
  · rintro rfl
    obtain ⟨p, q, this⟩ := h.nd hn
    unfold Blk at this
    rw [h1] at this; simp only [Option.some.injEq, Obj.cells.injEq] at this; exact absurd this.2.1 (by decide)
  · rintro rfl
    obtain ⟨p, q, this⟩ := h.nd hn
    unfold Blk at this
    rw [h2] at this; simp at this
  · intro e
    have := h.ring.nodup
    rw [nd_blocks, List.nodup_cons] at this
    exact this.1 (e ▸ List.mem_map_of_mem hn)
set_option linter.unusedSimpArgs false in
set_option linter.unusedVariables false in
set_option linter.unnecessarySimpa false in
theorem Sh.cost_le (h : Sh fb rb w s R m most last l) {n : Nd} (hn : n ∈ l) : n.x.cost ≤ 1048576 := by
  have h1 := h.room
  have h2 := h.most1
  obtain ⟨a, b, rfl⟩ := List.append_of_mem hn
  rw [List.map_append, List.map_cons, costs_append, costs_cons] at h1
  omega
set_option linter.unusedSimpArgs false in
set_option linter.unusedVariables false in
set_option linter.unnecessarySimpa false in
theorem Sh.ids (h : Sh fb rb w s R m most last l) : (l.map fun n => n.x.id).Nodup := by
  obtain ⟨D, _, _, _, h4, _⟩ := h.map
  simpa [List.map_map, Function.comp_def] using h4
end
end Go.Proofs.YtnflihjgbkocnaaDoor
