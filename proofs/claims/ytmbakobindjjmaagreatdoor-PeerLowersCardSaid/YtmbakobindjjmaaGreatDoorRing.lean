
/- A ring of links in memory: what stands where, and what the stores of a list in two directions leave. No program in sight. -/
import Derived.Test.YtmbakobindjjmaaGreatDoorBase
namespace Go.Dr
open Go.RowKit

abbrev Ptr (b : Nat) : Value := .pointer (some ⟨b, 0, none⟩)

/-- What a link holds beside its two pointers. -/
structure K where
  id : Int
  cost : Int
  key : Bytes
  vp : Value
  st : Int
  vf : Value
  body : Bytes
  asked : Int
  came : Int

def K.cells (k : K) (p q : Nat) : Array Value := #[.int .i64 k.id, .int .i64 k.cost, S k.key, k.vp, .int .i64 k.st, k.vf, S k.body, .int .i64 k.asked, .int .i64 k.came, Ptr p, Ptr q]
/-- The root holds nothing. -/
def K.zero : K := ⟨0, 0, [], .slice none 0 0, 0, .slice none 0 0, [], 0, 0⟩

abbrev N := Nat × K

/-- The block of the first, of the last, of some links; r, where there are none. -/
def headOr (l : List N) (r : Nat) : Nat := match l with | [] => r | n :: _ => n.1
def lastOr (l : List N) (r : Nat) : Nat := match l with | [] => r | n :: l => lastOr l n.1
@[simp] theorem headOr_nil (r : Nat) : headOr [] r = r := rfl
@[simp] theorem headOr_cons (n : N) (l : List N) (r : Nat) : headOr (n :: l) r = n.1 := rfl
@[simp] theorem lastOr_nil (r : Nat) : lastOr [] r = r := rfl
@[simp] theorem lastOr_cons (n : N) (l : List N) (r : Nat) : lastOr (n :: l) r = lastOr l n.1 := rfl
set_option linter.unusedSimpArgs false in
set_option linter.unusedVariables false in
set_option linter.unnecessarySimpa false in
theorem headOr_append (a b : List N) (r : Nat) : headOr (a ++ b) r = headOr a (headOr b r) := by cases a <;> rfl
set_option linter.unusedSimpArgs false in
set_option linter.unusedVariables false in
set_option linter.unnecessarySimpa false in
theorem lastOr_append (a b : List N) (r : Nat) : lastOr (a ++ b) r = lastOr b (lastOr a r) := by
  induction a generalizing r with
  | nil => rfl
  | cons n a ih => simp [ih]
set_option linter.unusedSimpArgs false in
set_option linter.unusedVariables false in
set_option linter.unnecessarySimpa false in
theorem lastOr_mem (l : List N) (r : Nat) : lastOr l r = r ∨ lastOr l r ∈ l.map (·.1) := by
  induction l generalizing r with
  | nil => exact .inl rfl
  | cons n l ih =>
    rcases ih n.1 with h | h
    · exact .inr (by simp [h])
    · exact .inr (by simp at h ⊢; exact .inr h)
set_option linter.unusedSimpArgs false in
set_option linter.unusedVariables false in
set_option linter.unnecessarySimpa false in
theorem headOr_mem (l : List N) (r : Nat) : headOr l r = r ∨ headOr l r ∈ l.map (·.1) := by
  cases l <;> simp

/-- Links one behind the other: p is ahead of the first, q behind the last. -/
def Chain (w : World) (t : TypeId) : Nat → List N → Nat → Prop
  | _, [], _ => True
  | p, n :: l, q => Blk w n.1 t (n.2.cells p (headOr l q)) ∧ Chain w t n.1 l q

set_option linter.unusedSimpArgs false in
set_option linter.unusedVariables false in
set_option linter.unnecessarySimpa false in
theorem Chain.append {w : World} {t : TypeId} {p q : Nat} {a b : List N} : Chain w t p (a ++ b) q ↔ Chain w t p a (headOr b q) ∧ Chain w t (lastOr a p) b q := by
  induction a generalizing p with
  | nil => simp [Chain]
  | cons n a ih =>
    simp only [List.cons_append, Chain, lastOr_cons, ih, headOr_append]
    exact ⟨fun h => ⟨⟨h.1, h.2.1⟩, h.2.2⟩, fun h => ⟨h.1.1, h.1.2, h.2⟩⟩

set_option linter.unusedSimpArgs false in
set_option linter.unusedVariables false in
set_option linter.unnecessarySimpa false in
/-- A chain stays where its blocks do. -/
theorem Chain.block {w w' : World} {t : TypeId} {p q : Nat} {l : List N} (h : Chain w t p l q) (hb : ∀ b ∈ l.map (·.1), w'.heap[b]? = w.heap[b]?) : Chain w' t p l q := by
  induction l generalizing p with
  | nil => trivial
  | cons n l ih =>
    exact ⟨h.1.block (hb _ (by simp)), ih h.2 fun b hb' => hb b (by simp at hb' ⊢; exact .inr hb')⟩
set_option linter.unusedSimpArgs false in
set_option linter.unusedVariables false in
set_option linter.unnecessarySimpa false in
theorem Chain.lt {w : World} {t : TypeId} {p q : Nat} {l : List N} (h : Chain w t p l q) {b : Nat} (hb : b ∈ l.map (·.1)) : b < w.heap.size := by
  induction l generalizing p with
  | nil => cases hb
  | cons n l ih =>
    simp only [List.map_cons, List.mem_cons] at hb
    rcases hb with rfl | hb
    · exact h.1.lt
    · exact ih h.2 hb
set_option linter.unusedSimpArgs false in
set_option linter.unusedVariables false in
set_option linter.unnecessarySimpa false in
theorem Chain.below {w w' : World} {t : TypeId} {p q : Nat} {l : List N} (h : Chain w t p l q) (hb : Below w.heap.size w w') : Chain w' t p l q := h.block fun _ hm => hb.block _ (h.lt hm)
set_option linter.unusedSimpArgs false in
set_option linter.unusedVariables false in
set_option linter.unnecessarySimpa false in
theorem Chain.far {w : World} {t : TypeId} {p q : Nat} {l : List N} (h : Chain w t p l q) {a : Addr} (ha : a.block ∉ l.map (·.1)) (u : Value) : Chain (w.setCell a u) t p l q :=
  h.block fun b hb => Below.heap_setCell w a u b fun e => ha (e ▸ hb)
set_option linter.unusedSimpArgs false in
set_option linter.unusedVariables false in
set_option linter.unnecessarySimpa false in
theorem Chain.at {w : World} {t : TypeId} {p q : Nat} {a b : List N} {n : N} (h : Chain w t p (a ++ n :: b) q) : Blk w n.1 t (n.2.cells (lastOr a p) (headOr b q)) := (Chain.append.1 h).2.1

set_option linter.unusedSimpArgs false in
set_option linter.unusedVariables false in
set_option linter.unnecessarySimpa false in
theorem K.set9 (k : K) (p q r : Nat) : (k.cells p q).setIfInBounds 9 (Ptr r) = k.cells r q := by simp [K.cells]
set_option linter.unusedSimpArgs false in
set_option linter.unusedVariables false in
set_option linter.unnecessarySimpa false in
theorem K.set10 (k : K) (p q r : Nat) : (k.cells p q).setIfInBounds 10 (Ptr r) = k.cells p r := by simp [K.cells]

set_option linter.unusedSimpArgs false in
set_option linter.unusedVariables false in
set_option linter.unnecessarySimpa false in
/-- The last one's pointer to the next one is turned. -/
theorem Chain.setNext {w : World} {t : TypeId} {p q r : Nat} {l : List N} (h : Chain w t p l q) (hn : (l.map (·.1)).Nodup) (hl : l ≠ []) : Chain (w.setCell ⟨lastOr l p, 10, none⟩ (Ptr r)) t p l r := by
  induction l generalizing p with
  | nil => exact absurd rfl hl
  | cons n l ih =>
    simp only [List.map_cons, List.nodup_cons] at hn
    cases l with
    | nil =>
      refine ⟨?_, trivial⟩
      have := h.1.set 10 (Ptr r)
      rwa [K.set10] at this
    | cons m l =>
      refine ⟨h.1.other ?_ _, ih h.2 hn.2 (by simp)⟩
      rcases lastOr_mem l m.1 with e | e
      · simp only [lastOr_cons, e]
        exact fun e2 => hn.1 (by simp [e2])
      · simp only [lastOr_cons]
        exact fun e2 => hn.1 (by rw [e2]; simp at e ⊢; exact .inr e)
set_option linter.unusedSimpArgs false in
set_option linter.unusedVariables false in
set_option linter.unnecessarySimpa false in
/-- The first one's pointer to the one ahead is turned. -/
theorem Chain.setAhead {w : World} {t : TypeId} {p q r : Nat} {l : List N} (h : Chain w t p l q) (hn : (l.map (·.1)).Nodup) (z : Nat) (hl : l ≠ []) : Chain (w.setCell ⟨headOr l z, 9, none⟩ (Ptr r)) t r l q := by
  cases l with
  | nil => exact absurd rfl hl
  | cons n l =>
    simp only [List.map_cons, List.nodup_cons] at hn
    refine ⟨?_, h.2.far hn.1 _⟩
    have := h.1.set 9 (Ptr r)
    rwa [K.set9] at this

/-- A ring: the root r and the links behind it. -/
structure Ring (w : World) (t : TypeId) (r : Nat) (l : List N) : Prop where
  nodup : (r :: l.map (·.1)).Nodup
  chain : Chain w t (lastOr l r) ((r, K.zero) :: l) r

set_option linter.unusedSimpArgs false in
set_option linter.unusedVariables false in
set_option linter.unnecessarySimpa false in
theorem Ring.root {w : World} {t : TypeId} {r : Nat} {l : List N} (h : Ring w t r l) : Blk w r t (K.zero.cells (lastOr l r) (headOr l r)) := h.chain.1
set_option linter.unusedSimpArgs false in
set_option linter.unusedVariables false in
set_option linter.unnecessarySimpa false in
theorem Ring.block {w w' : World} {t : TypeId} {r : Nat} {l : List N} (h : Ring w t r l) (hb : ∀ b ∈ r :: l.map (·.1), w'.heap[b]? = w.heap[b]?) : Ring w' t r l := ⟨h.nodup, h.chain.block hb⟩
set_option linter.unusedSimpArgs false in
set_option linter.unusedVariables false in
set_option linter.unnecessarySimpa false in
theorem Ring.lt {w : World} {t : TypeId} {r : Nat} {l : List N} (h : Ring w t r l) {b : Nat} (hb : b ∈ r :: l.map (·.1)) : b < w.heap.size := h.chain.lt hb
set_option linter.unusedSimpArgs false in
set_option linter.unusedVariables false in
set_option linter.unnecessarySimpa false in
theorem Ring.below {w w' : World} {t : TypeId} {r : Nat} {l : List N} (h : Ring w t r l) (hb : Below w.heap.size w w') : Ring w' t r l := ⟨h.nodup, h.chain.below hb⟩
set_option linter.unusedSimpArgs false in
set_option linter.unusedVariables false in
set_option linter.unnecessarySimpa false in
theorem Ring.at {w : World} {t : TypeId} {r : Nat} {a b : List N} {n : N} (h : Ring w t r (a ++ n :: b)) : Blk w n.1 t (n.2.cells (lastOr a r) (headOr b r)) := by
  have := h.chain
  rw [← List.cons_append] at this
  exact this.at

set_option linter.unusedSimpArgs false in
set_option linter.unusedVariables false in
set_option linter.unnecessarySimpa false in
theorem headOr_out (l : List N) (b : Nat) (hb : l ≠ []) (r : Nat) : headOr l r = headOr l b := by cases l <;> simp_all

set_option linter.unusedSimpArgs false in
set_option linter.unusedVariables false in
set_option linter.unnecessarySimpa false in
/-- A link leaves: 'l.ahead.next, l.next.ahead = l.next, l.ahead'. -/
theorem Ring.out {w : World} {t : TypeId} {r : Nat} {a b : List N} {n : N} (h : Ring w t r (a ++ n :: b)) :
    Ring ((w.setCell ⟨lastOr a r, 10, none⟩ (Ptr (headOr b r))).setCell ⟨headOr b r, 9, none⟩ (Ptr (lastOr a r))) t r (a ++ b) := by
  obtain ⟨hn, hc⟩ := h
  have hn' : (r :: (a ++ b).map (·.1)).Nodup := by
    simp only [List.map_append, List.map_cons, List.nodup_cons, List.nodup_append, List.mem_append, List.mem_cons] at hn ⊢
    grind
  refine ⟨hn', ?_⟩
  have hnA : (((r, K.zero) :: a).map (·.1)).Nodup := by
    simp only [List.map_append, List.map_cons, List.nodup_cons, List.nodup_append, List.mem_append, List.mem_cons] at hn ⊢
    grind
  have hnB : (b.map (·.1)).Nodup := by
    simp only [List.map_append, List.map_cons, List.nodup_cons, List.nodup_append, List.mem_append, List.mem_cons] at hn ⊢
    grind
  have hAB : ∀ x ∈ r :: a.map (·.1), x ∉ b.map (·.1) := by
    simp only [List.map_append, List.map_cons, List.nodup_cons, List.nodup_append, List.mem_append, List.mem_cons] at hn ⊢
    grind
  rw [← List.cons_append] at hc ⊢
  obtain ⟨h1, h2⟩ := Chain.append.1 hc
  obtain ⟨-, h3⟩ := h2
  have hA := h1.setNext (r := headOr b r) hnA (by simp)
  have hlast : lastOr ((r, K.zero) :: a) (lastOr (a ++ n :: b) r) = lastOr a r := rfl
  rw [hlast] at hA
  have hpm : lastOr a r ∈ r :: a.map (·.1) := by rcases lastOr_mem a r with e | e <;> simp [e]
  have hB := h3.far (a := ⟨lastOr a r, 10, none⟩) (hAB _ hpm) (Ptr (headOr b r))
  cases hbn : b with
  | nil =>
    subst hbn
    simp only [List.append_nil, headOr_nil, lastOr_append, lastOr_cons, lastOr_nil] at *
    exact hA.setAhead (r := lastOr a r) hnA r (by simp)
  | cons m b' =>
    have hne : b ≠ [] := by rw [hbn]; simp
    rw [← hbn]
    refine Chain.append.2 ⟨?_, ?_⟩
    · have hq : headOr b r ∉ ((r, K.zero) :: a).map (·.1) := by
        intro hm
        refine hAB _ hm ?_
        rw [hbn]; simp
      have e : lastOr (a ++ b) r = lastOr (a ++ n :: b) r := by
        rw [lastOr_append, lastOr_append, hbn]; rfl
      rw [e]
      exact hA.far hq _
    · have := hB.setAhead (r := lastOr a r) hnB r hne
      exact this

set_option linter.unusedSimpArgs false in
set_option linter.unusedVariables false in
set_option linter.unnecessarySimpa false in
/-- A link is laid at the end: 'l.ahead, l.next = root.ahead, root', 'root.ahead.next = l', 'root.ahead = l'. -/
theorem Ring.used {w : World} {t : TypeId} {r : Nat} {a : List N} {n : N} (h : Ring w t r a) (cs : Array Value) (hx : Blk w n.1 t cs) (hcs : ∀ p q, (cs.setIfInBounds 9 (Ptr p)).setIfInBounds 10 (Ptr q) = n.2.cells p q) (hnew : n.1 ∉ r :: a.map (·.1)) :
    Ring ((((w.setCell ⟨n.1, 9, none⟩ (Ptr (lastOr a r))).setCell ⟨n.1, 10, none⟩ (Ptr r)).setCell ⟨lastOr a r, 10, none⟩ (Ptr n.1)).setCell ⟨r, 9, none⟩ (Ptr n.1)) t r (a ++ [n]) := by
  obtain ⟨hn, hc⟩ := h
  have hn' : (r :: (a ++ [n]).map (·.1)).Nodup := by
    simp only [List.map_append, List.map_cons, List.map_nil, List.nodup_cons, List.nodup_append, List.mem_append, List.mem_cons, List.not_mem_nil] at hn hnew ⊢
    grind
  refine ⟨hn', ?_⟩
  have e1 := hx.set 9 (Ptr (lastOr a r))
  have e2 := e1.set 10 (Ptr r)
  rw [hcs] at e2
  have hpm : lastOr a r ∈ r :: a.map (·.1) := by rcases lastOr_mem a r with e | e <;> simp [e]
  have e3 := e2.other (p := ⟨lastOr a r, 10, none⟩) (fun e => hnew (by rw [e]; exact hpm)) (Ptr n.1)
  have e4 := e3.other (p := ⟨r, 9, none⟩) (fun e => hnew (by rw [e]; simp)) (Ptr n.1)
  have c1 := hc.far (a := ⟨n.1, 9, none⟩) hnew (Ptr (lastOr a r))
  have c2 := c1.far (a := ⟨n.1, 10, none⟩) hnew (Ptr r)
  have c3 := c2.setNext (r := n.1) hn (by simp)
  have c4 := c3.setAhead (r := n.1) hn r (by simp)
  rw [← List.cons_append]
  refine Chain.append.2 ⟨?_, ?_⟩
  · rw [lastOr_append]
    exact c4
  · exact ⟨e4, trivial⟩

set_option linter.unusedSimpArgs false in
set_option linter.unusedVariables false in
set_option linter.unnecessarySimpa false in
theorem ring_none (w : World) (t : TypeId) (r : Nat) (h : Blk w r t (K.zero.cells r r)) : Ring w t r [] := ⟨by simp, h, trivial⟩

/-- Nothing that was there has turned, but, from block B on, objects of some kind. -/
structure Frame (B : Nat) (T : Obj → Prop) (w w' : World) : Prop where
  os : w'.os = w.os
  tape : w'.tape = w.tape
  output : w'.output = w.output
  size : w.heap.size ≤ w'.heap.size
  block : ∀ k, k < w.heap.size → (k < B ∨ ∀ o, w.heap[k]? = some o → ¬ T o) → w'.heap[k]? = w.heap[k]?
set_option linter.unusedSimpArgs false in
set_option linter.unusedVariables false in
set_option linter.unnecessarySimpa false in
theorem Frame.refl (B : Nat) (T : Obj → Prop) (w : World) : Frame B T w w := ⟨rfl, rfl, rfl, Nat.le_refl _, fun _ _ _ => rfl⟩
set_option linter.unusedSimpArgs false in
set_option linter.unusedVariables false in
set_option linter.unnecessarySimpa false in
theorem Frame.of_below {B : Nat} {T : Obj → Prop} {w w' : World} (h : Below w.heap.size w w') : Frame B T w w' := ⟨h.os, h.tape, h.output, h.size, fun k hk _ => h.block k hk⟩
set_option linter.unusedSimpArgs false in
set_option linter.unusedVariables false in
set_option linter.unnecessarySimpa false in
theorem Frame.trans {B : Nat} {T : Obj → Prop} {a b c : World} (h : Frame B T a b) (k : Frame B T b c) : Frame B T a c :=
  ⟨k.os.trans h.os, k.tape.trans h.tape, k.output.trans h.output, Nat.le_trans h.size k.size, fun i hi hT => by
    have e := h.block i hi hT
    exact (k.block i (Nat.lt_of_lt_of_le hi h.size) (hT.imp id fun hT o ho => hT o (e ▸ ho))).trans e⟩
set_option linter.unusedSimpArgs false in
set_option linter.unusedVariables false in
set_option linter.unnecessarySimpa false in
theorem Frame.more {B B' : Nat} {T T' : Obj → Prop} {a b : World} (h : Frame B T a b) (hB : B' ≤ B) (hT : ∀ o, T o → T' o) : Frame B' T' a b :=
  ⟨h.os, h.tape, h.output, h.size, fun i hi hX => h.block i hi (hX.imp (fun h => by omega) fun hX o ho ht => hX o ho (hT o ht))⟩
set_option linter.unusedSimpArgs false in
set_option linter.unusedVariables false in
set_option linter.unnecessarySimpa false in
theorem Frame.drew {B : Nat} {T : Obj → Prop} {a w : World} (h : Frame B T a w) : Frame B T a w.drew := ⟨h.os, h.tape, h.output, h.size, h.block⟩
set_option linter.unusedSimpArgs false in
set_option linter.unusedVariables false in
set_option linter.unnecessarySimpa false in
theorem Frame.alloc {B : Nat} {T : Obj → Prop} {a w : World} (h : Frame B T a w) (o : Obj) : Frame B T a (w.alloc o) := h.trans (Frame.of_below ((Below.refl _ _).alloc (Nat.le_refl _) _))
set_option linter.unusedSimpArgs false in
set_option linter.unusedVariables false in
set_option linter.unnecessarySimpa false in
theorem Frame.step {B : Nat} {T : Obj → Prop} {w : World} {p : Addr} {o : Obj} (hp : B ≤ p.block) (ho : w.heap[p.block]? = some o) (hT : T o) (u : Value) : Frame B T w (w.setCell p u) :=
  ⟨rfl, rfl, rfl, by simp [World.setCell], fun i _ hX => Below.heap_setCell w p u i fun e => by
    subst e
    rcases hX with h | h
    · omega
    · exact h _ ho hT⟩
set_option linter.unusedSimpArgs false in
set_option linter.unusedVariables false in
set_option linter.unnecessarySimpa false in
/-- A store into what is new. -/
theorem Frame.new {B : Nat} {T : Obj → Prop} {a w : World} (h : Frame B T a w) {p : Addr} (hp : a.heap.size ≤ p.block) (u : Value) : Frame B T a (w.setCell p u) :=
  ⟨h.os, h.tape, h.output, by simpa [World.setCell] using h.size, fun i hi hX => (Below.heap_setCell w p u i (fun e => by omega)).trans (h.block i hi hX)⟩
set_option linter.unusedSimpArgs false in
set_option linter.unusedVariables false in
set_option linter.unnecessarySimpa false in
theorem Frame.setCell {B : Nat} {T : Obj → Prop} {a w : World} (h : Frame B T a w) {p : Addr} {o : Obj} (hp : B ≤ p.block) (ho : w.heap[p.block]? = some o) (hT : T o) (u : Value) : Frame B T a (w.setCell p u) := h.trans (Frame.step hp ho hT u)
set_option linter.unusedSimpArgs false in
set_option linter.unusedVariables false in
set_option linter.unnecessarySimpa false in
theorem Frame.grown {B : Nat} {T : Obj → Prop} {w w' : World} {b : Nat} {o : Obj} (hg : w.grownBy w' (some b)) (hB : B ≤ b) (ho : w.heap[b]? = some o) (hT : T o) : Frame B T w w' :=
  ⟨hg.os, hg.tape, hg.output, hg.size, fun i hi hX => hg.block i hi (fun e => by
    obtain rfl := Option.some.inj e
    rcases hX with h | h
    · omega
    · exact h _ ho hT)⟩
set_option linter.unusedSimpArgs false in
set_option linter.unusedVariables false in
set_option linter.unnecessarySimpa false in
theorem Frame.below {B : Nat} {T : Obj → Prop} {a b : World} (h : Frame B T a b) (hB : B ≤ a.heap.size) : Below B a b := ⟨h.os, h.tape, h.output, h.size, fun i hi => h.block i (by omega) (.inl hi)⟩
set_option linter.unusedSimpArgs false in
set_option linter.unusedVariables false in
set_option linter.unnecessarySimpa false in
theorem Blk.frame {B : Nat} {T : Obj → Prop} {w w' : World} {b : Nat} {t : TypeId} {xs : Array Value} (h : Blk w b t xs) (hf : Frame B T w w') (hT : ¬ T (.cells xs t (0, 0))) : Blk w' b t xs :=
  h.block (hf.block b h.lt (.inr fun o ho => by rw [show w.heap[b]? = _ from h] at ho; injection ho with ho; subst ho; exact hT))
set_option linter.unusedSimpArgs false in
set_option linter.unusedVariables false in
set_option linter.unnecessarySimpa false in
theorem own_frame {B : Nat} {T : Obj → Prop} {base : Nat} {w w' : World} {e : TypeId} {size : Nat} {v : Value} {n : Nat} {xs : List Value} (h : w.ownsRow base e size v n xs) (hf : Frame B T w w') (hT : ∀ cs, ¬ T (.cells cs e (0, 0))) : w'.ownsRow base e size v n xs := by
  refine ⟨h.1, ?_⟩
  rcases h.2 with hn | ⟨g, cap, cur, rfl, hbg, hgg, rest⟩
  · exact .inl hn
  · exact .inr ⟨g, cap, cur, rfl, hbg, by rw [hf.block g (Array.getElem?_eq_some_iff.1 hgg).1 (.inr fun o ho => by rw [hgg] at ho; injection ho with ho; subst ho; exact hT _)]; exact hgg, rest⟩
set_option linter.unusedSimpArgs false in
set_option linter.unusedVariables false in
set_option linter.unnecessarySimpa false in
theorem Rd.frame {B B0 : Nat} {T : Obj → Prop} {w w' : World} {size : Nat} {v : Value} {n : Nat} {xs : List Value} (h : Rd B w size v n xs) (hf : Frame B0 T w w') (hB : B ≤ B0) (hw : B ≤ w.heap.size) : Rd B w' size v n xs := h.below ⟨hf.os, hf.tape, hf.output, hf.size, fun i hi => hf.block i (by omega) (.inl (by omega))⟩
end Go.Dr
