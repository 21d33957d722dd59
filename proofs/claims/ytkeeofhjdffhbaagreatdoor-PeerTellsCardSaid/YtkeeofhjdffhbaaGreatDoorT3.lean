/- Parts of the proof of pt_root: the texts Ring. -/
import Derived.Test.YtkeeofhjdffhbaaGreatDoorT1
set_option linter.unusedSimpArgs false
set_option linter.unusedVariables false
set_option linter.unnecessarySimpa false
namespace Go.Dr
open Go.RowKit
abbrev Ptr (b : Nat) : Value := .pointer (some ⟨b, 0, none⟩)
/-- What a link holds beside its two pointers. -/
structure K where
 id : Int
 cost : Int
 key : Bytes
 vp : Value
 st : Int
 vf : Value
 body : Bytes
 asked : Int
 came : Int
def K.cells (k : K) (p q : Nat) : Array Value := #[.int .i64 k.id, .int .i64 k.cost, S k.key, k.vp, .int .i64 k.st, k.vf, S k.body, .int .i64 k.asked, .int .i64 k.came, Ptr p, Ptr q]
/-- The root holds nothing. -/
def K.zero : K := ⟨0, 0, [], .slice none 0 0, 0, .slice none 0 0, [], 0, 0⟩
abbrev N := Nat × K
/-- The block of the first, of the last, of some links;r, where there are none. -/
def headOr (l : List N) (r : Nat) : Nat := match l with | [] => r | n :: _ => n.1
def lastOr (l : List N) (r : Nat) : Nat := match l with | [] => r | n :: l => lastOr l n.1
@[simp] theorem headOr_nil (r : Nat) : headOr [] r = r := rfl
@[simp] theorem headOr_cons (n : N) (l : List N) (r : Nat) : headOr (n :: l) r = n.1 := rfl
@[simp] theorem lastOr_nil (r : Nat) : lastOr [] r = r := rfl
@[simp] theorem lastOr_cons (n : N) (l : List N) (r : Nat) : lastOr (n :: l) r = lastOr l n.1 := rfl
theorem headOr_append (a b : List N) (r : Nat) : headOr (a ++ b) r = headOr a (headOr b r) := by cases a <;> rfl
theorem lastOr_append (a b : List N) (r : Nat) : lastOr (a ++ b) r = lastOr b (lastOr a r) := by
 induction a generalizing r with
 | nil => rfl
 | cons n a ih => simp [ih]
theorem lastOr_mem (l : List N) (r : Nat) : lastOr l r = r ∨ lastOr l r ∈ l.map (·.1) := by
 induction l generalizing r with
 | nil => exact .inl rfl
 | cons n l ih =>
  rcases ih n.1 with h | h
  ·exact .inr (by simp [h])
  ·exact .inr (by simp at h ⊢;exact .inr h)
/-- Links one behind the other: p is ahead of the first, q behind the last. -/
def Chain (w : World) (t : TypeId) : Nat → List N → Nat → Prop
 | _, [], _ => True
 | p, n :: l, q => Blk w n.1 t (n.2.cells p (headOr l q)) ∧ Chain w t n.1 l q
theorem Chain.append {w : World} {t : TypeId} {p q : Nat} {a b : List N} : Chain w t p (a ++ b) q ↔ Chain w t p a (headOr b q) ∧ Chain w t (lastOr a p) b q := by
 induction a generalizing p with
 | nil => simp [Chain]
 | cons n a ih =>
  simp only [List.cons_append, Chain, lastOr_cons, ih, headOr_append]
  exact ⟨fun h => ⟨⟨h.1, h.2.1⟩, h.2.2⟩, fun h => ⟨h.1.1, h.1.2, h.2⟩⟩
/-- A chain stays where its blocks do. -/
theorem Chain.block {w w' : World} {t : TypeId} {p q : Nat} {l : List N} (h : Chain w t p l q) (hb : ∀ b ∈ l.map (·.1), w'.heap[b]? = w.heap[b]?) : Chain w' t p l q := by
 induction l generalizing p with
 | nil => trivial
 | cons n l ih =>
  exact ⟨h.1.block (hb _ (by simp)), ih h.2 fun b hb' => hb b (by simp at hb' ⊢;exact .inr hb')⟩
theorem Chain.lt {w : World} {t : TypeId} {p q : Nat} {l : List N} (h : Chain w t p l q) {b : Nat} (hb : b ∈ l.map (·.1)) : b < w.heap.size := by
 induction l generalizing p with
 | nil => cases hb
 | cons n l ih =>
  simp only [List.map_cons, List.mem_cons] at hb
  rcases hb with rfl | hb
  ·exact h.1.lt
  ·exact ih h.2 hb
theorem Chain.below {w w' : World} {t : TypeId} {p q : Nat} {l : List N} (h : Chain w t p l q) (hb : Below w.heap.size w w') : Chain w' t p l q := h.block fun _ hm => hb.block _ (h.lt hm)
theorem Chain.far {w : World} {t : TypeId} {p q : Nat} {l : List N} (h : Chain w t p l q) {a : Addr} (ha : a.block ∉ l.map (·.1)) (u : Value) : Chain (w.setCell a u) t p l q :=
 h.block fun b hb => Below.heap_setCell w a u b fun e => ha (e ▸ hb)
theorem Chain.at {w : World} {t : TypeId} {p q : Nat} {a b : List N} {n : N} (h : Chain w t p (a ++ n :: b) q) : Blk w n.1 t (n.2.cells (lastOr a p) (headOr b q)) := (Chain.append.1 h).2.1
theorem K.set9 (k : K) (p q r : Nat) : (k.cells p q).setIfInBounds 9 (Ptr r) = k.cells r q := by simp [K.cells]
theorem K.set10 (k : K) (p q r : Nat) : (k.cells p q).setIfInBounds 10 (Ptr r) = k.cells p r := by simp [K.cells]
/-- The last one's pointer to the next one is turned. -/
theorem Chain.setNext {w : World} {t : TypeId} {p q r : Nat} {l : List N} (h : Chain w t p l q) (hn : (l.map (·.1)).Nodup) (hl : l ≠ []) : Chain (w.setCell ⟨lastOr l p, 10, none⟩ (Ptr r)) t p l r := by
 induction l generalizing p with
 | nil => exact absurd rfl hl
 | cons n l ih =>
  simp only [List.map_cons, List.nodup_cons] at hn
  cases l with
  | nil =>
   refine ⟨?_, trivial⟩
   have := h.1.set 10 (Ptr r)
   rwa [K.set10] at this
  | cons m l =>
   refine ⟨h.1.other ?_ _, ih h.2 hn.2 (by simp)⟩
   rcases lastOr_mem l m.1 with e | e
   ·simp only [lastOr_cons, e]
    exact fun e2 => hn.1 (by simp [e2])
   ·simp only [lastOr_cons]
    exact fun e2 => hn.1 (by rw [e2];simp at e ⊢;exact .inr e)
/-- The first one's pointer to the one ahead is turned. -/
theorem Chain.setAhead {w : World} {t : TypeId} {p q r : Nat} {l : List N} (h : Chain w t p l q) (hn : (l.map (·.1)).Nodup) (z : Nat) (hl : l ≠ []) : Chain (w.setCell ⟨headOr l z, 9, none⟩ (Ptr r)) t r l q := by
 cases l with
 | nil => exact absurd rfl hl
 | cons n l =>
  simp only [List.map_cons, List.nodup_cons] at hn
  refine ⟨?_, h.2.far hn.1 _⟩
  have := h.1.set 9 (Ptr r)
  rwa [K.set9] at this
/-- A ring: the root r and the links behind it. -/
structure Ring (w : World) (t : TypeId) (r : Nat) (l : List N) : Prop where
 nodup : (r :: l.map (·.1)).Nodup
 chain : Chain w t (lastOr l r) ((r, K.zero) :: l) r
theorem Ring.block {w w' : World} {t : TypeId} {r : Nat} {l : List N} (h : Ring w t r l) (hb : ∀ b ∈ r :: l.map (·.1), w'.heap[b]? = w.heap[b]?) : Ring w' t r l := ⟨h.nodup, h.chain.block hb⟩
theorem Ring.lt {w : World} {t : TypeId} {r : Nat} {l : List N} (h : Ring w t r l) {b : Nat} (hb : b ∈ r :: l.map (·.1)) : b < w.heap.size := h.chain.lt hb
theorem Ring.below {w w' : World} {t : TypeId} {r : Nat} {l : List N} (h : Ring w t r l) (hb : Below w.heap.size w w') : Ring w' t r l := ⟨h.nodup, h.chain.below hb⟩
theorem Ring.at {w : World} {t : TypeId} {r : Nat} {a b : List N} {n : N} (h : Ring w t r (a ++ n :: b)) : Blk w n.1 t (n.2.cells (lastOr a r) (headOr b r)) := by
 have := h.chain
 rw [← List.cons_append] at this
 exact this.at
/-- A link leaves: 'l.ahead.next, l.next.ahead = l.next, l.ahead'. -/
theorem Ring.out {w : World} {t : TypeId} {r : Nat} {a b : List N} {n : N} (h : Ring w t r (a ++ n :: b)) :
  Ring ((w.setCell ⟨lastOr a r, 10, none⟩ (Ptr (headOr b r))).setCell ⟨headOr b r, 9, none⟩ (Ptr (lastOr a r))) t r (a ++ b) := by
 obtain ⟨hn, hc⟩ := h
 have hn' : (r :: (a ++ b).map (·.1)).Nodup := by
  simp only [List.map_append, List.map_cons, List.nodup_cons, List.nodup_append, List.mem_append, List.mem_cons] at hn ⊢
  grind
 refine ⟨hn', ?_⟩
 have hnA : (((r, K.zero) :: a).map (·.1)).Nodup := by
  simp only [List.map_append, List.map_cons, List.nodup_cons, List.nodup_append, List.mem_append, List.mem_cons] at hn ⊢
  grind
 have hnB : (b.map (·.1)).Nodup := by
  simp only [List.map_append, List.map_cons, List.nodup_cons, List.nodup_append, List.mem_append, List.mem_cons] at hn ⊢
  grind
 have hAB : ∀ x ∈ r :: a.map (·.1), x ∉ b.map (·.1) := by
  simp only [List.map_append, List.map_cons, List.nodup_cons, List.nodup_append, List.mem_append, List.mem_cons] at hn ⊢
  grind
 rw [← List.cons_append] at hc ⊢
 obtain ⟨h1, h2⟩ := Chain.append.1 hc
 obtain ⟨-, h3⟩ := h2
 have hA := h1.setNext (r := headOr b r) hnA (by simp)
 have hlast : lastOr ((r, K.zero) :: a) (lastOr (a ++ n :: b) r) = lastOr a r := rfl
 rw [hlast] at hA
 have hpm : lastOr a r ∈ r :: a.map (·.1) := by rcases lastOr_mem a r with e | e <;> simp [e]
 have hB := h3.far (a := ⟨lastOr a r, 10, none⟩) (hAB _ hpm) (Ptr (headOr b r))
 cases hbn : b with
 | nil =>
  subst hbn
  simp only [List.append_nil, headOr_nil, lastOr_append, lastOr_cons, lastOr_nil] at *
  exact hA.setAhead (r := lastOr a r) hnA r (by simp)
 | cons m b' =>
  have hne : b ≠ [] := by rw [hbn];simp
  rw [← hbn]
  refine Chain.append.2 ⟨?_, ?_⟩
  ·have hq : headOr b r ∉ ((r, K.zero) :: a).map (·.1) := by
    intro hm
    refine hAB _ hm ?_
    rw [hbn];simp
   have e : lastOr (a ++ b) r = lastOr (a ++ n :: b) r := by
    rw [lastOr_append, lastOr_append, hbn];rfl
   rw [e]
   exact hA.far hq _
  ·have := hB.setAhead (r := lastOr a r) hnB r hne
   exact this
/-- Nothing that was there has turned, but, from block B on, objects of some kind. -/
structure Frame (B : Nat) (T : Obj → Prop) (w w' : World) : Prop where
 os : w'.os = w.os
 tape : w'.tape = w.tape
 output : w'.output = w.output
 size : w.heap.size ≤ w'.heap.size
 block : ∀ k, k < w.heap.size → (k < B ∨ ∀ o, w.heap[k]? = some o → ¬ T o) → w'.heap[k]? = w.heap[k]?
theorem Frame.refl (B : Nat) (T : Obj → Prop) (w : World) : Frame B T w w := ⟨rfl, rfl, rfl, Nat.le_refl _, fun _ _ _ => rfl⟩
theorem Frame.of_below {B : Nat} {T : Obj → Prop} {w w' : World} (h : Below w.heap.size w w') : Frame B T w w' := ⟨h.os, h.tape, h.output, h.size, fun k hk _ => h.block k hk⟩
theorem Frame.trans {B : Nat} {T : Obj → Prop} {a b c : World} (h : Frame B T a b) (k : Frame B T b c) : Frame B T a c :=
 ⟨k.os.trans h.os, k.tape.trans h.tape, k.output.trans h.output, Nat.le_trans h.size k.size, fun i hi hT => by
  have e := h.block i hi hT
  exact (k.block i (Nat.lt_of_lt_of_le hi h.size) (hT.imp id fun hT o ho => hT o (e ▸ ho))).trans e⟩
theorem Frame.more {B B' : Nat} {T T' : Obj → Prop} {a b : World} (h : Frame B T a b) (hB : B' ≤ B) (hT : ∀ o, T o → T' o) : Frame B' T' a b :=
 ⟨h.os, h.tape, h.output, h.size, fun i hi hX => h.block i hi (hX.imp (fun h => by omega) fun hX o ho ht => hX o ho (hT o ht))⟩
theorem Frame.drew {B : Nat} {T : Obj → Prop} {a w : World} (h : Frame B T a w) : Frame B T a w.drew := ⟨h.os, h.tape, h.output, h.size, h.block⟩
theorem Frame.alloc {B : Nat} {T : Obj → Prop} {a w : World} (h : Frame B T a w) (o : Obj) : Frame B T a (w.alloc o) := h.trans (Frame.of_below ((Below.refl _ _).alloc (Nat.le_refl _) _))
theorem Frame.step {B : Nat} {T : Obj → Prop} {w : World} {p : Addr} {o : Obj} (hp : B ≤ p.block) (ho : w.heap[p.block]? = some o) (hT : T o) (u : Value) : Frame B T w (w.setCell p u) :=
 ⟨rfl, rfl, rfl, by simp [World.setCell], fun i _ hX => Below.heap_setCell w p u i fun e => by
  subst e
  rcases hX with h | h
  ·omega
  ·exact h _ ho hT⟩
/-- A store into what is new. -/
theorem Frame.new {B : Nat} {T : Obj → Prop} {a w : World} (h : Frame B T a w) {p : Addr} (hp : a.heap.size ≤ p.block) (u : Value) : Frame B T a (w.setCell p u) :=
 ⟨h.os, h.tape, h.output, by simpa [World.setCell] using h.size, fun i hi hX => (Below.heap_setCell w p u i (fun e => by omega)).trans (h.block i hi hX)⟩
theorem Frame.setCell {B : Nat} {T : Obj → Prop} {a w : World} (h : Frame B T a w) {p : Addr} {o : Obj} (hp : B ≤ p.block) (ho : w.heap[p.block]? = some o) (hT : T o) (u : Value) : Frame B T a (w.setCell p u) := h.trans (Frame.step hp ho hT u)
theorem Frame.grown {B : Nat} {T : Obj → Prop} {w w' : World} {b : Nat} {o : Obj} (hg : w.grownBy w' (some b)) (hB : B ≤ b) (ho : w.heap[b]? = some o) (hT : T o) : Frame B T w w' :=
 ⟨hg.os, hg.tape, hg.output, hg.size, fun i hi hX => hg.block i hi (fun e => by
  obtain rfl := Option.some.inj e
  rcases hX with h | h
  ·omega
  ·exact h _ ho hT)⟩
theorem Frame.below {B : Nat} {T : Obj → Prop} {a b : World} (h : Frame B T a b) (hB : B ≤ a.heap.size) : Below B a b := ⟨h.os, h.tape, h.output, h.size, fun i hi => h.block i (by omega) (.inl hi)⟩
theorem Blk.frame {B : Nat} {T : Obj → Prop} {w w' : World} {b : Nat} {t : TypeId} {xs : Array Value} (h : Blk w b t xs) (hf : Frame B T w w') (hT : ¬ T (.cells xs t (0, 0))) : Blk w' b t xs :=
 h.block (hf.block b h.lt (.inr fun o ho => by rw [show w.heap[b]? = _ from h] at ho;injection ho with ho;subst ho;exact hT))
theorem Rd.frame {B B0 : Nat} {T : Obj → Prop} {w w' : World} {size : Nat} {v : Value} {n : Nat} {xs : List Value} (h : Rd B w size v n xs) (hf : Frame B0 T w w') (hB : B ≤ B0) (hw : B ≤ w.heap.size) : Rd B w' size v n xs := h.below ⟨hf.os, hf.tape, hf.output, hf.size, fun i hi => hf.block i (by omega) (.inl (by omega))⟩
end Go.Dr
