/- Parts of the proof of bk_root: the texts Ring Pmp. -/
import Derived.Test.YtcodgfmombehoaaGreatDoorK1
set_option linter.unusedSimpArgs false
set_option linter.unusedVariables false
set_option linter.unnecessarySimpa false
set_option maxRecDepth 100000
set_option maxHeartbeats 64000000
namespace Go.Dr
open Go.RowKit
abbrev Ptr (b : Nat) : Value := .pointer (some ⟨b, 0, none⟩)
structure K where
 id : Int
 cost : Int
 key : Bytes
 vp : Value
 st : Int
 vf : Value
 body : Bytes
 asked : Int
 came : Int
def K.cells (k : K) (p q : Nat) : Array Value := #[.int .i64 k.id, .int .i64 k.cost, S k.key, k.vp, .int .i64 k.st, k.vf, S k.body, .int .i64 k.asked, .int .i64 k.came, Ptr p, Ptr q]
def K.zero : K := ⟨0, 0, [], .slice none 0 0, 0, .slice none 0 0, [], 0, 0⟩
abbrev N := Nat × K
def headOr (l : List N) (r : Nat) : Nat := match l with | [] => r | n :: _ => n.1
def lastOr (l : List N) (r : Nat) : Nat := match l with | [] => r | n :: l => lastOr l n.1
@[simp] theorem headOr_nil (r : Nat) : headOr [] r = r := rfl
@[simp] theorem headOr_cons (n : N) (l : List N) (r : Nat) : headOr (n :: l) r = n.1 := rfl
@[simp] theorem lastOr_nil (r : Nat) : lastOr [] r = r := rfl
@[simp] theorem lastOr_cons (n : N) (l : List N) (r : Nat) : lastOr (n :: l) r = lastOr l n.1 := rfl
theorem headOr_append (a b : List N) (r : Nat) : headOr (a ++ b) r = headOr a (headOr b r) := by cases a <;> rfl
theorem lastOr_append (a b : List N) (r : Nat) : lastOr (a ++ b) r = lastOr b (lastOr a r) := by
 induction a generalizing r with
 | nil => rfl
 | cons n a ih => simp [ih]
theorem lastOr_mem (l : List N) (r : Nat) : lastOr l r = r ∨ lastOr l r ∈ l.map (·.1) := by
 induction l generalizing r with
 | nil => exact .inl rfl
 | cons n l ih =>
  rcases ih n.1 with h | h
  ·exact .inr (by simp [h])
  ·exact .inr (by simp at h ⊢;exact .inr h)
def Chain (w : World) (t : TypeId) : Nat → List N → Nat → Prop
 | _, [], _ => True
 | p, n :: l, q => Blk w n.1 t (n.2.cells p (headOr l q)) ∧ Chain w t n.1 l q
theorem Chain.append {w : World} {t : TypeId} {p q : Nat} {a b : List N} : Chain w t p (a ++ b) q ↔ Chain w t p a (headOr b q) ∧ Chain w t (lastOr a p) b q := by
 induction a generalizing p with
 | nil => simp [Chain]
 | cons n a ih =>
  simp only [List.cons_append, Chain, lastOr_cons, ih, headOr_append];exact ⟨fun h => ⟨⟨h.1, h.2.1⟩, h.2.2⟩, fun h => ⟨h.1.1, h.1.2, h.2⟩⟩
theorem Chain.block {w w' : World} {t : TypeId} {p q : Nat} {l : List N} (h : Chain w t p l q) (hb : ∀ b ∈ l.map (·.1), w'.heap[b]? = w.heap[b]?) : Chain w' t p l q := by
 induction l generalizing p with
 | nil => trivial
 | cons n l ih =>
  exact ⟨h.1.block (hb _ (by simp)), ih h.2 fun b hb' => hb b (by simp at hb' ⊢;exact .inr hb')⟩
theorem Chain.lt {w : World} {t : TypeId} {p q : Nat} {l : List N} (h : Chain w t p l q) {b : Nat} (hb : b ∈ l.map (·.1)) : b < w.heap.size := by
 induction l generalizing p with
 | nil => cases hb
 | cons n l ih =>
  simp only [List.map_cons, List.mem_cons] at hb
  rcases hb with rfl | hb
  ·exact h.1.lt
  ·exact ih h.2 hb
theorem Chain.below {w w' : World} {t : TypeId} {p q : Nat} {l : List N} (h : Chain w t p l q) (hb : Below w.heap.size w w') : Chain w' t p l q := h.block fun _ hm => hb.block _ (h.lt hm)
theorem Chain.far {w : World} {t : TypeId} {p q : Nat} {l : List N} (h : Chain w t p l q) {a : Addr} (ha : a.block ∉ l.map (·.1)) (u : Value) : Chain (w.setCell a u) t p l q :=
 h.block fun b hb => Below.heap_setCell w a u b fun e => ha (e ▸ hb)
theorem Chain.at {w : World} {t : TypeId} {p q : Nat} {a b : List N} {n : N} (h : Chain w t p (a ++ n :: b) q) : Blk w n.1 t (n.2.cells (lastOr a p) (headOr b q)) := (Chain.append.1 h).2.1
theorem K.set9 (k : K) (p q r : Nat) : (k.cells p q).setIfInBounds 9 (Ptr r) = k.cells r q := by simp [K.cells]
theorem K.set10 (k : K) (p q r : Nat) : (k.cells p q).setIfInBounds 10 (Ptr r) = k.cells p r := by simp [K.cells]
theorem Chain.setNext {w : World} {t : TypeId} {p q r : Nat} {l : List N} (h : Chain w t p l q) (hn : (l.map (·.1)).Nodup) (hl : l ≠ []) : Chain (w.setCell ⟨lastOr l p, 10, none⟩ (Ptr r)) t p l r := by
 induction l generalizing p with
 | nil => exact absurd rfl hl
 | cons n l ih =>
  simp only [List.map_cons, List.nodup_cons] at hn
  cases l with
  | nil =>
   refine ⟨?_, trivial⟩;have := h.1.set 10 (Ptr r)
   rwa [K.set10] at this
  | cons m l =>
   refine ⟨h.1.other ?_ _, ih h.2 hn.2 (by simp)⟩
   rcases lastOr_mem l m.1 with e | e
   ·simp only [lastOr_cons, e]
    exact fun e2 => hn.1 (by simp [e2])
   ·simp only [lastOr_cons]
    exact fun e2 => hn.1 (by rw [e2];simp at e ⊢;exact .inr e)
theorem Chain.setAhead {w : World} {t : TypeId} {p q r : Nat} {l : List N} (h : Chain w t p l q) (hn : (l.map (·.1)).Nodup) (z : Nat) (hl : l ≠ []) : Chain (w.setCell ⟨headOr l z, 9, none⟩ (Ptr r)) t r l q := by
 cases l with
 | nil => exact absurd rfl hl
 | cons n l =>
  simp only [List.map_cons, List.nodup_cons] at hn;refine ⟨?_, h.2.far hn.1 _⟩;have := h.1.set 9 (Ptr r)
  rwa [K.set9] at this
structure Ring (w : World) (t : TypeId) (r : Nat) (l : List N) : Prop where
 nodup : (r :: l.map (·.1)).Nodup
 chain : Chain w t (lastOr l r) ((r, K.zero) :: l) r
theorem Ring.block {w w' : World} {t : TypeId} {r : Nat} {l : List N} (h : Ring w t r l) (hb : ∀ b ∈ r :: l.map (·.1), w'.heap[b]? = w.heap[b]?) : Ring w' t r l := ⟨h.nodup, h.chain.block hb⟩
theorem Ring.lt {w : World} {t : TypeId} {r : Nat} {l : List N} (h : Ring w t r l) {b : Nat} (hb : b ∈ r :: l.map (·.1)) : b < w.heap.size := h.chain.lt hb
theorem Ring.below {w w' : World} {t : TypeId} {r : Nat} {l : List N} (h : Ring w t r l) (hb : Below w.heap.size w w') : Ring w' t r l := ⟨h.nodup, h.chain.below hb⟩
theorem Ring.at {w : World} {t : TypeId} {r : Nat} {a b : List N} {n : N} (h : Ring w t r (a ++ n :: b)) : Blk w n.1 t (n.2.cells (lastOr a r) (headOr b r)) := by
 have := h.chain
 rw [← List.cons_append] at this;exact this.at
theorem Ring.out {w : World} {t : TypeId} {r : Nat} {a b : List N} {n : N} (h : Ring w t r (a ++ n :: b)) :
  Ring ((w.setCell ⟨lastOr a r, 10, none⟩ (Ptr (headOr b r))).setCell ⟨headOr b r, 9, none⟩ (Ptr (lastOr a r))) t r (a ++ b) := by
 obtain ⟨hn, hc⟩ := h
 have hn' : (r :: (a ++ b).map (·.1)).Nodup := by
  simp only [List.map_append, List.map_cons, List.nodup_cons, List.nodup_append, List.mem_append, List.mem_cons] at hn ⊢
  grind
 refine ⟨hn', ?_⟩
 have hnA : (((r, K.zero) :: a).map (·.1)).Nodup := by
  simp only [List.map_append, List.map_cons, List.nodup_cons, List.nodup_append, List.mem_append, List.mem_cons] at hn ⊢
  grind
 have hnB : (b.map (·.1)).Nodup := by
  simp only [List.map_append, List.map_cons, List.nodup_cons, List.nodup_append, List.mem_append, List.mem_cons] at hn ⊢
  grind
 have hAB : ∀ x ∈ r :: a.map (·.1), x ∉ b.map (·.1) := by
  simp only [List.map_append, List.map_cons, List.nodup_cons, List.nodup_append, List.mem_append, List.mem_cons] at hn ⊢
  grind
 rw [← List.cons_append] at hc ⊢;obtain ⟨h1, h2⟩ := Chain.append.1 hc;obtain ⟨-, h3⟩ := h2;have hA := h1.setNext (r := headOr b r) hnA (by simp);have hlast : lastOr ((r, K.zero) :: a) (lastOr (a ++ n :: b) r) = lastOr a r := rfl;rw [hlast] at hA;have hpm : lastOr a r ∈ r :: a.map (·.1) := (by rcases lastOr_mem a r with e | e <;> simp [e]);have hB := h3.far (a := ⟨lastOr a r, 10, none⟩) (hAB _ hpm) (Ptr (headOr b r))
 cases hbn : b with
 | nil =>
  subst hbn;simp only [List.append_nil, headOr_nil, lastOr_append, lastOr_cons, lastOr_nil] at *;exact hA.setAhead (r := lastOr a r) hnA r (by simp)
 | cons m b' =>
  have hne : b ≠ [] := (by rw [hbn];simp);rw [← hbn];refine Chain.append.2 ⟨?_, ?_⟩
  ·have hq : headOr b r ∉ ((r, K.zero) :: a).map (·.1) := by
    intro hm;refine hAB _ hm ?_;rw [hbn];simp
   have e : lastOr (a ++ b) r = lastOr (a ++ n :: b) r := by
    rw [lastOr_append, lastOr_append, hbn];rfl
   rw [e];exact hA.far hq _
  ·have := hB.setAhead (r := lastOr a r) hnB r hne
   exact this
structure Frame (B : Nat) (T : Obj → Prop) (w w' : World) : Prop where
 os : w'.os = w.os
 tape : w'.tape = w.tape
 output : w'.output = w.output
 size : w.heap.size ≤ w'.heap.size
 block : ∀ k, k < w.heap.size → (k < B ∨ ∀ o, w.heap[k]? = some o → ¬ T o) → w'.heap[k]? = w.heap[k]?
theorem Frame.refl (B : Nat) (T : Obj → Prop) (w : World) : Frame B T w w := ⟨rfl, rfl, rfl, Nat.le_refl _, fun _ _ _ => rfl⟩
theorem Frame.of_below {B : Nat} {T : Obj → Prop} {w w' : World} (h : Below w.heap.size w w') : Frame B T w w' := ⟨h.os, h.tape, h.output, h.size, fun k hk _ => h.block k hk⟩
theorem Frame.trans {B : Nat} {T : Obj → Prop} {a b c : World} (h : Frame B T a b) (k : Frame B T b c) : Frame B T a c :=
 ⟨k.os.trans h.os, k.tape.trans h.tape, k.output.trans h.output, Nat.le_trans h.size k.size, fun i hi hT => by
  have e := h.block i hi hT
  exact (k.block i (Nat.lt_of_lt_of_le hi h.size) (hT.imp id fun hT o ho => hT o (e ▸ ho))).trans e⟩
theorem Frame.more {B B' : Nat} {T T' : Obj → Prop} {a b : World} (h : Frame B T a b) (hB : B' ≤ B) (hT : ∀ o, T o → T' o) : Frame B' T' a b :=
 ⟨h.os, h.tape, h.output, h.size, fun i hi hX => h.block i hi (hX.imp (fun h => by omega) fun hX o ho ht => hX o ho (hT o ht))⟩
theorem Frame.drew {B : Nat} {T : Obj → Prop} {a w : World} (h : Frame B T a w) : Frame B T a w.drew := ⟨h.os, h.tape, h.output, h.size, h.block⟩
theorem Frame.alloc {B : Nat} {T : Obj → Prop} {a w : World} (h : Frame B T a w) (o : Obj) : Frame B T a (w.alloc o) := h.trans (Frame.of_below ((Below.refl _ _).alloc (Nat.le_refl _) _))
theorem Frame.step {B : Nat} {T : Obj → Prop} {w : World} {p : Addr} {o : Obj} (hp : B ≤ p.block) (ho : w.heap[p.block]? = some o) (hT : T o) (u : Value) : Frame B T w (w.setCell p u) :=
 ⟨rfl, rfl, rfl, by simp [World.setCell], fun i _ hX => Below.heap_setCell w p u i fun e => by
  subst e
  rcases hX with h | h
  ·omega
  ·exact h _ ho hT⟩
theorem Frame.new {B : Nat} {T : Obj → Prop} {a w : World} (h : Frame B T a w) {p : Addr} (hp : a.heap.size ≤ p.block) (u : Value) : Frame B T a (w.setCell p u) :=
 ⟨h.os, h.tape, h.output, by simpa [World.setCell] using h.size, fun i hi hX => (Below.heap_setCell w p u i (fun e => by omega)).trans (h.block i hi hX)⟩
theorem Frame.setCell {B : Nat} {T : Obj → Prop} {a w : World} (h : Frame B T a w) {p : Addr} {o : Obj} (hp : B ≤ p.block) (ho : w.heap[p.block]? = some o) (hT : T o) (u : Value) : Frame B T a (w.setCell p u) := h.trans (Frame.step hp ho hT u)
theorem Frame.grown {B : Nat} {T : Obj → Prop} {w w' : World} {b : Nat} {o : Obj} (hg : w.grownBy w' (some b)) (hB : B ≤ b) (ho : w.heap[b]? = some o) (hT : T o) : Frame B T w w' :=
 ⟨hg.os, hg.tape, hg.output, hg.size, fun i hi hX => hg.block i hi (fun e => by
  obtain rfl := Option.some.inj e
  rcases hX with h | h
  ·omega
  ·exact h _ ho hT)⟩
theorem Frame.below {B : Nat} {T : Obj → Prop} {a b : World} (h : Frame B T a b) (hB : B ≤ a.heap.size) : Below B a b := ⟨h.os, h.tape, h.output, h.size, fun i hi => h.block i (by omega) (.inl hi)⟩
theorem Blk.frame {B : Nat} {T : Obj → Prop} {w w' : World} {b : Nat} {t : TypeId} {xs : Array Value} (h : Blk w b t xs) (hf : Frame B T w w') (hT : ¬ T (.cells xs t (0, 0))) : Blk w' b t xs :=
 h.block (hf.block b h.lt (.inr fun o ho => by rw [show w.heap[b]? = _ from h] at ho;injection ho with ho;subst ho;exact hT))
theorem Rd.frame {B B0 : Nat} {T : Obj → Prop} {w w' : World} {size : Nat} {v : Value} {n : Nat} {xs : List Value} (h : Rd B w size v n xs) (hf : Frame B0 T w w') (hB : B ≤ B0) (hw : B ≤ w.heap.size) : Rd B w' size v n xs := h.below ⟨hf.os, hf.tape, hf.output, hf.size, fun i hi => hf.block i (by omega) (.inl (by omega))⟩
open Go Go.RowKit
def Rp : Value → Option (DataW Unit × List MemPlace)
 | .pointer none => some (.nil, [])
 | .pointer (some ⟨b, 0, none⟩) => some (.lit (.int .i64 (b : Int)), [])
 | _ => none
theorem Rp_ptr (b : Nat) : Rp (Ptr b) = some (.lit (.int .i64 (b : Int)), []) := rfl
theorem Rp_inv {v : Value} {b : Nat} {ps : List MemPlace} (h : Rp v = some (.lit (.int .i64 (b : Int)), ps)) : v = Ptr b := by
 unfold Rp at h
 split at h
 ·cases h
 ·rename_i c
  simp only [Option.some.injEq, Prod.mk.injEq, DataW.lit.injEq, Lit.int.injEq, true_and] at h;have : c = b := (by omega)
  rw [this]
 ·cases h
theorem Rp_nil {v : Value} {ps : List MemPlace} (h : Rp v = some (.nil, ps)) : v = .pointer none := by
 unfold Rp at h
 split at h
 ·rfl
 ·cases h
 ·cases h
theorem World.ownsMap.tight {H : Type} {w : World} {P : Program} {k : TypeId} {R : Value → Option (DataW H × List MemPlace)} {b n : Nat} {D : DataW H} (h : w.ownsMap P k R b n D) : w.ownsMap P k R b (Maps.size D) D := by
 obtain ⟨es, clock, hb, F, _, rfl⟩ := h;exact ⟨es, clock, hb, F, by simp [Maps.size, length_sorted], rfl⟩
def PMap (P : Program) (kt : TypeId) (w : World) (m : Nat) (l : List (Int × Nat)) : Prop :=
 ∃ D : DataW Unit, w.ownsMap P kt Rp m l.length D ∧ Maps.Tidy D ∧ Maps.size D = l.length ∧ (l.map (·.1)).Nodup ∧ (∀ p ∈ l, (Lit.int .i64 p.1).wf = true) ∧ (∀ i : Int, Maps.has D (.int .i64 i) = l.any fun p => p.1 == i) ∧ ∀ p ∈ l, ∀ z, D.atKey (.int .i64 p.1) z = .lit (.int .i64 (p.2 : Int))
theorem PMap.made {P : Program} {kt : TypeId} {w : World} {m : Nat} (h : w.heap[m]? = some (.map #[] 0)) : PMap P kt w m [] :=
 ⟨.map [], ⟨#[], 0, h, ⟨by simp, MapKept.stamped_empty 0, by simp⟩, Nat.le_refl _, rfl⟩, Maps.tidy_empty, rfl, by simp, by simp, fun _ => rfl, by simp⟩
theorem PMap.lt {P : Program} {kt : TypeId} {w : World} {m : Nat} {l : List (Int × Nat)} (h : PMap P kt w m l) : m < w.heap.size := by
 obtain ⟨D, h, _⟩ := h;exact h.lt
theorem PMap.obj {P : Program} {kt : TypeId} {w : World} {m : Nat} {l : List (Int × Nat)} (h : PMap P kt w m l) : ∃ es clock, w.heap[m]? = some (.map es clock) := by
 obtain ⟨D, ⟨es, clock, h, _⟩, _⟩ := h;exact ⟨es, clock, h⟩
theorem PMap.block {P : Program} {kt : TypeId} {w w' : World} {m : Nat} {l : List (Int × Nat)} (h : PMap P kt w m l) (hb : w'.heap[m]? = w.heap[m]?) : PMap P kt w' m l := by
 obtain ⟨D, ⟨es, clock, h1, h2⟩, hD⟩ := h;exact ⟨D, ⟨es, clock, hb.trans h1, h2⟩, hD⟩
section
variable {P : Program} {kt et t : TypeId} {w : World} {m : Nat} {l : List (Int × Nat)}
theorem lit_i {i j : Int} (h : i ≠ j) : Lit.int .i64 i ≠ .int .i64 j := fun e => h (by cases e;rfl)
theorem mem_more {α : Type} {a b : List α} {p q : α} (h : q ∈ a ++ b) : q ∈ a ++ p :: b := by
 rcases List.mem_append.1 h with h | h
 ·exact List.mem_append.2 (.inl h)
 ·exact List.mem_append.2 (.inr (.tail _ h))
theorem PMap.drop {a b : List (Int × Nat)} {p : Int × Nat} (h : PMap P kt w m (a ++ p :: b)) (hk : P.underlying kt = some (.int .i64)) (ht : P.underlying t = some (.map kt et)) (ty : TypeId) :
  ∃ w', (Builtin.delete_ #[t, kt] ty #[.map (some m), .int .i64 p.1]).run P w = .ok (.tuple #[]) w' ∧ PMap P kt w' m (a ++ b) ∧ w.mapTurned w' m := by
 obtain ⟨D, h1, h2, h3, h4, h5, h6, h7⟩ := h;have hw := h5 p (by simp);obtain ⟨w', hrun, ho, hm⟩ := h1.drop (Maps.int_keyed hk) ht (Maps.keyOf_int_mk hk hw) ty;have hh : Maps.has D (.int .i64 p.1) = true := (by rw [h6, List.any_eq_true];exact ⟨p, by simp, by simp⟩);have hsz := Maps.size_del (k := .int .i64 p.1) h2;rw [hh] at hsz;have hs2 : Maps.size (D.del (.int .i64 p.1)) = (a ++ b).length := (by simp at h3 hsz ⊢;omega)
 have hnd : ∀ q ∈ a ++ b, q.1 ≠ p.1 := by
  intro q hq e;simp only [List.map_append, List.map_cons, List.nodup_append, List.nodup_cons, List.mem_append, List.mem_cons] at h4 hq;obtain ⟨-, ⟨h8, -⟩, h9⟩ := h4
  rcases hq with hq | hq
  ·exact h9 q.1 (List.mem_map_of_mem hq) p.1 (by simp) e
  ·exact h8 (e ▸ List.mem_map_of_mem hq)
 refine ⟨w', hrun, ⟨_, by rw [← hs2];exact World.ownsMap.tight ho, h2.del _, hs2, ?_, fun q hq => h5 q (mem_more hq), fun i => ?_, fun q hq z => ?_⟩, hm⟩
 ·simp only [List.map_append, List.map_cons, List.nodup_append, List.nodup_cons, List.mem_cons] at h4 ⊢
  exact ⟨h4.1, h4.2.1.2, fun x hx y hy => h4.2.2 x hx y (.inr hy)⟩
 ·by_cases e : i = p.1
  ·subst e
   rw [Maps.has_del_same];exact (List.any_eq_false.2 fun q hq => by simpa using hnd q hq).symm
  ·rw [Maps.has_del_other (lit_i e), h6]
   have : (p.1 == i) = false := (by simpa using fun e1 => e e1.symm)
   simp [this]
 ·rw [Maps.atKey_del_other (lit_i (hnd q hq))]
  exact h7 q (mem_more hq) z
theorem PMap.put (h : PMap P kt w m l) (hk : P.underlying kt = some (.int .i64)) (ht : P.underlying t = some (.map kt et)) (i : Int) (b : Nat) (hw : (Lit.int .i64 i).wf = true) (hi : ∀ p ∈ l, p.1 ≠ i) (hn : l.length < maxLen) :
  ∃ w', (Instr.mapUpdate t (.map (some m)) (.int .i64 i) (Ptr b)).run P w = .ok () w' ∧ PMap P kt w' m (l ++ [(i, b)]) ∧ w.mapTurned w' m := by
 obtain ⟨D, h1, h2, h3, h4, h5, h6, h7⟩ := h;obtain ⟨w', hrun, ho, hm⟩ := h1.store (Maps.int_keyed hk) ht hn (Maps.keyOf_int_mk hk hw) (Rp_ptr b);have hkl : WideAt.IsKeyLit (Lit.int .i64 i) := (by trivial);have hh : Maps.has D (.int .i64 i) = false := (by rw [h6, List.any_eq_false];intro p hp;simpa using hi p hp);have hs2 : Maps.size (D.put (.int .i64 i) (.lit (.int .i64 (b : Int)))) = l.length + 1 := (by rw [Maps.size_put h2, hh, h3];simp);refine ⟨w', hrun, ⟨_, by simpa using ho, h2.put hkl _, by simpa using hs2, ?_, fun q hq => ?_, fun j => ?_, fun q hq z => ?_⟩, hm⟩
 ·rw [List.map_append, List.nodup_append]
  refine ⟨h4, by simp, fun x hx y hy e => ?_⟩;simp only [List.map_cons, List.map_nil, List.mem_singleton] at hy;obtain ⟨p, hp, e2⟩ := List.mem_map.1 hx;exact hi p hp (by rw [e2, e, hy])
 ·rcases List.mem_append.1 hq with hq | hq
  ·exact h5 q hq
  ·simp at hq;rw [hq];exact hw
 ·by_cases e : j = i
  ·subst e
   rw [Maps.has_put_same h2.isMap hkl];simp
  ·rw [Maps.has_put_other (lit_i e), h6]
   have : (i == j) = false := (by simpa using fun e1 => e e1.symm)
   simp [this]
 ·rcases List.mem_append.1 hq with hq | hq
  ·rw [Maps.atKey_put_other (lit_i (hi q hq))]
   exact h7 q hq z
  ·simp at hq
   rw [hq];exact Maps.atKey_put_same h2.isMap hkl _ _
theorem PMap.len (h : PMap P kt w m l) (ht : P.underlying t = some (.map kt et)) (ty : TypeId) : (Builtin.len_ #[t] ty #[.map (some m)]).run P w = .ok (.int .i64 (l.length : Nat)) w := by
 obtain ⟨D, h1, h2, h3, _⟩ := h;rw [h1.len ht ty, h3]
end
structure But (S : Nat → Prop) (w w' : World) : Prop where
 os : w'.os = w.os
 tape : w'.tape = w.tape
 output : w'.output = w.output
 size : w.heap.size ≤ w'.heap.size
 block : ∀ k, k < w.heap.size → ¬ S k → w'.heap[k]? = w.heap[k]?
theorem But.refl (S : Nat → Prop) (w : World) : But S w w := ⟨rfl, rfl, rfl, Nat.le_refl _, fun _ _ _ => rfl⟩
theorem But.of_below {S : Nat → Prop} {w w' : World} (h : Below w.heap.size w w') : But S w w' := ⟨h.os, h.tape, h.output, h.size, fun k hk _ => h.block k hk⟩
theorem But.trans {S : Nat → Prop} {a b c : World} (h : But S a b) (k : But S b c) : But S a c :=
 ⟨k.os.trans h.os, k.tape.trans h.tape, k.output.trans h.output, Nat.le_trans h.size k.size, fun i hi hS => (k.block i (Nat.lt_of_lt_of_le hi h.size) hS).trans (h.block i hi hS)⟩
theorem But.trans2 {S S' : Nat → Prop} {a b c : World} (h : But S a b) (k : But S' b c) (hS : ∀ i, S' i → S i ∨ a.heap.size ≤ i) : But S a c :=
 ⟨k.os.trans h.os, k.tape.trans h.tape, k.output.trans h.output, Nat.le_trans h.size k.size, fun i hi hs => (k.block i (Nat.lt_of_lt_of_le hi h.size) (fun h1 => (hS i h1).elim hs (fun h2 => by omega))).trans (h.block i hi hs)⟩
theorem But.more {S S' : Nat → Prop} {a b : World} (h : But S a b) (hS : ∀ i, S i → S' i) : But S' a b := ⟨h.os, h.tape, h.output, h.size, fun i hi hs => h.block i hi fun h1 => hs (hS i h1)⟩
theorem But.drew {S : Nat → Prop} {a w : World} (h : But S a w) : But S a w.drew := ⟨h.os, h.tape, h.output, h.size, h.block⟩
theorem But.alloc {S : Nat → Prop} {a w : World} (h : But S a w) (o : Obj) : But S a (w.alloc o) := h.trans (But.of_below ((Below.refl _ _).alloc (Nat.le_refl _) _))
theorem But.step {S : Nat → Prop} {w : World} {p : Addr} (hp : S p.block) (u : Value) : But S w (w.setCell p u) :=
 ⟨rfl, rfl, rfl, by simp [World.setCell], fun i _ hS => Below.heap_setCell w p u i fun e => hS (e ▸ hp)⟩
theorem But.setCell {S : Nat → Prop} {a w : World} (h : But S a w) {p : Addr} (hp : S p.block ∨ a.heap.size ≤ p.block) (u : Value) : But S a (w.setCell p u) :=
 ⟨h.os, h.tape, h.output, by simpa [World.setCell] using h.size, fun i hi hS => (Below.heap_setCell w p u i fun e => hp.elim (fun h => hS (e ▸ h)) fun h => by omega).trans (h.block i hi hS)⟩
theorem But.grown {S : Nat → Prop} {w w' : World} {b : Nat} (hg : w.grownBy w' (some b)) (hb : S b) : But S w w' :=
 ⟨hg.os, hg.tape, hg.output, hg.size, fun i hi hS => hg.block i hi fun e => hS ((Option.some.inj e) ▸ hb)⟩
theorem But.below {S : Nat → Prop} {a b : World} (h : But S a b) {B : Nat} (hS : ∀ k, S k → B ≤ k) (hB : B ≤ a.heap.size) : Below B a b := ⟨h.os, h.tape, h.output, h.size, fun i hi => h.block i (by omega) fun hs => by have := hS i hs;omega⟩
theorem Blk.but {S : Nat → Prop} {w w' : World} {b : Nat} {t : TypeId} {xs : Array Value} (h : Blk w b t xs) (hf : But S w w') (hS : ¬ S b) : Blk w' b t xs := h.block (hf.block b h.lt hS)
theorem own_block {base : Nat} {w w' : World} {e : TypeId} {size : Nat} {v : Value} {n : Nat} {xs : List Value} (h : w.ownsRow base e size v n xs) (hb : ∀ g cur, w.heap[g]? = some (.cells cur e (0, 0)) → base ≤ g → w'.heap[g]? = w.heap[g]?) : w'.ownsRow base e size v n xs := by
 refine ⟨h.1, ?_⟩
 rcases h.2 with hn | ⟨g, cap, cur, rfl, hbg, hgg, rest⟩
 ·exact .inl hn
 ·exact .inr ⟨g, cap, cur, rfl, hbg, by rw [hb g cur hgg hbg];exact hgg, rest⟩
end Go.Dr
