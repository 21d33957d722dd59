/- Parts of the proof of pt_root: the texts Pmp. -/
import Derived.Test.YtkeeofhjdffhbaaGreatDoorT3
set_option linter.unusedSimpArgs false
set_option linter.unusedVariables false
set_option linter.unnecessarySimpa false
namespace Go.Dr
open Go Go.RowKit
/-- How a pointer to a whole block reads. -/
def Rp : Value → Option (DataW Unit × List MemPlace)
 | .pointer none => some (.nil, [])
 | .pointer (some ⟨b, 0, none⟩) => some (.lit (.int .i64 (b : Int)), [])
 | _ => none
theorem Rp_ptr (b : Nat) : Rp (Ptr b) = some (.lit (.int .i64 (b : Int)), []) := rfl
theorem Rp_inv {v : Value} {b : Nat} {ps : List MemPlace} (h : Rp v = some (.lit (.int .i64 (b : Int)), ps)) : v = Ptr b := by
 unfold Rp at h
 split at h
 ·cases h
 ·rename_i c
  simp only [Option.some.injEq, Prod.mk.injEq, DataW.lit.injEq, Lit.int.injEq, true_and] at h
  have : c = b := by omega
  rw [this]
 ·cases h
theorem Rp_nil {v : Value} {ps : List MemPlace} (h : Rp v = some (.nil, ps)) : v = .pointer none := by
 unfold Rp at h
 split at h
 ·rfl
 ·cases h
 ·cases h
theorem World.ownsMap.tight {H : Type} {w : World} {P : Program} {k : TypeId} {R : Value → Option (DataW H × List MemPlace)} {b n : Nat} {D : DataW H} (h : w.ownsMap P k R b n D) : w.ownsMap P k R b (Maps.size D) D := by
 obtain ⟨es, clock, hb, F, _, rfl⟩ := h
 exact ⟨es, clock, hb, F, by simp [Maps.size, length_sorted], rfl⟩
/-- Block m is a map that leads from these numbers to these blocks. -/
def PMap (P : Program) (kt : TypeId) (w : World) (m : Nat) (l : List (Int × Nat)) : Prop :=
 ∃ D : DataW Unit, w.ownsMap P kt Rp m l.length D ∧ Maps.Tidy D ∧ Maps.size D = l.length ∧ (l.map (·.1)).Nodup ∧ (∀ p ∈ l, (Lit.int .i64 p.1).wf = true) ∧ (∀ i : Int, Maps.has D (.int .i64 i) = l.any fun p => p.1 == i) ∧ ∀ p ∈ l, ∀ z, D.atKey (.int .i64 p.1) z = .lit (.int .i64 (p.2 : Int))
theorem PMap.made {P : Program} {kt : TypeId} {w : World} {m : Nat} (h : w.heap[m]? = some (.map #[] 0)) : PMap P kt w m [] :=
 ⟨.map [], ⟨#[], 0, h, ⟨by simp, MapKept.stamped_empty 0, by simp⟩, Nat.le_refl _, rfl⟩, Maps.tidy_empty, rfl, by simp, by simp, fun _ => rfl, by simp⟩
theorem PMap.lt {P : Program} {kt : TypeId} {w : World} {m : Nat} {l : List (Int × Nat)} (h : PMap P kt w m l) : m < w.heap.size := by
 obtain ⟨D, h, _⟩ := h
 exact h.lt
theorem PMap.obj {P : Program} {kt : TypeId} {w : World} {m : Nat} {l : List (Int × Nat)} (h : PMap P kt w m l) : ∃ es clock, w.heap[m]? = some (.map es clock) := by
 obtain ⟨D, ⟨es, clock, h, _⟩, _⟩ := h
 exact ⟨es, clock, h⟩
theorem PMap.block {P : Program} {kt : TypeId} {w w' : World} {m : Nat} {l : List (Int × Nat)} (h : PMap P kt w m l) (hb : w'.heap[m]? = w.heap[m]?) : PMap P kt w' m l := by
 obtain ⟨D, ⟨es, clock, h1, h2⟩, hD⟩ := h
 exact ⟨D, ⟨es, clock, hb.trans h1, h2⟩, hD⟩
section
variable {P : Program} {kt et t : TypeId} {w : World} {m : Nat} {l : List (Int × Nat)}
theorem lit_i {i j : Int} (h : i ≠ j) : Lit.int .i64 i ≠ .int .i64 j := fun e => h (by cases e;rfl)
theorem mem_more {α : Type} {a b : List α} {p q : α} (h : q ∈ a ++ b) : q ∈ a ++ p :: b := by
 rcases List.mem_append.1 h with h | h
 ·exact List.mem_append.2 (.inl h)
 ·exact List.mem_append.2 (.inr (.tail _ h))
/-- 'delete(m, i)': a number that is there. -/
theorem PMap.drop {a b : List (Int × Nat)} {p : Int × Nat} (h : PMap P kt w m (a ++ p :: b)) (hk : P.underlying kt = some (.int .i64)) (ht : P.underlying t = some (.map kt et)) (ty : TypeId) :
  ∃ w', (Builtin.delete_ #[t, kt] ty #[.map (some m), .int .i64 p.1]).run P w = .ok (.tuple #[]) w' ∧ PMap P kt w' m (a ++ b) ∧ w.mapTurned w' m := by
 obtain ⟨D, h1, h2, h3, h4, h5, h6, h7⟩ := h
 have hw := h5 p (by simp)
 obtain ⟨w', hrun, ho, hm⟩ := h1.drop (Maps.int_keyed hk) ht (Maps.keyOf_int_mk hk hw) ty
 have hh : Maps.has D (.int .i64 p.1) = true := by rw [h6, List.any_eq_true];exact ⟨p, by simp, by simp⟩
 have hsz := Maps.size_del (k := .int .i64 p.1) h2
 rw [hh] at hsz
 have hs2 : Maps.size (D.del (.int .i64 p.1)) = (a ++ b).length := by simp at h3 hsz ⊢;omega
 have hnd : ∀ q ∈ a ++ b, q.1 ≠ p.1 := by
  intro q hq e
  simp only [List.map_append, List.map_cons, List.nodup_append, List.nodup_cons, List.mem_append, List.mem_cons] at h4 hq
  obtain ⟨-, ⟨h8, -⟩, h9⟩ := h4
  rcases hq with hq | hq
  ·exact h9 q.1 (List.mem_map_of_mem hq) p.1 (by simp) e
  ·exact h8 (e ▸ List.mem_map_of_mem hq)
 refine ⟨w', hrun, ⟨_, by rw [← hs2];exact World.ownsMap.tight ho, h2.del _, hs2, ?_, fun q hq => h5 q (mem_more hq), fun i => ?_, fun q hq z => ?_⟩, hm⟩
 ·simp only [List.map_append, List.map_cons, List.nodup_append, List.nodup_cons, List.mem_cons] at h4 ⊢
  exact ⟨h4.1, h4.2.1.2, fun x hx y hy => h4.2.2 x hx y (.inr hy)⟩
 ·by_cases e : i = p.1
  ·subst e
   rw [Maps.has_del_same]
   exact (List.any_eq_false.2 fun q hq => by simpa using hnd q hq).symm
  ·rw [Maps.has_del_other (lit_i e), h6]
   have : (p.1 == i) = false := by simpa using fun e1 => e e1.symm
   simp [this]
 ·rw [Maps.atKey_del_other (lit_i (hnd q hq))]
  exact h7 q (mem_more hq) z
/-- 'm[i] = p': a number that isn't there. -/
theorem PMap.put (h : PMap P kt w m l) (hk : P.underlying kt = some (.int .i64)) (ht : P.underlying t = some (.map kt et)) (i : Int) (b : Nat) (hw : (Lit.int .i64 i).wf = true) (hi : ∀ p ∈ l, p.1 ≠ i) (hn : l.length < maxLen) :
  ∃ w', (Instr.mapUpdate t (.map (some m)) (.int .i64 i) (Ptr b)).run P w = .ok () w' ∧ PMap P kt w' m (l ++ [(i, b)]) ∧ w.mapTurned w' m := by
 obtain ⟨D, h1, h2, h3, h4, h5, h6, h7⟩ := h
 obtain ⟨w', hrun, ho, hm⟩ := h1.store (Maps.int_keyed hk) ht hn (Maps.keyOf_int_mk hk hw) (Rp_ptr b)
 have hkl : WideAt.IsKeyLit (Lit.int .i64 i) := by trivial
 have hh : Maps.has D (.int .i64 i) = false := by rw [h6, List.any_eq_false];intro p hp;simpa using hi p hp
 have hs2 : Maps.size (D.put (.int .i64 i) (.lit (.int .i64 (b : Int)))) = l.length + 1 := by rw [Maps.size_put h2, hh, h3];simp
 refine ⟨w', hrun, ⟨_, by simpa using ho, h2.put hkl _, by simpa using hs2, ?_, fun q hq => ?_, fun j => ?_, fun q hq z => ?_⟩, hm⟩
 ·rw [List.map_append, List.nodup_append]
  refine ⟨h4, by simp, fun x hx y hy e => ?_⟩
  simp only [List.map_cons, List.map_nil, List.mem_singleton] at hy
  obtain ⟨p, hp, e2⟩ := List.mem_map.1 hx
  exact hi p hp (by rw [e2, e, hy])
 ·rcases List.mem_append.1 hq with hq | hq
  ·exact h5 q hq
  ·simp at hq;rw [hq];exact hw
 ·by_cases e : j = i
  ·subst e
   rw [Maps.has_put_same h2.isMap hkl]
   simp
  ·rw [Maps.has_put_other (lit_i e), h6]
   have : (i == j) = false := by simpa using fun e1 => e e1.symm
   simp [this]
 ·rcases List.mem_append.1 hq with hq | hq
  ·rw [Maps.atKey_put_other (lit_i (hi q hq))]
   exact h7 q hq z
  ·simp at hq
   rw [hq]
   exact Maps.atKey_put_same h2.isMap hkl _ _
theorem PMap.len (h : PMap P kt w m l) (ht : P.underlying t = some (.map kt et)) (ty : TypeId) : (Builtin.len_ #[t] ty #[.map (some m)]).run P w = .ok (.int .i64 (l.length : Nat)) w := by
 obtain ⟨D, h1, h2, h3, _⟩ := h
 rw [h1.len ht ty, h3]
end
/-- Nothing that was there has turned but some blocks. -/
structure But (S : Nat → Prop) (w w' : World) : Prop where
 os : w'.os = w.os
 tape : w'.tape = w.tape
 output : w'.output = w.output
 size : w.heap.size ≤ w'.heap.size
 block : ∀ k, k < w.heap.size → ¬ S k → w'.heap[k]? = w.heap[k]?
theorem But.refl (S : Nat → Prop) (w : World) : But S w w := ⟨rfl, rfl, rfl, Nat.le_refl _, fun _ _ _ => rfl⟩
theorem But.of_below {S : Nat → Prop} {w w' : World} (h : Below w.heap.size w w') : But S w w' := ⟨h.os, h.tape, h.output, h.size, fun k hk _ => h.block k hk⟩
theorem But.trans {S : Nat → Prop} {a b c : World} (h : But S a b) (k : But S b c) : But S a c :=
 ⟨k.os.trans h.os, k.tape.trans h.tape, k.output.trans h.output, Nat.le_trans h.size k.size, fun i hi hS => (k.block i (Nat.lt_of_lt_of_le hi h.size) hS).trans (h.block i hi hS)⟩
/-- .. what came later may turn too. -/
theorem But.trans2 {S S' : Nat → Prop} {a b c : World} (h : But S a b) (k : But S' b c) (hS : ∀ i, S' i → S i ∨ a.heap.size ≤ i) : But S a c :=
 ⟨k.os.trans h.os, k.tape.trans h.tape, k.output.trans h.output, Nat.le_trans h.size k.size, fun i hi hs => (k.block i (Nat.lt_of_lt_of_le hi h.size) (fun h1 => (hS i h1).elim hs (fun h2 => by omega))).trans (h.block i hi hs)⟩
theorem But.more {S S' : Nat → Prop} {a b : World} (h : But S a b) (hS : ∀ i, S i → S' i) : But S' a b := ⟨h.os, h.tape, h.output, h.size, fun i hi hs => h.block i hi fun h1 => hs (hS i h1)⟩
theorem But.drew {S : Nat → Prop} {a w : World} (h : But S a w) : But S a w.drew := ⟨h.os, h.tape, h.output, h.size, h.block⟩
theorem But.alloc {S : Nat → Prop} {a w : World} (h : But S a w) (o : Obj) : But S a (w.alloc o) := h.trans (But.of_below ((Below.refl _ _).alloc (Nat.le_refl _) _))
theorem But.step {S : Nat → Prop} {w : World} {p : Addr} (hp : S p.block) (u : Value) : But S w (w.setCell p u) :=
 ⟨rfl, rfl, rfl, by simp [World.setCell], fun i _ hS => Below.heap_setCell w p u i fun e => hS (e ▸ hp)⟩
theorem But.setCell {S : Nat → Prop} {a w : World} (h : But S a w) {p : Addr} (hp : S p.block ∨ a.heap.size ≤ p.block) (u : Value) : But S a (w.setCell p u) :=
 ⟨h.os, h.tape, h.output, by simpa [World.setCell] using h.size, fun i hi hS => (Below.heap_setCell w p u i fun e => hp.elim (fun h => hS (e ▸ h)) fun h => by omega).trans (h.block i hi hS)⟩
theorem But.grown {S : Nat → Prop} {w w' : World} {b : Nat} (hg : w.grownBy w' (some b)) (hb : S b) : But S w w' :=
 ⟨hg.os, hg.tape, hg.output, hg.size, fun i hi hS => hg.block i hi fun e => hS ((Option.some.inj e) ▸ hb)⟩
theorem But.below {S : Nat → Prop} {a b : World} (h : But S a b) {B : Nat} (hS : ∀ k, S k → B ≤ k) (hB : B ≤ a.heap.size) : Below B a b := ⟨h.os, h.tape, h.output, h.size, fun i hi => h.block i (by omega) fun hs => by have := hS i hs;omega⟩
theorem Blk.but {S : Nat → Prop} {w w' : World} {b : Nat} {t : TypeId} {xs : Array Value} (h : Blk w b t xs) (hf : But S w w') (hS : ¬ S b) : Blk w' b t xs := h.block (hf.block b h.lt hS)
/-- A row stays where its block does. -/
theorem own_block {base : Nat} {w w' : World} {e : TypeId} {size : Nat} {v : Value} {n : Nat} {xs : List Value} (h : w.ownsRow base e size v n xs) (hb : ∀ g cur, w.heap[g]? = some (.cells cur e (0, 0)) → base ≤ g → w'.heap[g]? = w.heap[g]?) : w'.ownsRow base e size v n xs := by
 refine ⟨h.1, ?_⟩
 rcases h.2 with hn | ⟨g, cap, cur, rfl, hbg, hgg, rest⟩
 ·exact .inl hn
 ·exact .inr ⟨g, cap, cur, rfl, hbg, by rw [hb g cur hgg hbg];exact hgg, rest⟩
end Go.Dr
