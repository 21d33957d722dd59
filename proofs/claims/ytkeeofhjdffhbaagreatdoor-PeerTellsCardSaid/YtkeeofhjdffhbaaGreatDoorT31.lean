/- Parts of the proof of pt_root: the texts Gmp. -/
import Derived.StringKeys
import Derived.Test.YtkeeofhjdffhbaaGreatDoorT4
set_option linter.unusedSimpArgs false
set_option linter.unusedVariables false
set_option linter.unnecessarySimpa false
namespace Go.Dr
open Go Go.RowKit
section
variable {κ β : Type} [DecidableEq κ]
/-- Block m is a map that leads from these keys to these things. -/
def GMap (P : Program) (kt : TypeId) (R : Value → Option (DataW Unit × List MemPlace)) (L : κ → Lit) (E : β → DataW Unit) (w : World) (m : Nat) (l : List (κ × β)) : Prop :=
 ∃ D : DataW Unit, w.ownsMap P kt R m l.length D ∧ Maps.Tidy D ∧ Maps.size D = l.length ∧ (l.map (·.1)).Nodup ∧ (∀ i : κ, Maps.has D (L i) = l.any fun p => p.1 == i) ∧ ∀ p ∈ l, ∀ z, D.atKey (L p.1) z = E p.2
variable {P : Program} {kt et t : TypeId} {R : Value → Option (DataW Unit × List MemPlace)} {L : κ → Lit} {E : β → DataW Unit} {w : World} {m : Nat} {l : List (κ × β)}
theorem GMap.made (h : w.heap[m]? = some (.map #[] 0)) : GMap P kt R L E w m [] :=
 ⟨.map [], ⟨#[], 0, h, ⟨by simp, MapKept.stamped_empty 0, by simp⟩, Nat.le_refl _, rfl⟩, Maps.tidy_empty, rfl, by simp, fun _ => rfl, by simp⟩
theorem GMap.lt (h : GMap P kt R L E w m l) : m < w.heap.size := by
 obtain ⟨D, h, _⟩ := h
 exact h.lt
theorem GMap.obj (h : GMap P kt R L E w m l) : ∃ es clock, w.heap[m]? = some (.map es clock) := by
 obtain ⟨D, ⟨es, clock, h, _⟩, _⟩ := h
 exact ⟨es, clock, h⟩
theorem GMap.block {w' : World} (h : GMap P kt R L E w m l) (hb : w'.heap[m]? = w.heap[m]?) : GMap P kt R L E w' m l := by
 obtain ⟨D, ⟨es, clock, h1, h2⟩, hD⟩ := h
 exact ⟨D, ⟨es, clock, hb.trans h1, h2⟩, hD⟩
theorem GMap.drew (h : GMap P kt R L E w m l) : GMap P kt R L E w.drew m l := h.block rfl
theorem GMap.on {w' : World} (h : GMap P kt R L E w m l) (hb : Below w.heap.size w w') : GMap P kt R L E w' m l := h.block (hb.block m h.lt)
theorem GMap.but {S : Nat → Prop} {w' : World} (h : GMap P kt R L E w m l) (hf : But S w w') (hS : ¬ S m) : GMap P kt R L E w' m l := h.block (hf.block m h.lt hS)
theorem GMap.far (h : GMap P kt R L E w m l) {a : Addr} (ha : m ≠ a.block) (u : Value) : GMap P kt R L E (w.setCell a u) m l := h.block (Below.heap_setCell _ _ _ _ ha)
theorem GMap.nodup (h : GMap P kt R L E w m l) : (l.map (·.1)).Nodup := by
 obtain ⟨D, h1, h2, h3, h4, _⟩ := h
 exact h4
/-- a key that isn't there -/
theorem GMap.out (h : GMap P kt R L E w m l) (K : Maps.Keyed P kt) (ht : P.underlying t = some (.map kt et)) {z0 : Value} (hz : (zeroValue et).run P w = .ok z0 w) {zd : DataW Unit} {zp : List MemPlace} (hzd : R z0 = some (zd, zp)) {kv : Value} {i : κ} (hkey : keyOf P kt kv = some (L i)) (hm : ∀ p ∈ l, p.1 ≠ i) (inv : ∀ v ps, R v = some (zd, ps) → v = z0) :
  (Instr.lookup t (.map (some m)) kv true).run P w = .ok (.tuple #[z0, .bool false]) w ∧ (Instr.lookup t (.map (some m)) kv false).run P w = .ok z0 w := by
 obtain ⟨D, h1, h2, h3, h4, h6, h7⟩ := h
 have hh : Maps.has D (L i) = false := by rw [h6, List.any_eq_false];intro p hp;simpa using hm p hp
 constructor
 ·obtain ⟨v, ps, hrun, hv⟩ := h1.look_ok K ht hz hzd hkey
  rw [Maps.atKey_of_not_has hh] at hv
  rw [inv _ _ hv, hh] at hrun
  exact hrun
 ·obtain ⟨v, ps, hrun, hv⟩ := h1.lookup K ht hz hzd hkey
  rw [Maps.atKey_of_not_has hh] at hv
  rw [inv _ _ hv] at hrun
  exact hrun
/-- 'm[i] = b': a key that isn't there -/
theorem GMap.put (hL : ∀ i j, i ≠ j → L i ≠ L j) (h : GMap P kt R L E w m l) (K : Maps.Keyed P kt) (ht : P.underlying t = some (.map kt et)) {kv : Value} {i : κ} (hkey : keyOf P kt kv = some (L i)) (hkl : WideAt.IsKeyLit (L i)) (hi : ∀ p ∈ l, p.1 ≠ i) (hn : l.length < maxLen) {b : β} {V : Value} {ps : List MemPlace} (hV : R V = some (E b, ps)) :
  ∃ w', (Instr.mapUpdate t (.map (some m)) kv V).run P w = .ok () w' ∧ GMap P kt R L E w' m (l ++ [(i, b)]) ∧ w.mapTurned w' m := by
 obtain ⟨D, h1, h2, h3, h4, h6, h7⟩ := h
 obtain ⟨w', hrun, ho, hm⟩ := h1.store K ht hn hkey hV
 have hh : Maps.has D (L i) = false := by rw [h6, List.any_eq_false];intro p hp;simpa using hi p hp
 have hs2 : Maps.size (D.put (L i) (E b)) = l.length + 1 := by rw [Maps.size_put h2, hh, h3];simp
 refine ⟨w', hrun, ⟨_, by simpa using ho, h2.put hkl _, by simpa using hs2, ?_, fun j => ?_, fun q hq z => ?_⟩, hm⟩
 ·rw [List.map_append, List.nodup_append]
  refine ⟨h4, by simp, fun x hx y hy e => ?_⟩
  simp only [List.map_cons, List.map_nil, List.mem_singleton] at hy
  obtain ⟨p, hp, e2⟩ := List.mem_map.1 hx
  exact hi p hp (by rw [e2, e, hy])
 ·by_cases e : j = i
  ·subst e
   rw [Maps.has_put_same h2.isMap hkl]
   simp
  ·rw [Maps.has_put_other (hL _ _ e), h6]
   have : (i == j) = false := by simpa using fun e1 => e e1.symm
   simp [this]
 ·rcases List.mem_append.1 hq with hq | hq
  ·rw [Maps.atKey_put_other (hL _ _ (hi q hq))]
   exact h7 q hq z
  ·simp at hq
   rw [hq]
   exact Maps.atKey_put_same h2.isMap hkl _ _
omit [DecidableEq κ] in
theorem nodup_mid {a b : List (κ × β)} {p : κ × β} (h : ((a ++ p :: b).map (·.1)).Nodup) : ∀ q ∈ a ++ b, q.1 ≠ p.1 := by
 intro q hq e
 simp only [List.map_append, List.map_cons, List.nodup_append, List.nodup_cons, List.mem_append, List.mem_cons] at h hq
 obtain ⟨-, ⟨h8, -⟩, h9⟩ := h
 rcases hq with hq | hq
 ·exact h9 q.1 (List.mem_map_of_mem hq) p.1 (by simp) e
 ·exact h8 (e ▸ List.mem_map_of_mem hq)
/-- 'm[i] = b': a key that is there -/
theorem GMap.set (hL : ∀ i j, i ≠ j → L i ≠ L j) {a c : List (κ × β)} {i : κ} {b0 : β} (h : GMap P kt R L E w m (a ++ (i, b0) :: c)) (K : Maps.Keyed P kt) (ht : P.underlying t = some (.map kt et)) {kv : Value} (hkey : keyOf P kt kv = some (L i)) (hkl : WideAt.IsKeyLit (L i)) (hn : (a ++ (i, b0) :: c).length < maxLen) {b : β} {V : Value} {ps : List MemPlace} (hV : R V = some (E b, ps)) :
  ∃ w', (Instr.mapUpdate t (.map (some m)) kv V).run P w = .ok () w' ∧ GMap P kt R L E w' m (a ++ (i, b) :: c) ∧ w.mapTurned w' m := by
 obtain ⟨D, h1, h2, h3, h4, h6, h7⟩ := h
 obtain ⟨w', hrun, ho, hm⟩ := h1.store K ht hn hkey hV
 have hh : Maps.has D (L i) = true := by rw [h6, List.any_eq_true];exact ⟨(i, b0), by simp, by simp⟩
 have hs2 : Maps.size (D.put (L i) (E b)) = (a ++ (i, b) :: c).length := by rw [Maps.size_put h2, hh, h3];simp
 have hnd := nodup_mid h4
 refine ⟨w', hrun, ⟨_, by rw [← hs2];exact World.ownsMap.tight ho, h2.put hkl _, hs2, by simpa using h4, fun j => ?_, fun q hq z => ?_⟩, hm⟩
 ·by_cases e : j = i
  ·subst e
   rw [Maps.has_put_same h2.isMap hkl]
   simp
  ·rw [Maps.has_put_other (hL _ _ e), h6]
   simp
 ·rcases List.mem_append.1 hq with hq | hq
  ·rw [Maps.atKey_put_other (hL _ _ (hnd q (List.mem_append.2 (.inl hq))))]
   exact h7 q (List.mem_append.2 (.inl hq)) z
  ·rcases List.mem_cons.1 hq with rfl | hq
   ·exact Maps.atKey_put_same h2.isMap hkl _ _
   ·rw [Maps.atKey_put_other (hL _ _ (hnd q (List.mem_append.2 (.inr hq))))]
    exact h7 q (List.mem_append.2 (.inr (.tail _ hq))) z
/-- 'delete(m, i)': a key that is there -/
theorem GMap.drop (hL : ∀ i j, i ≠ j → L i ≠ L j) {a c : List (κ × β)} {i : κ} {b0 : β} (h : GMap P kt R L E w m (a ++ (i, b0) :: c)) (K : Maps.Keyed P kt) (ht : P.underlying t = some (.map kt et)) {kv : Value} (hkey : keyOf P kt kv = some (L i)) (ty : TypeId) :
  ∃ w', (Builtin.delete_ #[t, kt] ty #[.map (some m), kv]).run P w = .ok (.tuple #[]) w' ∧ GMap P kt R L E w' m (a ++ c) ∧ w.mapTurned w' m := by
 obtain ⟨D, h1, h2, h3, h4, h6, h7⟩ := h
 obtain ⟨w', hrun, ho, hm⟩ := h1.drop K ht hkey ty
 have hh : Maps.has D (L i) = true := by rw [h6, List.any_eq_true];exact ⟨(i, b0), by simp, by simp⟩
 have hsz := Maps.size_del (k := L i) h2
 rw [hh] at hsz
 have hs2 : Maps.size (D.del (L i)) = (a ++ c).length := by simp at h3 hsz ⊢;omega
 have hnd := nodup_mid h4
 refine ⟨w', hrun, ⟨_, by rw [← hs2];exact World.ownsMap.tight ho, h2.del _, hs2, ?_, fun j => ?_, fun q hq z => ?_⟩, hm⟩
 ·simp only [List.map_append, List.map_cons, List.nodup_append, List.nodup_cons, List.mem_cons] at h4 ⊢
  exact ⟨h4.1, h4.2.1.2, fun x hx y hy => h4.2.2 x hx y (.inr hy)⟩
 ·by_cases e : j = i
  ·subst e
   rw [Maps.has_del_same]
   exact (List.any_eq_false.2 fun q hq => by simpa using hnd q hq).symm
  ·rw [Maps.has_del_other (hL _ _ e), h6]
   have : (i == j) = false := by simpa using fun e1 => e e1.symm
   simp [this]
 ·rw [Maps.atKey_del_other (hL _ _ (hnd q hq))]
  rcases List.mem_append.1 hq with hq | hq
  ·exact h7 q (List.mem_append.2 (.inl hq)) z
  ·exact h7 q (List.mem_append.2 (.inr (.tail _ hq))) z
theorem GMap.len (h : GMap P kt R L E w m l) (ht : P.underlying t = some (.map kt et)) (ty : TypeId) : (Builtin.len_ #[t] ty #[.map (some m)]).run P w = .ok (.int .i64 (l.length : Nat)) w := by
 obtain ⟨D, h1, h2, h3, _⟩ := h
 rw [← h3]
 exact h1.len ht ty
end
abbrev Li : Int → Lit := Lit.int .i64
/-- How a number reads. -/
def Ri : Value → Option (DataW Unit × List MemPlace)
 | .int .i64 x => some (.lit (.int .i64 x), [])
 | _ => none
abbrev Ei : Int → DataW Unit := fun x => .lit (.int .i64 x)
abbrev En' : Nat → DataW Unit := fun x => .lit (.int .i64 (x : Int))
end Go.Dr
