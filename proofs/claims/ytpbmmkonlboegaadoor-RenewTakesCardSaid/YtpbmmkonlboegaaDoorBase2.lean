
/- More small laws: appending a slice that is read; a set of texts in a map that the call made. No program in sight. -/
import Derived.Test.YtpbmmkonlboegaaDoorSpec
import Derived.Maps.OwnSet
namespace Go.Dr
open Go.RowKit

theorem S_one (l : List Bytes) : ∀ u ∈ l.map S, u.oneCell' = true := by
  intro u hu
  obtain ⟨_, _, rfl⟩ := List.mem_map.1 hu
  rfl
theorem fcells_one (l : List F) : ∀ u ∈ fcells l, u.oneCell' = true := by
  intro u hu
  obtain ⟨f, _, hf⟩ := List.mem_flatMap.1 hu
  simp only [F.cells, List.mem_cons, List.not_mem_nil, or_false] at hf
  rcases hf with rfl | rfl | rfl <;> rfl

/-- 'append(s, x...)': s the call's own, x a slice that is read (nil or not). -/
theorem wpList_appRd {P : Program} {ops : Array Oper} {rest : List Oper} {o : Oper} {a : Act} {Q : Exit → Act → World → Prop} {w : World} (hgd : o.guard = none) (s x : Operand) (t : TypeId)
    (ho : o.op = .call { callee := .builtin .append, args := #[s, x], argTypes := #[t, t] })
    (base : Nat) (e : TypeId) (z : Value) (size bytes : Nat) (ht : P.underlying t = some (.slice e)) (hi : (P.info? e).map (fun i => (i.zero, i.size, i.bytes)) = some (some z, size, bytes))
    (hzs : z.cells.size = size) (hsz : 0 < size)
    (v : Value) (n : Nat) (xs : List Value) (hs : a.eval s = v) (hown : w.ownsRow base e size v n xs)
    (B : Nat) (vs : Value) (m : Nat) (news : List Value) (hx : a.eval x = vs) (hsrc : Rd B w size vs m news) (h1 : ∀ u ∈ news, u.oneCell' = true)
    (hm : n + m ≤ maxLen) (hbytes : (n + m) * bytes ≤ 140737488355328) (hbase : base ≤ w.heap.size)
    (h : ∀ a' c' w', w'.ownsRow base e size (.slice a' (n + m) c') (n + m) (xs ++ news) → Below base w w' → wpList P ops Q rest (a.put o.dst (.slice a' (n + m) c')) w') : wpList P ops Q (o :: rest) a w := by
  obtain ⟨ad, cap, rfl, h2, h3, h4, h5, h6⟩ := hsrc
  cases ad with
  | none =>
    obtain rfl := h5 rfl
    obtain rfl : m = 0 := by omega
    have hn : news = [] := List.eq_nil_of_length_eq_zero (by simpa using h4)
    subst hn
    obtain ⟨i, hi, hz, hsize, hby⟩ := info_parts hi
    refine wpList_plain hgd fun K hK => ?_
    have hrun := run_append_owned_none (P := P) (w := w) base t o.type e i size ht hi v n xs hown
    unfold Oper.wp
    simp [execOp, ho, resolve, invoke, builtin, hs, hx, hrun, Result.andThen]
    obtain ⟨a', c', rfl⟩ : ∃ a' c', v = .slice a' n c' := by
      rcases hown.2 with ⟨rfl, rfl⟩ | ⟨g, cap, cur, rfl, _⟩
      · exact ⟨_, _, rfl⟩
      · exact ⟨_, _, rfl⟩
    have := h a' c' w (by simpa using hown) (Below.refl _ _)
    exact hK _ _ this
  | some ad =>
    refine wpList_app hgd s x t ho base e z size bytes ht hi hzs hsz v n xs hs hown ad m cap news hx h4 ?_ h1 hm hbytes hbase fun v' w' ho' hg _ => ?_
    · intro j u hu
      obtain ⟨b, off, e1, _, e3⟩ := h6 j u hu
      obtain rfl := Option.some.inj e1
      rw [Addr.add_lit]
      exact e3
    · obtain ⟨a', c', rfl⟩ : ∃ a' c', v' = .slice a' (n + m) c' := by
        rcases ho'.2 with ⟨rfl, h0⟩ | ⟨g, cap, cur, rfl, _⟩
        · rw [h0]; exact ⟨_, _, rfl⟩
        · exact ⟨_, _, rfl⟩
      exact h a' c' w' ho' (Bl.grown (Below.refl base w) hown hg hbase (Nat.le_refl _))

/-- Block b is a map whose keys are the texts ks (and whose elements are integers). -/
def MapSet (w : World) (P : Program) (kt et : TypeId) (b : Nat) (ks : List Bytes) : Prop :=
  ∃ (n : Nat) (D : DataW Unit), n ≤ ks.length ∧ w.ownsMap P kt (plainElem P et) b n D ∧ Maps.IsMap D ∧ ∀ k : Bytes, Maps.has D (.string k) = ks.contains k

theorem MapSet.made (w : World) (P : Program) (kt et : TypeId) : MapSet (w.alloc (.map #[] 0)) P kt et w.heap.size [] :=
  ⟨0, .map [], Nat.le_refl _, World.ownsMap_made _ _ _ _, Maps.isMap_empty, fun _ => rfl⟩
theorem MapSet.lt {w : World} {P : Program} {kt et : TypeId} {b : Nat} {ks : List Bytes} (h : MapSet w P kt et b ks) : b < w.heap.size := by
  obtain ⟨n, D, _, h, _⟩ := h
  exact h.lt
theorem MapSet.block {w w' : World} {P : Program} {kt et : TypeId} {b : Nat} {ks : List Bytes} (h : MapSet w P kt et b ks) (hb : w'.heap[b]? = w.heap[b]?) : MapSet w' P kt et b ks := by
  obtain ⟨n, D, hn, ⟨es, clock, h1, h2⟩, hD⟩ := h
  exact ⟨n, D, hn, ⟨es, clock, hb.trans h1, h2⟩, hD⟩
theorem MapSet.below {B : Nat} {w w' : World} {P : Program} {kt et : TypeId} {b : Nat} {ks : List Bytes} (h : MapSet w P kt et b ks) (hb : Below B w w') (hB : b < B) : MapSet w' P kt et b ks := h.block (hb.block b hB)
theorem MapSet.alloc {w : World} {P : Program} {kt et : TypeId} {b : Nat} {ks : List Bytes} (h : MapSet w P kt et b ks) (o : Obj) : MapSet (w.alloc o) P kt et b ks := h.block (Below.heap_alloc w o b h.lt)
theorem MapSet.setCell {w : World} {P : Program} {kt et : TypeId} {b : Nat} {ks : List Bytes} (h : MapSet w P kt et b ks) {p : Addr} (hp : b ≠ p.block) (u : Value) : MapSet (w.setCell p u) P kt et b ks := h.block (Below.heap_setCell w p u b hp)

theorem MapSet.drew {w : World} {P : Program} {kt et : TypeId} {b : Nat} {ks : List Bytes} (h : MapSet w P kt et b ks) : MapSet w.drew P kt et b ks := h.block rfl
theorem One.drew {w : World} {b : Nat} {t : TypeId} {v : Value} (h : One w b t v) : One w.drew b t v := h

theorem lit_ne {k k' : Bytes} (h : k' ≠ k) : (Lit.string k') ≠ .string k := fun e => h (by cases e; rfl)

/-- 'm[k] = i'. -/
theorem wpList_set_store {P : Program} (w : World) {ops : Array Oper} {rest : List Oper} {o : Oper} {a : Act} {Q : Exit → Act → World → Prop}
    (hg : o.guard = none) (m x v : Operand) (t : TypeId) (hop : o.op = Op.mapUpdate t m x v) (kt et : TypeId) (q : IntKind)
    (hk : P.underlying kt = some .string) (he : P.underlying et = some (.int q)) (ht : P.underlying t = some (.map kt et)) (b : Nat) (ks : List Bytes)
    (hm : a.eval m = .map (some b)) (h : MapSet w P kt et b ks) (k : Bytes) (i : Int) (hx : a.eval x = S k) (hv : a.eval v = .int q i) (hw : (Lit.int q i).wf = true) (hkl : k.length ≤ maxLen) (hn : ks.length < maxLen)
    (hK : ∀ w', MapSet w' P kt et b (ks ++ [k]) → w.grownBy w' (some b) → wpList P ops Q rest (a.put o.dst undef) w') :
    wpList P ops Q (o :: rest) a w := by
  obtain ⟨n, D, hnn, hown, hD, hhas⟩ := h
  have hkey : keyOf P kt (S k) = some (.string k) := WideMaps.keyOf_string_mk hk hkl
  refine wpList_mapUpdate_own w hg m x v t hop kt et (Maps.string_keyed hk) ht _ b n D hm hown (by omega) _ _ _ hx hv hkey (.lit (.int q i)) [] (plainElem_int he hw) fun w' ho hgr => hK w' ⟨n + 1, _, by simp; omega, ho, hD.put _ _, fun k' => ?_⟩ hgr
  by_cases e : k' = k
  · subst e
    rw [Maps.has_put_same hD (by trivial)]
    simp
  · rw [Maps.has_put_other (lit_ne e), hhas]
    simp [e]

/-- 'v, ok := m[k]'. -/
theorem wpList_set_look {P : Program} (w : World) {ops : Array Oper} {rest : List Oper} {o : Oper} {a : Act} {Q : Exit → Act → World → Prop}
    (hg : o.guard = none) (m x : Operand) (t : TypeId) (hop : o.op = Op.lookup t m x true) (kt et : TypeId) (q : IntKind)
    (hk : P.underlying kt = some .string) (he : P.underlying et = some (.int q)) (ht : P.underlying t = some (.map kt et)) (hz : (zeroValue et).run P w = .ok (.int q 0) w) (b : Nat) (ks : List Bytes)
    (hm : a.eval m = .map (some b)) (h : MapSet w P kt et b ks) (k : Bytes) (hx : a.eval x = S k) (hkl : k.length ≤ maxLen)
    (hK : ∀ c : Int, wpList P ops Q rest (a.put o.dst (.tuple #[.int q c, .bool (ks.contains k)])) w) :
    wpList P ops Q (o :: rest) a w := by
  obtain ⟨n, D, hnn, hown, hD, hhas⟩ := h
  have hkey : keyOf P kt (S k) = some (.string k) := WideMaps.keyOf_string_mk hk hkl
  refine wpList_lookup_own_ok_int w hg m x t hop kt et q (Maps.string_keyed hk) ht he hz b n D hm hown _ _ hx hkey fun c _ _ => ?_
  rw [hhas]
  exact hK c

theorem MapSet.look {P : Program} {w : World} {kt et : TypeId} {b : Nat} {ks : List Bytes} (h : MapSet w P kt et b ks) {t : TypeId} {q : IntKind} (hk : P.underlying kt = some .string) (he : P.underlying et = some (.int q)) (ht : P.underlying t = some (.map kt et)) (hz : (zeroValue et).run P w = .ok (.int q 0) w)
    (k : Bytes) (hkl : k.length ≤ maxLen) : ∃ c : Int, (Instr.lookup t (.map (some b)) (S k) true).run P w = .ok (.tuple #[.int q c, .bool (ks.contains k)]) w := by
  obtain ⟨n, D, hnn, hown, hD, hhas⟩ := h
  have hkey : keyOf P kt (S k) = some (.string k) := WideMaps.keyOf_string_mk hk hkl
  obtain ⟨v, ps, hrun, hv⟩ := hown.look_ok (Maps.string_keyed hk) ht hz (plainElem_int he (by cases q <;> decide)) hkey
  obtain ⟨c, rfl, _⟩ := plainElem_int_inv he hv
  exact ⟨c, by rw [hrun, hhas]⟩

theorem MapSet.store {P : Program} {w : World} {kt et : TypeId} {b : Nat} {ks : List Bytes} (h : MapSet w P kt et b ks) {t : TypeId} {q : IntKind} (hk : P.underlying kt = some .string) (he : P.underlying et = some (.int q)) (ht : P.underlying t = some (.map kt et))
    (k : Bytes) (i : Int) (hw : (Lit.int q i).wf = true) (hkl : k.length ≤ maxLen) (hn : ks.length < maxLen) :
    ∃ w', (Instr.mapUpdate t (.map (some b)) (S k) (.int q i)).run P w = .ok () w' ∧ MapSet w' P kt et b (ks ++ [k]) ∧ w.grownBy w' (some b) := by
  obtain ⟨n, D, hnn, hown, hD, hhas⟩ := h
  have hkey : keyOf P kt (S k) = some (.string k) := WideMaps.keyOf_string_mk hk hkl
  obtain ⟨w', hrun, ho, hgr⟩ := hown.update (Maps.string_keyed hk) ht (by omega) hkey (plainElem_int he hw)
  refine ⟨w', hrun, ⟨n + 1, _, by simp; omega, ho, hD.put _ _, fun k' => ?_⟩, hgr⟩
  by_cases e : k' = k
  · subst e
    rw [Maps.has_put_same hD (by trivial)]
    simp
  · rw [Maps.has_put_other (lit_ne e), hhas]
    simp [e]

theorem among_map (n : Bytes) (names : List Bytes) : (names.map low).contains (low n) = among n names := by
  induction names with
  | nil => rfl
  | cons a l ih => simp only [List.map_cons, List.contains_cons, ih, among, List.any_cons, same]

theorem Ss.own {base : Nat} {w : World} {e : TypeId} {v : Value} {l : List Bytes} (h : w.ownsRow base e 1 v l.length (l.map S)) : Ss w.heap.size w v l := Rd.own h
theorem Fs.own {base : Nat} {w : World} {e : TypeId} {v : Value} {l : List F} (h : w.ownsRow base e 3 v l.length (fcells l)) : Fs w.heap.size w v l := Rd.own h

/-- 's[:k]', 's[k:]'. -/
theorem Rd.upto {B : Nat} {w : World} {size : Nat} {a : Option Addr} {n cap : Nat} {xs : List Value} (h : Rd B w size (.slice a n cap) n xs) {k : Nat} (hk : k ≤ n) : Rd B w size (.slice a k cap) k (xs.take (k * size)) := by
  obtain ⟨a', cap', h1, h2, h3, h4, h5, h6⟩ := h
  simp only [Value.slice.injEq] at h1
  obtain ⟨rfl, -, rfl⟩ := h1
  have hm := Nat.mul_le_mul_right size hk
  refine ⟨_, _, rfl, by omega, h3, by simp; omega, h5, fun j u hu => ?_⟩
  rw [List.getElem?_take] at hu
  split at hu
  · exact h6 j u hu
  · cases hu
theorem Rd.from {B : Nat} {w : World} {size b off n cap : Nat} {xs : List Value} (h : Rd B w size (.slice (some ⟨b, off, none⟩) n cap) n xs) {k : Nat} (hk : k ≤ n) : Rd B w size (.slice (some ⟨b, off + k * size, none⟩) (n - k) (cap - k)) (n - k) (xs.drop (k * size)) := by
  obtain ⟨a', cap', h1, h2, h3, h4, h5, h6⟩ := h
  simp only [Value.slice.injEq] at h1
  obtain ⟨rfl, -, rfl⟩ := h1
  refine ⟨_, _, rfl, by omega, by omega, by simp [h4, Nat.sub_mul], by simp, fun j u hu => ?_⟩
  rw [List.getElem?_drop] at hu
  obtain ⟨b', off', e1, e2, e3⟩ := h6 _ u hu
  simp only [Option.some.injEq, Addr.mk.injEq, and_true] at e1
  obtain ⟨rfl, rfl⟩ := e1
  exact ⟨_, _, rfl, e2, by rw [Nat.add_assoc]; exact e3⟩
theorem fcells_take (l : List F) (k : Nat) : (fcells l).take (k * 3) = fcells (l.take k) := by
  induction l generalizing k with
  | nil => simp [fcells]
  | cons f l ih =>
    cases k with
    | zero => simp [fcells]
    | succ k =>
      have e : (k + 1) * 3 = (F.cells f).length + k * 3 := by simp [F.cells]; omega
      have e2 : fcells (f :: l) = F.cells f ++ fcells l := rfl
      rw [e2, e, List.take_length_add_append, ih]
      rfl
theorem fcells_drop (l : List F) (k : Nat) : (fcells l).drop (k * 3) = fcells (l.drop k) := by
  induction l generalizing k with
  | nil => simp [fcells]
  | cons f l ih =>
    cases k with
    | zero => simp
    | succ k =>
      have e : (k + 1) * 3 = (F.cells f).length + k * 3 := by simp [F.cells]; omega
      have e2 : fcells (f :: l) = F.cells f ++ fcells l := rfl
      rw [e2, e, List.drop_length_add_append, ih]
      rfl
theorem Fs.upto {B : Nat} {w : World} {a : Option Addr} {n cap : Nat} {l : List F} (h : Fs B w (.slice a n cap) l) {k : Nat} (hk : k ≤ l.length) : Fs B w (.slice a k cap) (l.take k) := by
  obtain ⟨_, _, e, _⟩ := h.form
  simp only [Value.slice.injEq] at e
  obtain ⟨-, rfl, -⟩ := e
  have := Rd.upto h hk
  unfold Fs
  rw [fcells_take] at this
  rw [List.length_take, Nat.min_eq_left hk]
  exact this
theorem Fs.from {B : Nat} {w : World} {b off n cap : Nat} {l : List F} (h : Fs B w (.slice (some ⟨b, off, none⟩) n cap) l) {k : Nat} (hk : k ≤ l.length) : Fs B w (.slice (some ⟨b, off + k * 3, none⟩) (n - k) (cap - k)) (l.drop k) := by
  obtain ⟨_, _, e, _⟩ := h.form
  simp only [Value.slice.injEq] at e
  obtain ⟨-, rfl, -⟩ := e
  have := Rd.from h hk
  unfold Fs
  rw [fcells_drop] at this
  rw [List.length_drop]
  exact this

/-- A block known whole, none of it frozen: a struct behind a pointer, a boxed variable. -/
def Blk (w : World) (b : Nat) (t : TypeId) (xs : Array Value) : Prop := w.heap[b]? = some (.cells xs t (0, 0))
theorem Blk.lt {w : World} {b : Nat} {t : TypeId} {xs : Array Value} (h : Blk w b t xs) : b < w.heap.size := lt_of_block h
theorem Blk.cell {w : World} {b : Nat} {t : TypeId} {xs : Array Value} (h : Blk w b t xs) (k : Nat) : w.cell? ⟨b, k, none⟩ = xs[k]? := by
  simp [World.cell?, show w.heap[b]? = _ from h]
theorem Blk.free {w : World} {b : Nat} {t : TypeId} {xs : Array Value} (h : Blk w b t xs) (k : Nat) : w.frozen? ⟨b, k, none⟩ = false := by
  simp [World.frozen?, show w.heap[b]? = _ from h]
theorem Blk.block {w w' : World} {b : Nat} {t : TypeId} {xs : Array Value} (h : Blk w b t xs) (hb : w'.heap[b]? = w.heap[b]?) : Blk w' b t xs := hb.trans h
theorem Blk.below {B : Nat} {w w' : World} {b : Nat} {t : TypeId} {xs : Array Value} (h : Blk w b t xs) (hb : Below B w w') (hB : b < B) : Blk w' b t xs := (hb.block b hB).trans h
theorem Blk.on {w w' : World} {b : Nat} {t : TypeId} {xs : Array Value} (h : Blk w b t xs) (hb : Below w.heap.size w w') : Blk w' b t xs := h.below hb h.lt
theorem Blk.set {w : World} {b : Nat} {t : TypeId} {xs : Array Value} (h : Blk w b t xs) (k : Nat) (v : Value) : Blk (w.setCell ⟨b, k, none⟩ v) b t (xs.setIfInBounds k v) := by
  unfold Blk at *
  simp only [World.setCell, Array.getElem?_modify, if_true, h]
  simp
theorem Blk.other {w : World} {b : Nat} {t : TypeId} {xs : Array Value} (h : Blk w b t xs) {p : Addr} (hp : b ≠ p.block) (u : Value) : Blk (w.setCell p u) b t xs := (Below.heap_setCell w p u b hp).trans h
theorem Blk.alloc {w : World} {b : Nat} {t : TypeId} {xs : Array Value} (h : Blk w b t xs) (o : Obj) : Blk (w.alloc o) b t xs := (Below.heap_alloc w o b h.lt).trans h
theorem Blk.drew {w : World} {b : Nat} {t : TypeId} {xs : Array Value} (h : Blk w b t xs) : Blk w.drew b t xs := h
theorem Blk.new (w : World) (t : TypeId) (xs : Array Value) : Blk (w.alloc (.cells xs t)) w.heap.size t xs := heap_alloc_new w _

end Go.Dr
