
/- More small laws: appends at a step of a region that draws its order. No program in sight. -/
import Derived.Test.YtpbmmkonlboegaaDoorBase2
namespace Go.Dr
open Go.RowKit

/-- 'append(s, x...)': s the call's own, x a slice that is read (nil or not): at the operation. -/
theorem wp_appRd {P : Program} {o : Oper} {a : Act} {K : Act → World → Prop} {Q : Exit → Act → World → Prop} {w : World} (s x : Operand) (t : TypeId)
    (ho : o.op = .call { callee := .builtin .append, args := #[s, x], argTypes := #[t, t] })
    (base : Nat) (e : TypeId) (z : Value) (size bytes : Nat) (ht : P.underlying t = some (.slice e)) (hi : (P.info? e).map (fun i => (i.zero, i.size, i.bytes)) = some (some z, size, bytes))
    (hzs : z.cells.size = size) (hsz : 0 < size)
    (v : Value) (n : Nat) (xs : List Value) (hs : a.eval s = v) (hown : w.ownsRow base e size v n xs)
    (B : Nat) (vs : Value) (m : Nat) (news : List Value) (hx : a.eval x = vs) (hsrc : Rd B w size vs m news) (h1 : ∀ u ∈ news, u.oneCell' = true)
    (hm : n + m ≤ maxLen) (hbytes : (n + m) * bytes ≤ 140737488355328) (hbase : base ≤ w.heap.size)
    (h : ∀ a' c' w', w'.ownsRow base e size (.slice a' (n + m) c') (n + m) (xs ++ news) → Below base w w' → K (a.put o.dst (.slice a' (n + m) c')) w') : Oper.wp P o a w K Q := by
  obtain ⟨ad, cap, rfl, h2, h3, h4, h5, h6⟩ := hsrc
  obtain ⟨i, hi, hz, hsize, hby⟩ := info_parts hi
  cases ad with
  | none =>
    obtain rfl := h5 rfl
    obtain rfl : m = 0 := by omega
    have hn : news = [] := List.eq_nil_of_length_eq_zero (by simpa using h4)
    subst hn
    have hrun := run_append_owned_none (P := P) (w := w) base t o.type e i size ht hi v n xs hown
    unfold Oper.wp
    simp [execOp, ho, resolve, invoke, builtin, hs, hx, hrun, Result.andThen]
    obtain ⟨a', c', rfl⟩ : ∃ a' c', v = .slice a' n c' := by
      rcases hown.2 with ⟨rfl, rfl⟩ | ⟨g, cap, cur, rfl, _⟩
      · exact ⟨_, _, rfl⟩
      · exact ⟨_, _, rfl⟩
    have := h a' c' w (by simpa using hown) (Below.refl _ _)
    exact this
  | some ad =>
    refine wp_append_own w s x t ho base e i z size bytes ht hi hz hsize hby hzs hsz v n xs hs hown ad m cap news hx h4 ?_ h1 hm hbytes hbase fun v' w' ho' hg _ => ?_
    · intro j u hu
      obtain ⟨b, off, e1, _, e3⟩ := h6 j u hu
      obtain rfl := Option.some.inj e1
      rw [Addr.add_lit]
      exact e3
    · obtain ⟨a', c', rfl⟩ : ∃ a' c', v' = .slice a' (n + m) c' := by
        rcases ho'.2 with ⟨rfl, h0⟩ | ⟨g, cap, cur, rfl, _⟩
        · rw [h0]; exact ⟨_, _, rfl⟩
        · exact ⟨_, _, rfl⟩
      exact h a' c' w' ho' (Bl.grown (Below.refl base w) hown hg hbase (Nat.le_refl _))

/-- 'append(s, x...)': s the call's own, x a slice that is read (nil or not): at the operation, with all that stays. -/
theorem wp_appG {P : Program} {o : Oper} {a : Act} {K : Act → World → Prop} {Q : Exit → Act → World → Prop} {w : World} (s x : Operand) (t : TypeId)
    (ho : o.op = .call { callee := .builtin .append, args := #[s, x], argTypes := #[t, t] })
    (base : Nat) (e : TypeId) (z : Value) (size bytes : Nat) (ht : P.underlying t = some (.slice e)) (hi : (P.info? e).map (fun i => (i.zero, i.size, i.bytes)) = some (some z, size, bytes))
    (hzs : z.cells.size = size) (hsz : 0 < size)
    (v : Value) (n : Nat) (xs : List Value) (hs : a.eval s = v) (hown : w.ownsRow base e size v n xs)
    (B : Nat) (vs : Value) (m : Nat) (news : List Value) (hx : a.eval x = vs) (hsrc : Rd B w size vs m news) (h1 : ∀ u ∈ news, u.oneCell' = true)
    (hm : n + m ≤ maxLen) (hbytes : (n + m) * bytes ≤ 140737488355328) (hbase : base ≤ w.heap.size)
    (h : ∀ a' c' w', w'.ownsRow base e size (.slice a' (n + m) c') (n + m) (xs ++ news) → Below base w w' → w.grownBy w' v.ownBlock → K (a.put o.dst (.slice a' (n + m) c')) w') : Oper.wp P o a w K Q := by
  obtain ⟨ad, cap, rfl, h2, h3, h4, h5, h6⟩ := hsrc
  obtain ⟨i, hi, hz, hsize, hby⟩ := info_parts hi
  cases ad with
  | none =>
    obtain rfl := h5 rfl
    obtain rfl : m = 0 := by omega
    have hn : news = [] := List.eq_nil_of_length_eq_zero (by simpa using h4)
    subst hn
    have hrun := run_append_owned_none (P := P) (w := w) base t o.type e i size ht hi v n xs hown
    unfold Oper.wp
    simp [execOp, ho, resolve, invoke, builtin, hs, hx, hrun, Result.andThen]
    obtain ⟨a', c', rfl⟩ : ∃ a' c', v = .slice a' n c' := by
      rcases hown.2 with ⟨rfl, rfl⟩ | ⟨g, cap, cur, rfl, _⟩
      · exact ⟨_, _, rfl⟩
      · exact ⟨_, _, rfl⟩
    have := h a' c' w (by simpa using hown) (Below.refl _ _) (World.grownBy.refl _ _)
    exact this
  | some ad =>
    refine wp_append_own w s x t ho base e i z size bytes ht hi hz hsize hby hzs hsz v n xs hs hown ad m cap news hx h4 ?_ h1 hm hbytes hbase fun v' w' ho' hg _ => ?_
    · intro j u hu
      obtain ⟨b, off, e1, _, e3⟩ := h6 j u hu
      obtain rfl := Option.some.inj e1
      rw [Addr.add_lit]
      exact e3
    · obtain ⟨a', c', rfl⟩ : ∃ a' c', v' = .slice a' (n + m) c' := by
        rcases ho'.2 with ⟨rfl, h0⟩ | ⟨g, cap, cur, rfl, _⟩
        · rw [h0]; exact ⟨_, _, rfl⟩
        · exact ⟨_, _, rfl⟩
      exact h a' c' w' ho' (Bl.grown (Below.refl base w) hown hg hbase (Nat.le_refl _)) hg

/-- .. onto nothing. -/
theorem wp_appG0 {P : Program} {o : Oper} {a : Act} {K : Act → World → Prop} {Q : Exit → Act → World → Prop} {w : World} (s x : Operand) (t : TypeId)
    (ho : o.op = .call { callee := .builtin .append, args := #[s, x], argTypes := #[t, t] })
    (base : Nat) (e : TypeId) (z : Value) (size bytes : Nat) (ht : P.underlying t = some (.slice e)) (hi : (P.info? e).map (fun i => (i.zero, i.size, i.bytes)) = some (some z, size, bytes))
    (hzs : z.cells.size = size) (hsz : 0 < size)
    (v : Value) (hs : a.eval s = v) (hown : w.ownsRow base e size v 0 [])
    (B : Nat) (vs : Value) (m : Nat) (news : List Value) (hx : a.eval x = vs) (hsrc : Rd B w size vs m news) (h1 : ∀ u ∈ news, u.oneCell' = true)
    (hm : m ≤ maxLen) (hbytes : m * bytes ≤ 140737488355328) (hbase : base ≤ w.heap.size)
    (h : ∀ a' c' w', w'.ownsRow base e size (.slice a' m c') m news → Below base w w' → w.grownBy w' v.ownBlock → K (a.put o.dst (.slice a' m c')) w') : Oper.wp P o a w K Q := by
  refine wp_appG s x t ho base e z size bytes ht hi hzs hsz v 0 [] hs hown B vs m news hx hsrc h1 (by rwa [Nat.zero_add]) (by rwa [Nat.zero_add]) hbase fun a' c' w' h2 h3 h4 => ?_
  rw [Nat.zero_add] at h2 ⊢
  exact h a' c' w' h2 h3 h4
/-- A step of a region that draws its order. -/
theorem step_of {P : Program} {ops : Array Oper} {o : Oper} {a : Act} {K : Act → World → Prop} {Q : Exit → Act → World → Prop} {E : Prop} {w : World} (h : Oper.wp P o a w K Q) (hgd : o.guard = none) :
    if Region.wanted o (yielded ops a.tmps) = true then Oper.wp P o a w K Q else E := by
  have hw : Region.wanted o (yielded ops a.tmps) = true := by simp [Region.wanted, hgd]
  rw [if_pos hw]
  exact h

/-- .. at a step of a region that draws its order. -/
theorem step_appRd {P : Program} {ops : Array Oper} {o : Oper} {a : Act} {K : Act → World → Prop} {Q : Exit → Act → World → Prop} {E : Prop} {w : World} (hgd : o.guard = none) (s x : Operand) (t : TypeId)
    (ho : o.op = .call { callee := .builtin .append, args := #[s, x], argTypes := #[t, t] })
    (base : Nat) (e : TypeId) (z : Value) (size bytes : Nat) (ht : P.underlying t = some (.slice e)) (hi : (P.info? e).map (fun i => (i.zero, i.size, i.bytes)) = some (some z, size, bytes))
    (hzs : z.cells.size = size) (hsz : 0 < size)
    (v : Value) (n : Nat) (xs : List Value) (hs : a.eval s = v) (hown : w.ownsRow base e size v n xs)
    (B : Nat) (vs : Value) (m : Nat) (news : List Value) (hx : a.eval x = vs) (hsrc : Rd B w size vs m news) (h1 : ∀ u ∈ news, u.oneCell' = true)
    (hm : n + m ≤ maxLen) (hbytes : (n + m) * bytes ≤ 140737488355328) (hbase : base ≤ w.heap.size)
    (h : ∀ a' c' w', w'.ownsRow base e size (.slice a' (n + m) c') (n + m) (xs ++ news) → Below base w w' → K (a.put o.dst (.slice a' (n + m) c')) w') :
    if Region.wanted o (yielded ops a.tmps) = true then Oper.wp P o a w K Q else E := by
  have hw : Region.wanted o (yielded ops a.tmps) = true := by simp [Region.wanted, hgd]
  rw [if_pos hw]
  exact wp_appRd s x t ho base e z size bytes ht hi hzs hsz v n xs hs hown B vs m news hx hsrc h1 hm hbytes hbase h

/-- 's[k:]', whatever its capacity. -/
theorem Rd.sliced {B : Nat} {w : World} {size : Nat} {a : Option Addr} {n cap : Nat} {xs : List Value} (h : Rd B w size (.slice a n cap) n xs) {k : Nat} (hk : k ≤ n) : Rd B w size (sliced a k n cap size) (n - k) (xs.drop (k * size)) := by
  obtain ⟨a', cap', h1, h2, h3, h4, h5, h6⟩ := h
  simp only [Value.slice.injEq] at h1
  obtain ⟨rfl, -, rfl⟩ := h1
  unfold Go.sliced
  by_cases hc : cap = k
  · rw [if_pos hc]
    have : xs.drop (k * size) = [] := List.drop_eq_nil_of_le (by rw [h4]; exact Nat.mul_le_mul_right size (by omega))
    rw [this]
    exact ⟨_, _, rfl, by omega, by omega, by rw [show n - k = 0 by omega]; simp, by intro _; omega, by simp⟩
  · rw [if_neg hc]
    refine ⟨_, _, rfl, by omega, by omega, by simp [h4, Nat.sub_mul], fun hn => ?_, fun j u hu => ?_⟩
    · have : a = none := by cases a <;> simp_all
      have := h5 this
      omega
    · rw [List.getElem?_drop] at hu
      obtain ⟨b', off', rfl, e2, e3⟩ := h6 _ u hu
      exact ⟨b', off' + k * size, by simp [Addr.add_lit], e2, by rw [Nat.add_assoc]; exact e3⟩
/-- A slice at a known block, read, stays so where that block does. -/
theorem Rd.block {B B' : Nat} {w w' : World} {size b off n cap : Nat} {xs : List Value} (h : Rd B w size (.slice (some ⟨b, off, none⟩) n cap) n xs) (hb : w'.heap[b]? = w.heap[b]?) (hB : b < B') : Rd B' w' size (.slice (some ⟨b, off, none⟩) n cap) n xs := by
  obtain ⟨a', cap', h1, h2, h3, h4, h5, h6⟩ := h
  simp only [Value.slice.injEq] at h1
  obtain ⟨rfl, -, rfl⟩ := h1
  refine ⟨_, _, rfl, h2, h3, h4, by simp, fun j u hu => ?_⟩
  obtain ⟨b', off', e1, e2, e3⟩ := h6 _ u hu
  simp only [Option.some.injEq, Addr.mk.injEq, and_true] at e1
  obtain ⟨rfl, rfl⟩ := e1
  exact ⟨_, _, rfl, hB, by rw [World.cell?_of_block hb]; exact e3⟩
/-- A literal's own block, read. -/
theorem Rd.lit (w : World) (t : TypeId) (cs : Array Value) (size m : Nat) (hl : cs.size = m * size) (hm : m ≤ maxLen) : Rd (w.heap.size + 1) (w.alloc (.cells cs t)) size (.slice (some ⟨w.heap.size, 0, none⟩) m m) m cs.toList := by
  refine ⟨_, _, rfl, Nat.le_refl _, hm, by simpa using hl, by simp, fun j u hu => ⟨_, _, rfl, by omega, ?_⟩⟩
  rw [Nat.zero_add, cell_of_row _ w.heap.size j cs t (0, 0) (heap_alloc_new w _)]
  simpa using hu
theorem Rd.lit_at (w : World) (g : Nat) (hg : w.heap.size = g) (t : TypeId) (cs : Array Value) (size m : Nat) (hl : cs.size = m * size) (hm : m ≤ maxLen) : Rd (g + 1) (w.alloc (.cells cs t)) size (.slice (some ⟨g, 0, none⟩) m m) m cs.toList := by
  subst hg; exact Rd.lit w t cs size m hl hm
/-- An empty literal, owned. -/
theorem own_lit (w : World) (g : Nat) (hg : w.heap.size = g) (base : Nat) (hb : base ≤ g) (e : TypeId) (size : Nat) : (w.alloc (.cells #[] e)).ownsRow base e size (.slice (some ⟨g, 0, none⟩) 0 0) 0 [] := by
  subst hg; exact World.ownsRow_lit (base := base) (e := e) (size := size) w #[] 0 hb (by simp) (by simp)
end Go.Dr
