
/- More small laws, fifth part: worlds behind a draw. No program in sight. -/
import Derived.Test.YtpbmmkonlboegaaDoorBase3
namespace Go.Dr
open Go.RowKit
theorem Bl.undrew {w w' : World} (h : Below w.drew.heap.size w.drew w') : Below w.heap.size w w' := ⟨h.os, h.tape, h.output, h.size, h.block⟩
theorem Bl.undrew1 {w w' : World} (h : Below w.heap.size w.drew w') : Below w.heap.size w w' := ⟨h.os, h.tape, h.output, h.size, h.block⟩
theorem Rd.drew {B : Nat} {w : World} {size : Nat} {v : Value} {n : Nat} {xs : List Value} (h : Rd B w size v n xs) : Rd B w.drew size v n xs := h
theorem Ss.drew {w : World} {v : Value} {l : List Bytes} (h : Ss w.heap.size w v l) : Ss w.drew.heap.size w.drew v l := h
theorem Fs.drew {w : World} {v : Value} {l : List F} (h : Fs w.heap.size w v l) : Fs w.drew.heap.size w.drew v l := h
/-- 'append(s, f)' of one field, behind the literal's block, with all that stays. -/
theorem wpList_appFG {P : Program} {ops : Array Oper} {rest : List Oper} {o : Oper} {a : Act} {Q : Exit → Act → World → Prop} {w : World} {u0 u1 u2 : Value} {e : TypeId} (hgd : o.guard = none) (s x : Operand) (t : TypeId)
    (ho : o.op = .call { callee := .builtin .append, args := #[s, x], argTypes := #[t, t] })
    (base : Nat) (ht : P.underlying t = some (.slice e)) (hi : (P.info? e).map (fun i => (i.zero, i.size, i.bytes)) = some (some (.agg #[.string ByteArray.empty, .string ByteArray.empty, .bool false]), 3, 40))
    (v : Value) (n : Nat) (xs : List Value) (hs : a.eval s = v) (hown : w.ownsRow base e 3 v n xs)
    (hx : a.eval x = .slice (some ⟨w.heap.size, 0, none⟩) 1 1)
    (hbytes : (n + 1) * 40 ≤ 140737488355328) (hbase : base ≤ w.heap.size)
    (h1 : (u0.oneCell' && u1.oneCell' && u2.oneCell') = true)
    (h : ∀ a' c' w', w'.ownsRow base e 3 (.slice a' (n + 1) c') (n + 1) (xs ++ [u0, u1, u2]) → Below base w w' → w.heap.size ≤ w'.heap.size → (w.alloc (.cells #[u0, u1, u2] e)).grownBy w' v.ownBlock → wpList P ops Q rest (a.put o.dst (.slice a' (n + 1) c')) w') : wpList P ops Q (o :: rest) a (w.alloc (.cells #[u0, u1, u2] e)) := by
  simp only [Bool.and_eq_true] at h1
  refine wpList_app hgd s x t ho base e _ 3 40 ht hi rfl (by decide) v n xs hs (hown.alloc _) ⟨w.heap.size, 0, none⟩ 1 1 [u0, u1, u2] hx rfl ?_ (by simp [h1])
    (by unfold maxLen; omega) hbytes (by simp; omega) fun v' w' ho' hg _ => ?_
  · intro j y hy
    rw [Addr.add_lit, Nat.zero_add, World.cell?_alloc_mark]
    simpa using hy
  obtain ⟨a', c', rfl⟩ : ∃ a' c', v' = .slice a' (n + 1) c' := by
    rcases ho'.2 with ⟨_, h0⟩ | ⟨g, cap, cur, rfl, _⟩
    · omega
    · exact ⟨_, _, rfl⟩
  refine h a' c' w' ho' ?_ ?_ hg
  · exact Bl.grown ((Below.refl base w).alloc hbase _) (hown.alloc _) hg (by simp; omega) (Nat.le_refl _)
  · have := hg.size
    simp at this
    omega
theorem Fs.drewN {w : World} {v : Value} {l : List F} (h : Fs w.heap.size w v l) (n : Nat) : Fs (w.drewN n).heap.size (w.drewN n) v l := h
theorem Ss.drewN {w : World} {v : Value} {l : List Bytes} (h : Ss w.heap.size w v l) (n : Nat) : Ss (w.drewN n).heap.size (w.drewN n) v l := h
theorem Blk.drewN {w : World} {b : Nat} {t : TypeId} {xs : Array Value} (h : Blk w b t xs) (n : Nat) : Blk (w.drewN n) b t xs := h
theorem Bl.drewN {B : Nat} {a w : World} (h : Below B a w) (n : Nat) : Below B a (w.drewN n) := ⟨h.os, h.tape, h.output, h.size, h.block⟩
theorem Blk.grow {w w' : World} {b : Nat} {t : TypeId} {xs : Array Value} (h : Blk w b t xs) {row : Option Nat} (hg : w.grownBy w' row) (hne : some b ≠ row) : Blk w' b t xs := h.block (hg.block b h.lt hne)
theorem own_ne {base : Nat} {w : World} {e : TypeId} {size : Nat} {v : Value} {n : Nat} {xs : List Value} (h : w.ownsRow base e size v n xs) {b : Nat} (hb : w.heap.size ≤ b) : some b ≠ v.ownBlock := fun e1 => by
  have := (h.lt b e1.symm).2
  omega
end Go.Dr
