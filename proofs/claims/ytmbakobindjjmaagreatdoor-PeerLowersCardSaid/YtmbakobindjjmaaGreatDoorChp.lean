
/- A range over a function whose iterator turns cells of its own: the statement's law in plain words; items that came, as a plain function. -/
import Derived.Test.YtmbakobindjjmaaGreatDoorFrm6
import Derived.RangeFuncNested
import Derived.RangeFuncBound
import Derived.RangeFuncCalls
import Derived.RangeFuncLeaves
import Derived.OwnWalkIn
import Derived.TacticsInMore
import Derived.LoopNIn
import Derived.LoopIn
namespace Go.Dr
open Go Go.RowKit

/-- 'for .. := range g { .. }' at an outermost loop, its body never left by a jump: what the iterator's call must show. -/
theorem wp_range {P : Program} {g : Operand} {ps : Array Tmp} {assign body : Code} {Q : Exit → Act → World → Prop} {a : Act} {w : World} {gf : Nat} {lb : Array Value}
    (hg : a.eval g = .func (.func gf) #[] lb) (eg : ∀ args w, (callFunc gf args).run P w = .ok (.enter gf args) w)
    (h : ∀ (fn : FuncId) (rec : LoopState → Option Code → Loop) (W1 : World), rec = (fun st pe => { state := st, pending := pe, fn, tmps := a.tmps, params := ps, assign, body, defers := w.heap.size }) →
      W1 = (w.alloc (.deferred (some []))).alloc (.loop (rec .ready none)) → W1.heap[w.heap.size + 1]? = some (.loop (rec .ready none)) → W1.heap[w.heap.size]? = some (.deferred (some [])) →
      Calls P gf (#[.func (.yield (w.heap.size + 1)) #[] #[]] ++ lb) W1 fun e W2 => (∃ v, e = .returned v) ∧ W2.heap[w.heap.size + 1]? = some (.loop (rec .ready none)) ∧
        Q .normal { a with defers := { target := .collected w.heap.size, args := #[] } :: a.defers } (W2.putObj (w.heap.size + 1) (.loop (rec .exhausted none)))) :
    (Code.rangeFunc g ps assign body).wp P Q a w := by
  refine (wpIn_wide (n := 3)).1 (wpIn_rangeFunc ?_)
  intro fn hfn
  obtain ⟨rec, hrec⟩ : ∃ rec : LoopState → Option Code → Loop, rec = fun st pe => { state := st, pending := pe, fn, tmps := a.tmps, params := ps, assign, body, defers := w.heap.size } := ⟨_, rfl⟩
  obtain ⟨W1, hW1⟩ : ∃ W1, W1 = (w.alloc (.deferred (some []))).alloc (.loop (rec .ready none)) := ⟨_, rfl⟩
  have hL1 : W1.heap[w.heap.size + 1]? = some (.loop (rec .ready none)) := by
    rw [hW1]; have := World.alloc_heap_new (w.alloc (.deferred (some []))) (.loop (rec .ready none)); rwa [World.size_alloc] at this
  have hK1 : W1.heap[w.heap.size]? = some (.deferred (some [])) := by
    rw [hW1]; exact (Below.heap_alloc _ _ _ (by simp)).trans (World.alloc_heap_new w _)
  refine ⟨w.heap.size + 1, [{ target := .collected w.heap.size, args := #[] }], W1, { target := .fn (.func gf) lb, args := #[.func (.yield (w.heap.size + 1)) #[] #[]] }, W1, gf,
    #[.func (.yield (w.heap.size + 1)) #[] #[]] ++ lb, W1, ?_, ?_, ?_, ?_, fun _ => by decide, ?_⟩
  · rw [hW1, hrec]; exact run_enterLoop_outer _ _ _ _ _
  · simp only [resolve, hg]
    simp [go_sem]
  · intro f' hf'; trivial
  · simp [invoke, go_sem, eg]
  · refine callsIn_wide.2 ((h fn rec W1 hrec hW1 hL1 hK1).mono ?_)
    rintro e W2 ⟨⟨v, rfl⟩, hl, hq⟩
    refine ⟨none, _, ?_, hq⟩
    have := run_endLoop (P := P) hl (by rw [hrec]; simp)
    rw [hrec] at this
    rw [hrec]
    exact this

/-- One round of such a loop: its body, walked, goes on; the record is ready again. -/
theorem yield_round {P : Program} {l D : Nat} {fn : FuncId} {tmps : Array Value} {ps : Array Tmp} {assign body : Code} {rec : LoopState → Option Code → Loop} {args : Array Value} {W : World} {R : World → Prop}
    (hrec : rec = fun st pe => { state := st, pending := pe, fn, tmps := tmps, params := ps, assign, body, defers := D })
    (hl : W.heap[l]? = some (.loop (rec .ready none))) (hs : args.size = ps.size)
    (hb : assign.wpIn (Fence.wide.inRound l) 1 P (Exit.then (fun a₁ w₁ => w₁.heap[l]? = some (.loop (rec .ready none)) ∧ body.wpIn (Fence.wide.inRound l) 1 P (fun ex _ w₃ => ex = .normal ∧ w₃.heap[l]? = some (.loop (rec .busy none)) ∧ R (w₃.putObj l (.loop (rec .ready none)))) a₁ (w₁.putObj l (.loop (rec .busy none)))) (fun _ _ _ => False))
      { tmps := (ps.zip args).foldl (fun t (p, v) => t.setIfInBounds p v) tmps, defers := [] } W) :
    YieldAt Fence.wide 1 P l args W fun e W' => e = .returned (.bool true) ∧ R W' := by
  have hy := run_yield (P := P) (args := args) hl (by rw [hrec]; exact hs)
  rw [hrec] at hy
  refine ⟨fn, _, assign, body, hy, roundIn_of_wpIn trivial (wpIn_mono hb ?_)⟩
  rintro e a₁ w₁ hp
  cases e with
  | normal =>
    obtain ⟨h1, h2⟩ := hp
    refine ⟨_, run_beginRound h1 (by rw [hrec]), ?_⟩
    rw [hrec] at h2 ⊢
    refine wpIn_mono h2 ?_
    rintro e a3 w3 ⟨rfl, h4, h5⟩
    exact ⟨_, _, run_endRound none h4, rfl, h5⟩
  | _ => exact hp.elim
end Go.Dr
