/- Parts of the proof of pt_root: the texts Frm6 Chp. -/
import Derived.LoopIn
import Derived.LoopNIn
import Derived.OwnWalkIn
import Derived.RangeFuncBound
import Derived.RangeFuncCalls
import Derived.RangeFuncLeaves
import Derived.RangeFuncNested
import Derived.TacticsInMore
import Derived.Test.YtkeeofhjdffhbaaGreatDoorT7
set_option linter.unusedSimpArgs false
set_option linter.unusedVariables false
set_option linter.unnecessarySimpa false
namespace Go.Proofs.YtkeeofhjdffhbaaGreatDoor
open Go.RowKit Go.Dr
def openF (ty fl st : Nat) (p : Bytes) : Option Fr :=
 if ty = 0 ∨ ty = 1 then dhF ty fl st p
 else if ty = 2 then some { ty := 2, fl := fl, st := st, dep := numF p 0 % 2147483648, wt := ((p.drop 4).headD 0).toNat, sole := decide (2147483647 < numF p 0) }
 else if ty = 3 then some { ty := 3, fl := fl, st := st, code := numF p 0 }
 else if ty = 4 then some { ty := 4, fl := fl, st := st, sets := setsK p (p.length / 6) }
 else if ty = 7 then some { ty := 7, fl := fl, st := st, last := numF p 0 % 2147483648, code := numF p 4, data := p.drop 8 }
 else if ty = 8 then some { ty := 8, fl := fl, st := st, inc := numF p 0 % 2147483648 }
 else some { ty := ty, fl := fl, st := st, data := p }
theorem Open_any {B b : Nat} (ty fl st : Nat) (p : Bytes) (v : Value) (w : World) (h : By B w v p) (hb : Blk w b 34 (zc ty fl st)) (hfl : fl < 256) (hpl : p.length ≤ 16777215) (hz : sizeF ty fl p.length = false) (hBb : B ≤ b) :
  Calls Tryz.prog 163 #[Ptr b, v] w (Opened w b (openF ty fl st p)) := by
 have c : ty = 0 ∨ ty = 1 ∨ ty = 2 ∨ ty = 3 ∨ ty = 4 ∨ ty = 7 ∨ ty = 8 ∨ (ty = 5 ∨ ty = 6 ∨ 9 ≤ ty) := by omega
 rcases c with rfl | rfl | rfl | rfl | rfl | rfl | rfl | hx
 ·have e : openF 0 fl st p = dhF 0 fl st p := rfl
  rw [e]
  by_cases h8 : (fl &&& 8 != 0) = true
  ·have h1 : 1 ≤ p.length := List.length_pos_iff.2 (by simp only [sizeF, aheadF, h8] at hz;simpa using hz)
   exact open_dh010 fl st p v w h hb hfl h8 h1 hBb
  ·exact open_dh000 fl st p v w h hb hfl (by simpa using h8) (Nat.zero_le _) hBb
 ·have e : openF 1 fl st p = dhF 1 fl st p := rfl
  rw [e]
  by_cases h8 : (fl &&& 8 != 0) = true
  ·by_cases h32 : (fl &&& 32 != 0) = true
   ·have h1 : 6 ≤ p.length := by simp only [sizeF, aheadF, h8, h32] at hz;simp at hz;omega
    exact open_dh111 fl st p v w h hb hfl h8 h32 h1 hBb
   ·have h1 : 1 ≤ p.length := by simp only [sizeF, aheadF, h8] at hz;simp at hz;omega
    exact open_dh110 fl st p v w h hb hfl h8 (by simpa using h32) h1 hBb
  ·by_cases h32 : (fl &&& 32 != 0) = true
   ·have h1 : 5 ≤ p.length := by simp only [sizeF, aheadF, h32] at hz;simp at hz;omega
    exact open_dh101 fl st p v w h hb hfl (by simpa using h8) h32 h1 hBb
   ·exact open_dh100 fl st p v w h hb hfl (by simpa using h8) (by simpa using h32) (Nat.zero_le _) hBb
 ·have h1 : 5 ≤ p.length := by simp [sizeF] at hz;omega
  have e : openF 2 fl st p = some { ty := 2, fl := fl, st := st, dep := numF p 0 % 2147483648, wt := (p[4]'h1).toNat, sole := decide (2147483647 < numF p 0) } := by rw [← headD_at p 4 h1];rfl
  rw [e]
  exact open_prio fl st p v w h hb h1
 ·exact open_rst fl st p v w h hb (by simp [sizeF] at hz;omega)
 ·exact open_set fl st (p.length / 6) p v w h hb (by simp [sizeF] at hz;omega) hpl hBb
 ·exact open_away fl st p v w h hb (by simp [sizeF] at hz;omega) hBb
 ·exact open_wu fl st p v w h hb (by simp [sizeF] at hz;omega)
 ·have e : openF ty fl st p = some { ty := ty, fl := fl, st := st, data := p } := by
   unfold openF
   rw [if_neg (by omega), if_neg (by omega), if_neg (by omega), if_neg (by omega), if_neg (by omega), if_neg (by omega)]
  rw [e]
  exact open_else ty fl st p v w h hb hx
def takeF (l : Bytes) (most : Nat) : Fr × Nat × Ft :=
 if l.length < 9 then ({}, 0, {})
 else if most < beN (l.take 3) then ({}, 0, { is := true, code := 6 })
 else if l.length < 9 + beN (l.take 3) then ({}, 0, {})
 else if misF ((l.drop 3).headD 0).toNat (numF l 5 % 2147483648) then ({}, 0, { is := true, code := 1 })
 else if sizeF ((l.drop 3).headD 0).toNat ((l.drop 4).headD 0).toNat (beN (l.take 3)) then
  (if ((l.drop 3).headD 0).toNat = 2 then ({}, 9 + beN (l.take 3), { is := true, code := 6, st := numF l 5 % 2147483648 }) else ({}, 0, { is := true, code := 6 }))
 else match openF ((l.drop 3).headD 0).toNat ((l.drop 4).headD 0).toNat (numF l 5 % 2147483648) ((l.take (9 + beN (l.take 3))).drop 9) with
  | none => ({}, 0, { is := true, code := 1 })
  | some f =>
   if ((l.drop 3).headD 0).toNat = 8 ∧ f.inc = 0 then (if numF l 5 % 2147483648 = 0 then ({}, 0, { is := true, code := 1 }) else ({}, 9 + beN (l.take 3), { is := true, code := 1, st := numF l 5 % 2147483648 }))
   else match unfF f.sets with
    | some c => ({}, 0, { is := true, code := c })
    | none => (f, 9 + beN (l.take 3), {})
def Ft.val (x : Ft) : Value := .agg #[.bool x.is, .int .i64 (x.code : Nat), .int .i64 (x.st : Nat)]
def RetTake (w : World) (r : Fr × Nat × Ft) (e : Ending) (w' : World) : Prop :=
 ∃ vs, e = .returned (.tuple #[.agg (r.1.cells vs), .int .i64 (r.2.1 : Nat), r.2.2.val]) ∧ w'.ownsRow w.heap.size 31 2 vs r.1.sets.length (scells r.1.sets) ∧ Below w.heap.size w w'
end Go.Proofs.YtkeeofhjdffhbaaGreatDoor
namespace Go.Dr
open Go Go.RowKit
/-- 'for .. := range g { .. }' at an outermost loop, its body never left by a jump: what the iterator's call must show. -/
theorem wp_range {P : Program} {g : Operand} {ps : Array Tmp} {assign body : Code} {Q : Exit → Act → World → Prop} {a : Act} {w : World} {gf : Nat} {lb : Array Value}
  (hg : a.eval g = .func (.func gf) #[] lb) (eg : ∀ args w, (callFunc gf args).run P w = .ok (.enter gf args) w)
  (h : ∀ (fn : FuncId) (rec : LoopState → Option Code → Loop) (W1 : World), rec = (fun st pe => { state := st, pending := pe, fn, tmps := a.tmps, params := ps, assign, body, defers := w.heap.size }) →
   W1 = (w.alloc (.deferred (some []))).alloc (.loop (rec .ready none)) → W1.heap[w.heap.size + 1]? = some (.loop (rec .ready none)) → W1.heap[w.heap.size]? = some (.deferred (some [])) →
   Calls P gf (#[.func (.yield (w.heap.size + 1)) #[] #[]] ++ lb) W1 fun e W2 => (∃ v, e = .returned v) ∧ W2.heap[w.heap.size + 1]? = some (.loop (rec .ready none)) ∧
    Q .normal { a with defers := { target := .collected w.heap.size, args := #[] } :: a.defers } (W2.putObj (w.heap.size + 1) (.loop (rec .exhausted none)))) :
  (Code.rangeFunc g ps assign body).wp P Q a w := by
 refine (wpIn_wide (n := 3)).1 (wpIn_rangeFunc ?_)
 intro fn hfn
 obtain ⟨rec, hrec⟩ : ∃ rec : LoopState → Option Code → Loop, rec = fun st pe => { state := st, pending := pe, fn, tmps := a.tmps, params := ps, assign, body, defers := w.heap.size } := ⟨_, rfl⟩
 obtain ⟨W1, hW1⟩ : ∃ W1, W1 = (w.alloc (.deferred (some []))).alloc (.loop (rec .ready none)) := ⟨_, rfl⟩
 have hL1 : W1.heap[w.heap.size + 1]? = some (.loop (rec .ready none)) := by
  rw [hW1];have := World.alloc_heap_new (w.alloc (.deferred (some []))) (.loop (rec .ready none));rwa [World.size_alloc] at this
 have hK1 : W1.heap[w.heap.size]? = some (.deferred (some [])) := by
  rw [hW1];exact (Below.heap_alloc _ _ _ (by simp)).trans (World.alloc_heap_new w _)
 refine ⟨w.heap.size + 1, [{ target := .collected w.heap.size, args := #[] }], W1, { target := .fn (.func gf) lb, args := #[.func (.yield (w.heap.size + 1)) #[] #[]] }, W1, gf,
  #[.func (.yield (w.heap.size + 1)) #[] #[]] ++ lb, W1, ?_, ?_, ?_, ?_, fun _ => by decide, ?_⟩
 ·rw [hW1, hrec];exact run_enterLoop_outer _ _ _ _ _
 ·simp only [resolve, hg]
  simp [go_sem]
 ·intro f' hf';trivial
 ·simp [invoke, go_sem, eg]
 ·refine callsIn_wide.2 ((h fn rec W1 hrec hW1 hL1 hK1).mono ?_)
  rintro e W2 ⟨⟨v, rfl⟩, hl, hq⟩
  refine ⟨none, _, ?_, hq⟩
  have := run_endLoop (P := P) hl (by rw [hrec];simp)
  rw [hrec] at this
  rw [hrec]
  exact this
/-- One round of such a loop: its body, walked, goes on;the record is ready again. -/
theorem yield_round {P : Program} {l D : Nat} {fn : FuncId} {tmps : Array Value} {ps : Array Tmp} {assign body : Code} {rec : LoopState → Option Code → Loop} {args : Array Value} {W : World} {R : World → Prop}
  (hrec : rec = fun st pe => { state := st, pending := pe, fn, tmps := tmps, params := ps, assign, body, defers := D })
  (hl : W.heap[l]? = some (.loop (rec .ready none))) (hs : args.size = ps.size)
  (hb : assign.wpIn (Fence.wide.inRound l) 1 P (Exit.then (fun a₁ w₁ => w₁.heap[l]? = some (.loop (rec .ready none)) ∧ body.wpIn (Fence.wide.inRound l) 1 P (fun ex _ w₃ => ex = .normal ∧ w₃.heap[l]? = some (.loop (rec .busy none)) ∧ R (w₃.putObj l (.loop (rec .ready none)))) a₁ (w₁.putObj l (.loop (rec .busy none)))) (fun _ _ _ => False))
   { tmps := (ps.zip args).foldl (fun t (p, v) => t.setIfInBounds p v) tmps, defers := [] } W) :
  YieldAt Fence.wide 1 P l args W fun e W' => e = .returned (.bool true) ∧ R W' := by
 have hy := run_yield (P := P) (args := args) hl (by rw [hrec];exact hs)
 rw [hrec] at hy
 refine ⟨fn, _, assign, body, hy, roundIn_of_wpIn trivial (wpIn_mono hb ?_)⟩
 rintro e a₁ w₁ hp
 cases e with
 | normal =>
  obtain ⟨h1, h2⟩ := hp
  refine ⟨_, run_beginRound h1 (by rw [hrec]), ?_⟩
  rw [hrec] at h2 ⊢
  refine wpIn_mono h2 ?_
  rintro e a3 w3 ⟨rfl, h4, h5⟩
  exact ⟨_, _, run_endRound none h4, rfl, h5⟩
 | _ => exact hp.elim
end Go.Dr
