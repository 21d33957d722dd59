
/- The walks of layer 19, sixth part: a new shelf. -/
import Derived.Test.YtnflihjgbkocnaaDoorOct
import Derived.Test.YtnflihjgbkocnaaDoorRing
import Derived.Test.YtnflihjgbkocnaaDoorHop
namespace Go.Proofs.YtnflihjgbkocnaaDoor
open Go.RowKit Go.Dr

set_option linter.unusedSimpArgs false in
set_option linter.unusedVariables false in
set_option linter.unnecessarySimpa false in
theorem alloc3 (w : World) (X Y Z : Obj) : (((w.alloc X).alloc Y).alloc Z).heap[w.heap.size]? = some X ∧ (((w.alloc X).alloc Y).alloc Z).heap[w.heap.size + 1]? = some Y ∧ (((w.alloc X).alloc Y).alloc Z).heap[w.heap.size + 2]? = some Z := by
  have h1 := heap_alloc_new w X
  have h2 := heap_alloc_new (w.alloc X) Y
  have h3 := heap_alloc_new ((w.alloc X).alloc Y) Z
  have s1 : (w.alloc X).heap.size = w.heap.size + 1 := by simp
  have s2 : ((w.alloc X).alloc Y).heap.size = w.heap.size + 2 := by simp
  rw [s1] at h2
  rw [s2] at h3
  exact ⟨(heap_alloc_old _ _ (by omega)).trans ((heap_alloc_old _ _ (by omega)).trans h1), (heap_alloc_old _ _ (by omega)).trans h2, h3⟩

set_option linter.unusedSimpArgs false in
set_option linter.unusedVariables false in
set_option linter.unnecessarySimpa false in
set_option maxRecDepth 100000 in
set_option maxHeartbeats 4000000 in
theorem New_any (most : Int) (h0 : 0 ≤ most) (h1 : most ≤ 1048576) (w : World) :
    Calls Tryd.prog 6 #[.int .i64 most] w fun e w' => e = .returned (.tuple #[Ptr (w.heap.size + 2), .int .i64 0]) ∧ Below w.heap.size w w' ∧ Blk w' w.heap.size 57 (K.zero.cells w.heap.size w.heap.size) ∧ w'.heap[w.heap.size + 1]? = some (.map #[] 0) ∧ Blk w' (w.heap.size + 2) 60 #[.int .i64 most, .int .i64 0, .int .i64 0, Ptr w.heap.size, .map (some (w.heap.size + 1))] := by
  have g1 : decide (most < 0) = false := by rw [decide_eq_false_iff_not]; omega
  have g2 : decide ((1048576 : Int) < most) = false := by rw [decide_eq_false_iff_not]; omega
  clear h0 h1
  have hmm := @run_makeMap Tryd.prog
  go_enter Tryd.func6, Tryd.ntmps6
  go_wp2
  go_ret2
  refine ⟨rfl, ?_, (alloc3 w _ _ _).1, (alloc3 w _ _ _).2.1, (alloc3 w _ _ _).2.2⟩
  exact (((Below.refl _ _).alloc (Nat.le_refl _) _).alloc (by simp) _).alloc (by simp; omega) _
end Go.Proofs.YtnflihjgbkocnaaDoor
