/- Parts of the proof of ConnNone_holds: the texts Tab2. -/
import Derived.Test.YtlkfmhbmcicmfaaGreatDoorP8
set_option linter.unusedSimpArgs false
set_option linter.unusedVariables false
set_option linter.unnecessarySimpa false
namespace Go.Proofs.YtlkfmhbmcicmfaaGreatDoor
open Go.RowKit Go.Dr

set_option maxRecDepth 100000 in
set_option maxHeartbeats 4000000 in
theorem At_1 {t : Nat} (w : World) :
    Calls Tryz.prog 208 #[Ptr t, .int .i64 1] w fun e w' => e = .returned (.tuple #[.agg #[S [58, 97, 117, 116, 104, 111, 114, 105, 116, 121], S [], .bool false], .int .i64 0]) ∧ Below w.heap.size w w' := by
  have hA : Blk ((w.alloc (.cells #[S [], S [], .bool false] 41)).alloc (.cells #[S [], S []] 278)) w.heap.size 41 #[S [], S [], .bool false] := (Blk.new w _ _).alloc _
  have hR : Blk ((w.alloc (.cells #[S [], S [], .bool false] 41)).alloc (.cells #[S [], S []] 278)) (w.heap.size + 1) 278 #[S [], S []] := by have := Blk.new (w.alloc (.cells #[S [], S [], .bool false] 41)) 278 #[S [], S []]; rw [World.size_alloc] at this; exact this
  have hb1 : Below w.heap.size w ((w.alloc (.cells #[S [], S [], .bool false] 41)).alloc (.cells #[S [], S []] 278)) := ((Below.refl _ _).alloc (Nat.le_refl _) _).alloc (by simp) _
  go_enter Tryz.func208, Tryz.ntmps208
  go_wp2_with first
    | (go_at_call 197; (with_reducible refine (Fixed_any _).mono ?_); rintro e w2 ⟨rfl, hb2⟩; have hA2 := hA.on hb2; have hR2 := hR.on hb2; have hb12 := hb1.trans (hb2.mono (by simp; omega)); have hz2 := hb2.size; have h0 := heap_alloc_new w2 (.cells Tryz.zeroCells279 279))
    | (refine wpList_store_row rfl _ _ _ rfl w2.heap.size statC rfl rfl 279 _ h0 (by kernel_rfl) (by kernel_rfl) (by kernel_rfl) ?_; obtain ⟨W3, eW3⟩ : ∃ W3, W3 = (w2.alloc (.cells Tryz.zeroCells279 279)).setRow w2.heap.size statC := ⟨_, rfl⟩; rw [← eW3]; have hb3 : Below w2.heap.size w2 W3 := (by rw [eW3]; exact row_below _ _ _ _); have hs3 : W3.heap[w2.heap.size]? = some (.cells statC 279 (0, 0)) := (by rw [eW3]; exact setRow_heap _ _ _ _ _ _ h0); have hA3 := hA2.on hb3; have hR3 := hR2.on hb3; have c14 : W3.cell? ⟨w2.heap.size, 0, none⟩ = some (S [58, 97, 117, 116, 104, 111, 114, 105, 116, 121]) := (cell_of_row _ _ _ _ _ _ hs3).trans (by kernel_rfl); have c15 : W3.cell? ⟨w2.heap.size, 1, none⟩ = some (S []) := (cell_of_row _ _ _ _ _ _ hs3).trans (by kernel_rfl); have hb13 := hb12.trans (hb3.mono (by simp at hz2; omega)); have r0 : W3.cell? ⟨w.heap.size + 1, 0, none⟩ = some (S []) := hR3.cell 0; have r1 : W3.cell? ⟨w.heap.size + 1, 1, none⟩ = some (S []) := hR3.cell 1; have u0 := hR3.free 0; have u1 := hR3.free 1; have a0 : W3.cell? ⟨w.heap.size, 0, none⟩ = some (S []) := hA3.cell 0; have a1 : W3.cell? ⟨w.heap.size, 1, none⟩ = some (S []) := hA3.cell 1; have a2 : W3.cell? ⟨w.heap.size, 2, none⟩ = some (.bool false) := hA3.cell 2; have v0 := hA3.free 0; have v1 := hA3.free 1; have v2 := hA3.free 2; clear eW3 h0 hs3)
  have hAf := ((((hA3.other (p := ⟨w.heap.size + 1, 0, none⟩) (by simp) (S [58, 97, 117, 116, 104, 111, 114, 105, 116, 121])).other (p := ⟨w.heap.size + 1, 1, none⟩) (by simp) (S [])).set 0 (S [58, 97, 117, 116, 104, 111, 114, 105, 116, 121])).set 1 (S [])).set 2 (.bool false)
  refine bodyPost_ret (results_cell_tmp Tryz.results208 rfl rfl (run_loadVar_row _ w.heap.size 41 41 _ (0, 0) _ hAf Tryz.underlying41 (by rfl) (by kernel_rfl))) rfl ⟨rfl, ?_⟩
  exact ((((hb13.setCell (p := ⟨w.heap.size + 1, 0, none⟩) (by simp) _).setCell (p := ⟨w.heap.size + 1, 1, none⟩) (by simp) _).setCell (p := ⟨w.heap.size, 0, none⟩) (Nat.le_refl _) _).setCell (p := ⟨w.heap.size, 1, none⟩) (Nat.le_refl _) _).setCell (p := ⟨w.heap.size, 2, none⟩) (Nat.le_refl _) _

set_option maxRecDepth 100000 in
set_option maxHeartbeats 4000000 in
theorem Row_1 {r d t : Nat} (w : World) (h0 : w.cell? ⟨r, 0, none⟩ = some (Ptr d)) (h2 : w.cell? ⟨d, 2, none⟩ = some (Ptr t)) (hr : r < w.heap.size) (hd : d < w.heap.size) :
    Calls Tryz.prog 176 #[Ptr r, .int .i64 1] w fun e w' => e = .returned (.agg #[S [58, 97, 117, 116, 104, 111, 114, 105, 116, 121], S [], .bool false]) ∧ Below w.heap.size w w' := by
  have hA : Blk (w.alloc (.cells #[S [], S [], .bool false] 41)) w.heap.size 41 #[S [], S [], .bool false] := Blk.new _ _ _
  have hb1 : Below w.heap.size w (w.alloc (.cells #[S [], S [], .bool false] 41)) := (Below.refl _ _).alloc (Nat.le_refl _) _
  go_enter Tryz.func176, Tryz.ntmps176
  go_wp2_with (go_at_call 208; (with_reducible refine (At_1 _).mono ?_); rintro e w2 ⟨rfl, hb2⟩; have hA2 := hA.on hb2; have hb12 := hb1.trans (hb2.mono (by simp)); have a0 : ∀ ob, (w2.alloc ob).cell? ⟨w.heap.size, 0, none⟩ = some (S []) := fun ob => (hA2.alloc ob).cell 0; have v0 : ∀ ob, (w2.alloc ob).frozen? ⟨w.heap.size, 0, none⟩ = false := fun ob => (hA2.alloc ob).free 0; have a1 : ∀ ob, (w2.alloc ob).cell? ⟨w.heap.size, 1, none⟩ = some (S []) := fun ob => (hA2.alloc ob).cell 1; have v1 : ∀ ob, (w2.alloc ob).frozen? ⟨w.heap.size, 1, none⟩ = false := fun ob => (hA2.alloc ob).free 1; have a2 : ∀ ob, (w2.alloc ob).cell? ⟨w.heap.size, 2, none⟩ = some (.bool false) := fun ob => (hA2.alloc ob).cell 2; have v2 : ∀ ob, (w2.alloc ob).frozen? ⟨w.heap.size, 2, none⟩ = false := fun ob => (hA2.alloc ob).free 2)
  have hAf := (((hA2.alloc (.cells #[S [58, 97, 117, 116, 104, 111, 114, 105, 116, 121], S [], .bool false] 41)).set 0 (S [58, 97, 117, 116, 104, 111, 114, 105, 116, 121])).set 1 (S [])).set 2 (.bool false)
  refine bodyPost_ret (results_cell1 Tryz.results176 rfl (run_loadVar_row _ w.heap.size 41 41 _ (0, 0) _ hAf Tryz.underlying41 (by rfl) (by kernel_rfl))) rfl ⟨rfl, ?_⟩
  exact (((hb12.alloc hb12.size _).setCell (p := ⟨w.heap.size, 0, none⟩) (Nat.le_refl _) _).setCell (p := ⟨w.heap.size, 1, none⟩) (Nat.le_refl _) _).setCell (p := ⟨w.heap.size, 2, none⟩) (Nat.le_refl _) _

set_option maxRecDepth 100000 in
set_option maxHeartbeats 4000000 in
theorem At_2 {t : Nat} (w : World) :
    Calls Tryz.prog 208 #[Ptr t, .int .i64 2] w fun e w' => e = .returned (.tuple #[.agg #[S [58, 109, 101, 116, 104, 111, 100], S [71, 69, 84], .bool false], .int .i64 0]) ∧ Below w.heap.size w w' := by
  have hA : Blk ((w.alloc (.cells #[S [], S [], .bool false] 41)).alloc (.cells #[S [], S []] 278)) w.heap.size 41 #[S [], S [], .bool false] := (Blk.new w _ _).alloc _
  have hR : Blk ((w.alloc (.cells #[S [], S [], .bool false] 41)).alloc (.cells #[S [], S []] 278)) (w.heap.size + 1) 278 #[S [], S []] := by have := Blk.new (w.alloc (.cells #[S [], S [], .bool false] 41)) 278 #[S [], S []]; rw [World.size_alloc] at this; exact this
  have hb1 : Below w.heap.size w ((w.alloc (.cells #[S [], S [], .bool false] 41)).alloc (.cells #[S [], S []] 278)) := ((Below.refl _ _).alloc (Nat.le_refl _) _).alloc (by simp) _
  go_enter Tryz.func208, Tryz.ntmps208
  go_wp2_with first
    | (go_at_call 197; (with_reducible refine (Fixed_any _).mono ?_); rintro e w2 ⟨rfl, hb2⟩; have hA2 := hA.on hb2; have hR2 := hR.on hb2; have hb12 := hb1.trans (hb2.mono (by simp; omega)); have hz2 := hb2.size; have h0 := heap_alloc_new w2 (.cells Tryz.zeroCells279 279))
    | (refine wpList_store_row rfl _ _ _ rfl w2.heap.size statC rfl rfl 279 _ h0 (by kernel_rfl) (by kernel_rfl) (by kernel_rfl) ?_; obtain ⟨W3, eW3⟩ : ∃ W3, W3 = (w2.alloc (.cells Tryz.zeroCells279 279)).setRow w2.heap.size statC := ⟨_, rfl⟩; rw [← eW3]; have hb3 : Below w2.heap.size w2 W3 := (by rw [eW3]; exact row_below _ _ _ _); have hs3 : W3.heap[w2.heap.size]? = some (.cells statC 279 (0, 0)) := (by rw [eW3]; exact setRow_heap _ _ _ _ _ _ h0); have hA3 := hA2.on hb3; have hR3 := hR2.on hb3; have c14 : W3.cell? ⟨w2.heap.size, 2, none⟩ = some (S [58, 109, 101, 116, 104, 111, 100]) := (cell_of_row _ _ _ _ _ _ hs3).trans (by kernel_rfl); have c15 : W3.cell? ⟨w2.heap.size, 3, none⟩ = some (S [71, 69, 84]) := (cell_of_row _ _ _ _ _ _ hs3).trans (by kernel_rfl); have hb13 := hb12.trans (hb3.mono (by simp at hz2; omega)); have r0 : W3.cell? ⟨w.heap.size + 1, 0, none⟩ = some (S []) := hR3.cell 0; have r1 : W3.cell? ⟨w.heap.size + 1, 1, none⟩ = some (S []) := hR3.cell 1; have u0 := hR3.free 0; have u1 := hR3.free 1; have a0 : W3.cell? ⟨w.heap.size, 0, none⟩ = some (S []) := hA3.cell 0; have a1 : W3.cell? ⟨w.heap.size, 1, none⟩ = some (S []) := hA3.cell 1; have a2 : W3.cell? ⟨w.heap.size, 2, none⟩ = some (.bool false) := hA3.cell 2; have v0 := hA3.free 0; have v1 := hA3.free 1; have v2 := hA3.free 2; clear eW3 h0 hs3)
  have hAf := ((((hA3.other (p := ⟨w.heap.size + 1, 0, none⟩) (by simp) (S [58, 109, 101, 116, 104, 111, 100])).other (p := ⟨w.heap.size + 1, 1, none⟩) (by simp) (S [71, 69, 84])).set 0 (S [58, 109, 101, 116, 104, 111, 100])).set 1 (S [71, 69, 84])).set 2 (.bool false)
  refine bodyPost_ret (results_cell_tmp Tryz.results208 rfl rfl (run_loadVar_row _ w.heap.size 41 41 _ (0, 0) _ hAf Tryz.underlying41 (by rfl) (by kernel_rfl))) rfl ⟨rfl, ?_⟩
  exact ((((hb13.setCell (p := ⟨w.heap.size + 1, 0, none⟩) (by simp) _).setCell (p := ⟨w.heap.size + 1, 1, none⟩) (by simp) _).setCell (p := ⟨w.heap.size, 0, none⟩) (Nat.le_refl _) _).setCell (p := ⟨w.heap.size, 1, none⟩) (Nat.le_refl _) _).setCell (p := ⟨w.heap.size, 2, none⟩) (Nat.le_refl _) _

set_option maxRecDepth 100000 in
set_option maxHeartbeats 4000000 in
theorem Row_2 {r d t : Nat} (w : World) (h0 : w.cell? ⟨r, 0, none⟩ = some (Ptr d)) (h2 : w.cell? ⟨d, 2, none⟩ = some (Ptr t)) (hr : r < w.heap.size) (hd : d < w.heap.size) :
    Calls Tryz.prog 176 #[Ptr r, .int .i64 2] w fun e w' => e = .returned (.agg #[S [58, 109, 101, 116, 104, 111, 100], S [71, 69, 84], .bool false]) ∧ Below w.heap.size w w' := by
  have hA : Blk (w.alloc (.cells #[S [], S [], .bool false] 41)) w.heap.size 41 #[S [], S [], .bool false] := Blk.new _ _ _
  have hb1 : Below w.heap.size w (w.alloc (.cells #[S [], S [], .bool false] 41)) := (Below.refl _ _).alloc (Nat.le_refl _) _
  go_enter Tryz.func176, Tryz.ntmps176
  go_wp2_with (go_at_call 208; (with_reducible refine (At_2 _).mono ?_); rintro e w2 ⟨rfl, hb2⟩; have hA2 := hA.on hb2; have hb12 := hb1.trans (hb2.mono (by simp)); have a0 : ∀ ob, (w2.alloc ob).cell? ⟨w.heap.size, 0, none⟩ = some (S []) := fun ob => (hA2.alloc ob).cell 0; have v0 : ∀ ob, (w2.alloc ob).frozen? ⟨w.heap.size, 0, none⟩ = false := fun ob => (hA2.alloc ob).free 0; have a1 : ∀ ob, (w2.alloc ob).cell? ⟨w.heap.size, 1, none⟩ = some (S []) := fun ob => (hA2.alloc ob).cell 1; have v1 : ∀ ob, (w2.alloc ob).frozen? ⟨w.heap.size, 1, none⟩ = false := fun ob => (hA2.alloc ob).free 1; have a2 : ∀ ob, (w2.alloc ob).cell? ⟨w.heap.size, 2, none⟩ = some (.bool false) := fun ob => (hA2.alloc ob).cell 2; have v2 : ∀ ob, (w2.alloc ob).frozen? ⟨w.heap.size, 2, none⟩ = false := fun ob => (hA2.alloc ob).free 2)
  have hAf := (((hA2.alloc (.cells #[S [58, 109, 101, 116, 104, 111, 100], S [71, 69, 84], .bool false] 41)).set 0 (S [58, 109, 101, 116, 104, 111, 100])).set 1 (S [71, 69, 84])).set 2 (.bool false)
  refine bodyPost_ret (results_cell1 Tryz.results176 rfl (run_loadVar_row _ w.heap.size 41 41 _ (0, 0) _ hAf Tryz.underlying41 (by rfl) (by kernel_rfl))) rfl ⟨rfl, ?_⟩
  exact (((hb12.alloc hb12.size _).setCell (p := ⟨w.heap.size, 0, none⟩) (Nat.le_refl _) _).setCell (p := ⟨w.heap.size, 1, none⟩) (Nat.le_refl _) _).setCell (p := ⟨w.heap.size, 2, none⟩) (Nat.le_refl _) _

set_option maxRecDepth 100000 in
set_option maxHeartbeats 4000000 in
theorem At_4 {t : Nat} (w : World) :
    Calls Tryz.prog 208 #[Ptr t, .int .i64 4] w fun e w' => e = .returned (.tuple #[.agg #[S [58, 112, 97, 116, 104], S [47], .bool false], .int .i64 0]) ∧ Below w.heap.size w w' := by
  have hA : Blk ((w.alloc (.cells #[S [], S [], .bool false] 41)).alloc (.cells #[S [], S []] 278)) w.heap.size 41 #[S [], S [], .bool false] := (Blk.new w _ _).alloc _
  have hR : Blk ((w.alloc (.cells #[S [], S [], .bool false] 41)).alloc (.cells #[S [], S []] 278)) (w.heap.size + 1) 278 #[S [], S []] := by have := Blk.new (w.alloc (.cells #[S [], S [], .bool false] 41)) 278 #[S [], S []]; rw [World.size_alloc] at this; exact this
  have hb1 : Below w.heap.size w ((w.alloc (.cells #[S [], S [], .bool false] 41)).alloc (.cells #[S [], S []] 278)) := ((Below.refl _ _).alloc (Nat.le_refl _) _).alloc (by simp) _
  go_enter Tryz.func208, Tryz.ntmps208
  go_wp2_with first
    | (go_at_call 197; (with_reducible refine (Fixed_any _).mono ?_); rintro e w2 ⟨rfl, hb2⟩; have hA2 := hA.on hb2; have hR2 := hR.on hb2; have hb12 := hb1.trans (hb2.mono (by simp; omega)); have hz2 := hb2.size; have h0 := heap_alloc_new w2 (.cells Tryz.zeroCells279 279))
    | (refine wpList_store_row rfl _ _ _ rfl w2.heap.size statC rfl rfl 279 _ h0 (by kernel_rfl) (by kernel_rfl) (by kernel_rfl) ?_; obtain ⟨W3, eW3⟩ : ∃ W3, W3 = (w2.alloc (.cells Tryz.zeroCells279 279)).setRow w2.heap.size statC := ⟨_, rfl⟩; rw [← eW3]; have hb3 : Below w2.heap.size w2 W3 := (by rw [eW3]; exact row_below _ _ _ _); have hs3 : W3.heap[w2.heap.size]? = some (.cells statC 279 (0, 0)) := (by rw [eW3]; exact setRow_heap _ _ _ _ _ _ h0); have hA3 := hA2.on hb3; have hR3 := hR2.on hb3; have c14 : W3.cell? ⟨w2.heap.size, 6, none⟩ = some (S [58, 112, 97, 116, 104]) := (cell_of_row _ _ _ _ _ _ hs3).trans (by kernel_rfl); have c15 : W3.cell? ⟨w2.heap.size, 7, none⟩ = some (S [47]) := (cell_of_row _ _ _ _ _ _ hs3).trans (by kernel_rfl); have hb13 := hb12.trans (hb3.mono (by simp at hz2; omega)); have r0 : W3.cell? ⟨w.heap.size + 1, 0, none⟩ = some (S []) := hR3.cell 0; have r1 : W3.cell? ⟨w.heap.size + 1, 1, none⟩ = some (S []) := hR3.cell 1; have u0 := hR3.free 0; have u1 := hR3.free 1; have a0 : W3.cell? ⟨w.heap.size, 0, none⟩ = some (S []) := hA3.cell 0; have a1 : W3.cell? ⟨w.heap.size, 1, none⟩ = some (S []) := hA3.cell 1; have a2 : W3.cell? ⟨w.heap.size, 2, none⟩ = some (.bool false) := hA3.cell 2; have v0 := hA3.free 0; have v1 := hA3.free 1; have v2 := hA3.free 2; clear eW3 h0 hs3)
  have hAf := ((((hA3.other (p := ⟨w.heap.size + 1, 0, none⟩) (by simp) (S [58, 112, 97, 116, 104])).other (p := ⟨w.heap.size + 1, 1, none⟩) (by simp) (S [47])).set 0 (S [58, 112, 97, 116, 104])).set 1 (S [47])).set 2 (.bool false)
  refine bodyPost_ret (results_cell_tmp Tryz.results208 rfl rfl (run_loadVar_row _ w.heap.size 41 41 _ (0, 0) _ hAf Tryz.underlying41 (by rfl) (by kernel_rfl))) rfl ⟨rfl, ?_⟩
  exact ((((hb13.setCell (p := ⟨w.heap.size + 1, 0, none⟩) (by simp) _).setCell (p := ⟨w.heap.size + 1, 1, none⟩) (by simp) _).setCell (p := ⟨w.heap.size, 0, none⟩) (Nat.le_refl _) _).setCell (p := ⟨w.heap.size, 1, none⟩) (Nat.le_refl _) _).setCell (p := ⟨w.heap.size, 2, none⟩) (Nat.le_refl _) _

set_option maxRecDepth 100000 in
set_option maxHeartbeats 4000000 in
theorem Row_4 {r d t : Nat} (w : World) (h0 : w.cell? ⟨r, 0, none⟩ = some (Ptr d)) (h2 : w.cell? ⟨d, 2, none⟩ = some (Ptr t)) (hr : r < w.heap.size) (hd : d < w.heap.size) :
    Calls Tryz.prog 176 #[Ptr r, .int .i64 4] w fun e w' => e = .returned (.agg #[S [58, 112, 97, 116, 104], S [47], .bool false]) ∧ Below w.heap.size w w' := by
  have hA : Blk (w.alloc (.cells #[S [], S [], .bool false] 41)) w.heap.size 41 #[S [], S [], .bool false] := Blk.new _ _ _
  have hb1 : Below w.heap.size w (w.alloc (.cells #[S [], S [], .bool false] 41)) := (Below.refl _ _).alloc (Nat.le_refl _) _
  go_enter Tryz.func176, Tryz.ntmps176
  go_wp2_with (go_at_call 208; (with_reducible refine (At_4 _).mono ?_); rintro e w2 ⟨rfl, hb2⟩; have hA2 := hA.on hb2; have hb12 := hb1.trans (hb2.mono (by simp)); have a0 : ∀ ob, (w2.alloc ob).cell? ⟨w.heap.size, 0, none⟩ = some (S []) := fun ob => (hA2.alloc ob).cell 0; have v0 : ∀ ob, (w2.alloc ob).frozen? ⟨w.heap.size, 0, none⟩ = false := fun ob => (hA2.alloc ob).free 0; have a1 : ∀ ob, (w2.alloc ob).cell? ⟨w.heap.size, 1, none⟩ = some (S []) := fun ob => (hA2.alloc ob).cell 1; have v1 : ∀ ob, (w2.alloc ob).frozen? ⟨w.heap.size, 1, none⟩ = false := fun ob => (hA2.alloc ob).free 1; have a2 : ∀ ob, (w2.alloc ob).cell? ⟨w.heap.size, 2, none⟩ = some (.bool false) := fun ob => (hA2.alloc ob).cell 2; have v2 : ∀ ob, (w2.alloc ob).frozen? ⟨w.heap.size, 2, none⟩ = false := fun ob => (hA2.alloc ob).free 2)
  have hAf := (((hA2.alloc (.cells #[S [58, 112, 97, 116, 104], S [47], .bool false] 41)).set 0 (S [58, 112, 97, 116, 104])).set 1 (S [47])).set 2 (.bool false)
  refine bodyPost_ret (results_cell1 Tryz.results176 rfl (run_loadVar_row _ w.heap.size 41 41 _ (0, 0) _ hAf Tryz.underlying41 (by rfl) (by kernel_rfl))) rfl ⟨rfl, ?_⟩
  exact (((hb12.alloc hb12.size _).setCell (p := ⟨w.heap.size, 0, none⟩) (Nat.le_refl _) _).setCell (p := ⟨w.heap.size, 1, none⟩) (Nat.le_refl _) _).setCell (p := ⟨w.heap.size, 2, none⟩) (Nat.le_refl _) _

set_option maxRecDepth 100000 in
set_option maxHeartbeats 4000000 in
theorem At_6 {t : Nat} (w : World) :
    Calls Tryz.prog 208 #[Ptr t, .int .i64 6] w fun e w' => e = .returned (.tuple #[.agg #[S [58, 115, 99, 104, 101, 109, 101], S [104, 116, 116, 112], .bool false], .int .i64 0]) ∧ Below w.heap.size w w' := by
  have hA : Blk ((w.alloc (.cells #[S [], S [], .bool false] 41)).alloc (.cells #[S [], S []] 278)) w.heap.size 41 #[S [], S [], .bool false] := (Blk.new w _ _).alloc _
  have hR : Blk ((w.alloc (.cells #[S [], S [], .bool false] 41)).alloc (.cells #[S [], S []] 278)) (w.heap.size + 1) 278 #[S [], S []] := by have := Blk.new (w.alloc (.cells #[S [], S [], .bool false] 41)) 278 #[S [], S []]; rw [World.size_alloc] at this; exact this
  have hb1 : Below w.heap.size w ((w.alloc (.cells #[S [], S [], .bool false] 41)).alloc (.cells #[S [], S []] 278)) := ((Below.refl _ _).alloc (Nat.le_refl _) _).alloc (by simp) _
  go_enter Tryz.func208, Tryz.ntmps208
  go_wp2_with first
    | (go_at_call 197; (with_reducible refine (Fixed_any _).mono ?_); rintro e w2 ⟨rfl, hb2⟩; have hA2 := hA.on hb2; have hR2 := hR.on hb2; have hb12 := hb1.trans (hb2.mono (by simp; omega)); have hz2 := hb2.size; have h0 := heap_alloc_new w2 (.cells Tryz.zeroCells279 279))
    | (refine wpList_store_row rfl _ _ _ rfl w2.heap.size statC rfl rfl 279 _ h0 (by kernel_rfl) (by kernel_rfl) (by kernel_rfl) ?_; obtain ⟨W3, eW3⟩ : ∃ W3, W3 = (w2.alloc (.cells Tryz.zeroCells279 279)).setRow w2.heap.size statC := ⟨_, rfl⟩; rw [← eW3]; have hb3 : Below w2.heap.size w2 W3 := (by rw [eW3]; exact row_below _ _ _ _); have hs3 : W3.heap[w2.heap.size]? = some (.cells statC 279 (0, 0)) := (by rw [eW3]; exact setRow_heap _ _ _ _ _ _ h0); have hA3 := hA2.on hb3; have hR3 := hR2.on hb3; have c14 : W3.cell? ⟨w2.heap.size, 10, none⟩ = some (S [58, 115, 99, 104, 101, 109, 101]) := (cell_of_row _ _ _ _ _ _ hs3).trans (by kernel_rfl); have c15 : W3.cell? ⟨w2.heap.size, 11, none⟩ = some (S [104, 116, 116, 112]) := (cell_of_row _ _ _ _ _ _ hs3).trans (by kernel_rfl); have hb13 := hb12.trans (hb3.mono (by simp at hz2; omega)); have r0 : W3.cell? ⟨w.heap.size + 1, 0, none⟩ = some (S []) := hR3.cell 0; have r1 : W3.cell? ⟨w.heap.size + 1, 1, none⟩ = some (S []) := hR3.cell 1; have u0 := hR3.free 0; have u1 := hR3.free 1; have a0 : W3.cell? ⟨w.heap.size, 0, none⟩ = some (S []) := hA3.cell 0; have a1 : W3.cell? ⟨w.heap.size, 1, none⟩ = some (S []) := hA3.cell 1; have a2 : W3.cell? ⟨w.heap.size, 2, none⟩ = some (.bool false) := hA3.cell 2; have v0 := hA3.free 0; have v1 := hA3.free 1; have v2 := hA3.free 2; clear eW3 h0 hs3)
  have hAf := ((((hA3.other (p := ⟨w.heap.size + 1, 0, none⟩) (by simp) (S [58, 115, 99, 104, 101, 109, 101])).other (p := ⟨w.heap.size + 1, 1, none⟩) (by simp) (S [104, 116, 116, 112])).set 0 (S [58, 115, 99, 104, 101, 109, 101])).set 1 (S [104, 116, 116, 112])).set 2 (.bool false)
  refine bodyPost_ret (results_cell_tmp Tryz.results208 rfl rfl (run_loadVar_row _ w.heap.size 41 41 _ (0, 0) _ hAf Tryz.underlying41 (by rfl) (by kernel_rfl))) rfl ⟨rfl, ?_⟩
  exact ((((hb13.setCell (p := ⟨w.heap.size + 1, 0, none⟩) (by simp) _).setCell (p := ⟨w.heap.size + 1, 1, none⟩) (by simp) _).setCell (p := ⟨w.heap.size, 0, none⟩) (Nat.le_refl _) _).setCell (p := ⟨w.heap.size, 1, none⟩) (Nat.le_refl _) _).setCell (p := ⟨w.heap.size, 2, none⟩) (Nat.le_refl _) _

set_option maxRecDepth 100000 in
set_option maxHeartbeats 4000000 in
theorem Row_6 {r d t : Nat} (w : World) (h0 : w.cell? ⟨r, 0, none⟩ = some (Ptr d)) (h2 : w.cell? ⟨d, 2, none⟩ = some (Ptr t)) (hr : r < w.heap.size) (hd : d < w.heap.size) :
    Calls Tryz.prog 176 #[Ptr r, .int .i64 6] w fun e w' => e = .returned (.agg #[S [58, 115, 99, 104, 101, 109, 101], S [104, 116, 116, 112], .bool false]) ∧ Below w.heap.size w w' := by
  have hA : Blk (w.alloc (.cells #[S [], S [], .bool false] 41)) w.heap.size 41 #[S [], S [], .bool false] := Blk.new _ _ _
  have hb1 : Below w.heap.size w (w.alloc (.cells #[S [], S [], .bool false] 41)) := (Below.refl _ _).alloc (Nat.le_refl _) _
  go_enter Tryz.func176, Tryz.ntmps176
  go_wp2_with (go_at_call 208; (with_reducible refine (At_6 _).mono ?_); rintro e w2 ⟨rfl, hb2⟩; have hA2 := hA.on hb2; have hb12 := hb1.trans (hb2.mono (by simp)); have a0 : ∀ ob, (w2.alloc ob).cell? ⟨w.heap.size, 0, none⟩ = some (S []) := fun ob => (hA2.alloc ob).cell 0; have v0 : ∀ ob, (w2.alloc ob).frozen? ⟨w.heap.size, 0, none⟩ = false := fun ob => (hA2.alloc ob).free 0; have a1 : ∀ ob, (w2.alloc ob).cell? ⟨w.heap.size, 1, none⟩ = some (S []) := fun ob => (hA2.alloc ob).cell 1; have v1 : ∀ ob, (w2.alloc ob).frozen? ⟨w.heap.size, 1, none⟩ = false := fun ob => (hA2.alloc ob).free 1; have a2 : ∀ ob, (w2.alloc ob).cell? ⟨w.heap.size, 2, none⟩ = some (.bool false) := fun ob => (hA2.alloc ob).cell 2; have v2 : ∀ ob, (w2.alloc ob).frozen? ⟨w.heap.size, 2, none⟩ = false := fun ob => (hA2.alloc ob).free 2)
  have hAf := (((hA2.alloc (.cells #[S [58, 115, 99, 104, 101, 109, 101], S [104, 116, 116, 112], .bool false] 41)).set 0 (S [58, 115, 99, 104, 101, 109, 101])).set 1 (S [104, 116, 116, 112])).set 2 (.bool false)
  refine bodyPost_ret (results_cell1 Tryz.results176 rfl (run_loadVar_row _ w.heap.size 41 41 _ (0, 0) _ hAf Tryz.underlying41 (by rfl) (by kernel_rfl))) rfl ⟨rfl, ?_⟩
  exact (((hb12.alloc hb12.size _).setCell (p := ⟨w.heap.size, 0, none⟩) (Nat.le_refl _) _).setCell (p := ⟨w.heap.size, 1, none⟩) (Nat.le_refl _) _).setCell (p := ⟨w.heap.size, 2, none⟩) (Nat.le_refl _) _

end Go.Proofs.YtlkfmhbmcicmfaaGreatDoor

