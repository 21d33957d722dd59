
/- The walks of hpack for a block of one byte: a row of the fixed table. -/
import Derived.Test.YtmbakobindjjmaaGreatDoorTab1
import Derived.Deep.RegionHeld3
import Derived.Deep.RegionLaw
import Derived.Defers
namespace Go.Proofs.YtmbakobindjjmaaGreatDoor
open Go.RowKit Go.Dr

set_option maxRecDepth 100000 in
set_option maxHeartbeats 4000000 in
theorem TakeInt_one {B : Nat} {v : Value} (w : World) (h : By B w v [136]) :
    Calls Tryz.prog 90 #[v, .int .i64 7] w fun e w' => e = .returned (.tuple #[.int .i64 8, .int .i64 1, .int .i64 0]) ∧ w' = w := by
  obtain ⟨a, c, rfl, hc, hcm⟩ := h.form
  obtain ⟨b, off, rfl, hb, x0⟩ := h.at 0 (by decide)
  have x1 : w.cell? ⟨b, off, none⟩ = some (.int .u8 136) := x0
  have hbt : bits .and .i64 136 127 = 8 := by decide
  clear x0
  go_enter Tryz.func90, Tryz.ntmps90
  go_wp2
  go_ret3
  exact ⟨rfl, rfl⟩
set_option maxRecDepth 100000 in
set_option maxHeartbeats 4000000 in
theorem Number_one {r B : Nat} {v dv fv cv hv : Value} (w : World) (hR : Blk w r 141 #[dv, v, fv, cv, hv]) (h : By B w v [136]) :
    Calls Tryz.prog 80 #[Ptr r, .int .i64 7] w fun e w' => e = .returned (.int .i64 8) ∧ (∃ a c, Blk w' r 141 #[dv, .slice a 0 c, fv, cv, hv]) ∧ But (fun k => k = r) w w' := by
  have hT := TakeInt_one w h
  obtain ⟨a, c, rfl, hc, hcm⟩ := h.form
  have y1 : w.cell? ⟨r, 1, none⟩ = some (.slice a [136].length c) := hR.cell 1
  have f1 := hR.free 1
  simp only [List.length_cons, List.length_nil, Nat.zero_add] at hT y1
  go_enter Tryz.func80, Tryz.ntmps80
  go_wp2_with (go_at_call 90; (with_reducible refine hT.mono ?_); rintro e w2 ⟨rfl, rfl⟩)
  all_goals (go_ret; exact ⟨rfl, ⟨_, _, hR.set 1 _⟩, (But.refl (fun k => k = r) _).setCell (p := ⟨r, 1, none⟩) (.inl rfl) _⟩)
set_option maxRecDepth 100000 in
set_option maxHeartbeats 4000000 in
theorem Row_eight {r d t : Nat} (w : World) (h0 : w.cell? ⟨r, 0, none⟩ = some (Ptr d)) (h2 : w.cell? ⟨d, 2, none⟩ = some (Ptr t)) (hr : r < w.heap.size) (hd : d < w.heap.size) :
    Calls Tryz.prog 79 #[Ptr r, .int .i64 8] w fun e w' => e = .returned (.agg #[S [58, 115, 116, 97, 116, 117, 115], S [50, 48, 48], .bool false]) ∧ Below w.heap.size w w' := by
  have hA : Blk (w.alloc (.cells #[S [], S [], .bool false] 38)) w.heap.size 38 #[S [], S [], .bool false] := Blk.new _ _ _
  have hb1 : Below w.heap.size w (w.alloc (.cells #[S [], S [], .bool false] 38)) := (Below.refl _ _).alloc (Nat.le_refl _) _
  go_enter Tryz.func79, Tryz.ntmps79
  go_wp2_with (go_at_call 89; (with_reducible refine (At_eight _).mono ?_); rintro e w2 ⟨rfl, hb2⟩; have hA2 := hA.on hb2; have hb12 := hb1.trans (hb2.mono (by simp)); have a0 : ∀ ob, (w2.alloc ob).cell? ⟨w.heap.size, 0, none⟩ = some (S []) := fun ob => (hA2.alloc ob).cell 0; have v0 : ∀ ob, (w2.alloc ob).frozen? ⟨w.heap.size, 0, none⟩ = false := fun ob => (hA2.alloc ob).free 0; have a1 : ∀ ob, (w2.alloc ob).cell? ⟨w.heap.size, 1, none⟩ = some (S []) := fun ob => (hA2.alloc ob).cell 1; have v1 : ∀ ob, (w2.alloc ob).frozen? ⟨w.heap.size, 1, none⟩ = false := fun ob => (hA2.alloc ob).free 1; have a2 : ∀ ob, (w2.alloc ob).cell? ⟨w.heap.size, 2, none⟩ = some (.bool false) := fun ob => (hA2.alloc ob).cell 2; have v2 : ∀ ob, (w2.alloc ob).frozen? ⟨w.heap.size, 2, none⟩ = false := fun ob => (hA2.alloc ob).free 2)
  have hAf := (((hA2.alloc (.cells #[S [58, 115, 116, 97, 116, 117, 115], S [50, 48, 48], .bool false] 38)).set 0 (S [58, 115, 116, 97, 116, 117, 115])).set 1 (S [50, 48, 48])).set 2 (.bool false)
  refine bodyPost_ret (results_cell1 Tryz.results79 rfl (run_loadVar_row _ w.heap.size 38 38 _ (0, 0) _ hAf Tryz.underlying38 (by rfl) (by kernel_rfl))) rfl ⟨rfl, ?_⟩
  exact (((hb12.alloc hb12.size _).setCell (p := ⟨w.heap.size, 0, none⟩) (Nat.le_refl _) _).setCell (p := ⟨w.heap.size, 1, none⟩) (Nat.le_refl _) _).setCell (p := ⟨w.heap.size, 2, none⟩) (Nat.le_refl _) _
end Go.Proofs.YtmbakobindjjmaaGreatDoor
