
/- The walks of a peer's windows and settings: grow, spend, set. -/
import Derived.Test.YtmbakobindjjmaaGreatDoorWin1
import Derived.Deep.RegionHeld3
namespace Go.Proofs.YtmbakobindjjmaaGreatDoor
open Go.RowKit Go.Dr

theorem but_turned {w w' : World} {o : Nat} (h : w.mapTurned w' o) : But (fun k => k = o) w w' := But.grown h.grown rfl

set_option maxRecDepth 100000 in
set_option maxHeartbeats 4000000 in
theorem Grow_any {p o : Nat} {x n : Int} (w : World) (h4 : w.cell? ⟨p, 4, none⟩ = some (.map (some o))) (h : OM w o x) (hlo : -9223372036854775808 ≤ x + n) (hhi : x + n < 9223372036854775808) :
    Calls Tryz.prog 47 #[.pointer (some ⟨p, 2, none⟩), .int .i64 1, .int .i64 n] w fun e w' => e = .returned (.tuple #[]) ∧ OM w' o (x + n) ∧ But (fun k => k = o) w w' := by
  have hl := h.look
  have hg := h.get
  obtain ⟨w2, hp, h2, ht⟩ := h.put (x + n)
  go_enter Tryz.func47, Tryz.ntmps47
  go_wp2
  go_end0
  exact ⟨rfl, h2, but_turned ht⟩
set_option maxRecDepth 100000 in
set_option maxHeartbeats 4000000 in
/-- so many bytes may come -/
theorem Spend_yes {p o : Nat} {all beg x n : Int} (w : World) (hop : o ≠ p) (h2 : w.cell? ⟨p, 2, none⟩ = some (.int .i64 all)) (f2 : w.frozen? ⟨p, 2, none⟩ = false) (h3 : w.cell? ⟨p, 3, none⟩ = some (.int .i64 beg)) (h4 : w.cell? ⟨p, 4, none⟩ = some (.map (some o))) (h : OM w o x)
    (hn : 0 ≤ n) (ha : n ≤ all) (hb : n = 0 ∨ n ≤ beg + x) (ha2 : all < 4294967296) (hb1 : 0 ≤ beg) (hb2 : beg < 4294967296) (hx1 : -4294967296 < x) (hx2 : x < 4294967296) :
    Calls Tryz.prog 53 #[.pointer (some ⟨p, 2, none⟩), .int .i64 1, .int .i64 n] w fun e w' => e = .returned (.bool true) ∧ OM w' o (x - n) ∧ (w.setCell ⟨p, 2, none⟩ (.int .i64 (all - n))).drew.mapTurned w' o := by
  have hg1 := (h.block (w' := w.drew) rfl).get
  have e3 : (w.setCell ⟨p, 2, none⟩ (.int .i64 (all - n))).drew.heap[o]? = w.heap[o]? := Below.heap_setCell _ _ _ _ hop
  have hg2 := (h.block e3).get
  obtain ⟨w2, hp, h2', ht⟩ := (h.block e3).put (x - n)
  have hq : ¬ ((if 0 < (if beg + x < all then beg + x else all) then (if beg + x < all then beg + x else all) else 0) < n) := by split <;> split <;> omega
  clear hb
  go_enter Tryz.func53, Tryz.ntmps53
  go_wp2
  go_region
  go_wp2
  all_goals (go_ret; exact ⟨rfl, h2', ht⟩)
set_option maxRecDepth 100000 in
set_option maxHeartbeats 4000000 in
/-- so many bytes may not come -/
theorem Spend_no {p o : Nat} {all beg x n : Int} (w : World) (h2 : w.cell? ⟨p, 2, none⟩ = some (.int .i64 all)) (h3 : w.cell? ⟨p, 3, none⟩ = some (.int .i64 beg)) (h4 : w.cell? ⟨p, 4, none⟩ = some (.map (some o))) (h : OM w o x)
    (hn : 0 < n) (ha : all < n ∨ beg + x < n) (hb1 : 0 ≤ beg) (hb2 : beg < 4294967296) (hx1 : -4294967296 < x) (hx2 : x < 4294967296) :
    Calls Tryz.prog 53 #[.pointer (some ⟨p, 2, none⟩), .int .i64 1, .int .i64 n] w fun e w' => e = .returned (.bool false) ∧ Below w.heap.size w w' := by
  have hg1 := (h.block (w' := w.drew) rfl).get
  have hq : (if 0 < (if beg + x < all then beg + x else all) then (if beg + x < all then beg + x else all) else 0) < n := by split <;> split <;> omega
  go_enter Tryz.func53, Tryz.ntmps53
  go_wp2
  go_region
  go_wp2
  all_goals (go_ret; exact ⟨rfl, (Below.refl _ _).drew⟩)
set_option maxRecDepth 100000 in
set_option maxHeartbeats 4000000 in
/-- the beginning of windows is set -/
theorem Set_win {p : Nat} {xs : Array Value} {n : Int} {u : Value} (w : World) (hP : Blk w p 67 xs) (h3 : xs[3]? = some u) :
    Calls Tryz.prog 46 #[Ptr p, .agg #[.int .i64 4, .int .i64 n]] w fun e w' => e = .returned (.tuple #[]) ∧ Blk w' p 67 (xs.setIfInBounds 3 (.int .i64 n)) ∧ But (fun k => k = p) w w' := by
  have hF : Blk (w.alloc (.cells #[.int .i64 4, .int .i64 n] 52)) w.heap.size 52 #[.int .i64 4, .int .i64 n] := Blk.new _ _ _
  have g0 : (w.alloc (.cells #[.int .i64 4, .int .i64 n] 52)).cell? ⟨w.heap.size, 0, none⟩ = some (.int .i64 4) := hF.cell 0
  have g1 : (w.alloc (.cells #[.int .i64 4, .int .i64 n] 52)).cell? ⟨w.heap.size, 1, none⟩ = some (.int .i64 n) := hF.cell 1
  have hP1 := hP.alloc (.cells #[.int .i64 4, .int .i64 n] 52)
  have y3 : (w.alloc (.cells #[.int .i64 4, .int .i64 n] 52)).cell? ⟨p, 3, none⟩ = some u := (hP1.cell 3).trans h3
  have f3 := hP1.free 3
  go_enter Tryz.func46, Tryz.ntmps46
  go_wp2
  go_end0
  exact ⟨rfl, hP1.set 3 _, ((But.refl (fun k => k = p) w).alloc _).setCell (p := ⟨p, 3, none⟩) (.inl rfl) _⟩
end Go.Proofs.YtmbakobindjjmaaGreatDoor
