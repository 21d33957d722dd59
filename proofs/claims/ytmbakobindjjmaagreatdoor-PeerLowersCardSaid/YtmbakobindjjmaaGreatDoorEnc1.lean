
/- The walk of the document's encoder for one field of the fixed table: numbers, the table. -/
import Derived.Test.YtmbakobindjjmaaGreatDoorHpk2
import Derived.Great.BuildSlice
import Derived.Great.Walk
namespace Go.Proofs.YtmbakobindjjmaaGreatDoor
open Go.RowKit Go.Dr

set_option maxRecDepth 100000 in
set_option maxHeartbeats 4000000 in
theorem rPutInt_eight (w : World) : Calls Tryz.prog 24 #[.int .u8 128, .int .i64 7, .int .u32 8] w fun e w' => ∃ v, e = .returned v ∧ w'.ownsRow w.heap.size 5 1 v 1 [.int .u8 136] ∧ Below w.heap.size w w' := by
  go_enter Tryz.func24, Tryz.ntmps24
  go_wp2
  refine wp_loop_rounds 8 ?_
  rw [rounds_succ]
  go_wp2
  rw [rounds_succ]
  go_wp2
  rw [rounds_succ]
  go_wp2
  rw [rounds_succ]
  go_wp2
  rw [rounds_succ]
  go_wp2
  rw [rounds_succ]
  go_wp2
  rw [rounds_succ]
  go_wp2
  rw [rounds_succ]
  go_wp2
  go_ret
  exact ⟨_, rfl, World.ownsRow_lit (base := w.heap.size) (e := 5) (size := 1) w #[.int .u8 136] 1 (Nat.le_refl _) (by decide) rfl, (Below.refl _ _).alloc (Nat.le_refl _) _⟩
set_option maxRecDepth 100000 in
set_option maxHeartbeats 4000000 in
theorem rNewEnc (w : World) : Calls Tryz.prog 12 #[.int .i64 4096] w fun e w' => e = .returned (Ptr w.heap.size) ∧ Blk w' w.heap.size 80 #[.int .i64 4096, .int .i64 4096, .int .i64 4096, .int .i64 4096, .slice none 0 0] ∧ Below w.heap.size w w' := by
  go_enter Tryz.func12, Tryz.ntmps12
  go_wp2
  go_ret
  exact ⟨rfl, Blk.new _ _ _, (Below.refl _ _).alloc (Nat.le_refl _) _⟩

def refC : Array Value := (statL.flatMap fun p => [S p.1, S p.2, .bool false]).toArray
def refParts : Array (Nat × Operand) := ((List.range 61).map fun i => (i, Operand.tmp (i + 1))).toArray
theorem eval_put {a : Act} {t : Tmp} {v : Value} (h : t < a.tmps.size) : (a.put (some t) v).eval (.tmp t) = v := by
  simp [Act.put, Act.eval, h]

set_option maxRecDepth 100000 in
set_option maxHeartbeats 4000000 in
theorem rStatic (w : World) : Calls Tryz.prog 48 #[] w fun e w' => e = .returned (.slice (some ⟨w.heap.size, 0, none⟩) 61 61) ∧ w' = w.alloc (.cells refC 38) := by
  obtain ⟨ie, hie, hz, hsz, -⟩ := info_parts (P := Tryz.prog) (e := 38) (z := .agg #[S [], S [], .bool false]) (size := 3) (bytes := 40) (by kernel_rfl)
  go_enter Tryz.func48, Tryz.ntmps48
  go_upto_region 1 with fail
  refine wp_region_lit ?_
  refine wpList_builds (fun a => (Instr.fill (fun i => some (i * 3, 3)) ((Array.range (61 * 3)).map ((#[S [], S [], .bool false] : Array Value)[· % 3]!)) (refParts.map fun (i, x) => (i, a.eval x)).toList, a.tmps.size, a.defers)) (some refC, 63, []) 61 _ _ (by kernel_rfl) ?_
  intro a' ha
  simp only [Prod.mk.injEq] at ha
  obtain ⟨k1, k2, k3⟩ := ha
  have ev : (a'.put (some 62) (.slice (some ⟨w.heap.size, 0, none⟩) 61 61)).eval (.tmp 62) = .slice (some ⟨w.heap.size, 0, none⟩) 61 61 := eval_put (by rw [k2]; decide)
  obtain ⟨a2, ea2⟩ : ∃ a2, a2 = a'.put (some 62) (.slice (some ⟨w.heap.size, 0, none⟩) 61 61) := ⟨_, rfl⟩
  have s2 : a2.tmps.size = 63 := by rw [ea2]; simp [Act.put, k2]
  have d2 : a2.defers = [] := by rw [ea2]; exact k3
  rw [← ea2] at ev
  refine Go.wpList_buildSlice rfl 39 38 61 refParts (by kernel_rfl) refC ie _ Tryz.underlying39 hie hz (by rw [hsz]; decide) (by rw [hsz]; decide) (by rw [hsz]; exact k1) ?_
  rw [← ea2]
  refine Great.wpList_readTo rfl (some 0) rfl (.slice (some ⟨w.heap.size, 0, none⟩) 61 61) (by simp [execOp, ev]) ?_
  refine wpList_nil ?_
  obtain ⟨a3, ea3⟩ : ∃ a3, a3 = a2.put (some 0) (.slice (some ⟨w.heap.size, 0, none⟩) 61 61) := ⟨_, rfl⟩
  have t3 : a3.tmps.getD 0 undef = .slice (some ⟨w.heap.size, 0, none⟩) 61 61 := by rw [ea3]; simp [Act.put, s2]
  have d3 : a3.defers = [] := by rw [ea3]; exact d2
  rw [← ea3]
  clear ea3 ea2 ev s2 d2 k1 k2 k3
  go_wp2
  refine bodyPost_ret (results_tmp Tryz.results48 _ _ _) d3 ⟨by rw [t3], rfl⟩
end Go.Proofs.YtmbakobindjjmaaGreatDoor
