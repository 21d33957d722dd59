
/- The walk of Decode over a block of one byte. -/
import Derived.Test.YtmbakobindjjmaaGreatDoorHpk2
import Derived.Recover
namespace Go.Proofs.YtmbakobindjjmaaGreatDoor
open Go.RowKit Go.Dr

theorem catch_idle (p0 p1 p2 : Value) (w : World) :
    CallsD Tryz.prog 65 #[p0, p1, p2] .returning w fun e u' w' => e = .returned (.tuple #[]) ∧ u' = .returning ∧ w' = w := by
  refine callsD_of_wpS Tryz.func65 rfl fun c₀ cs hu => ?_
  apply wpS_seq
  apply wpS_region
  simp [wpOpsS, go_sem, recoverD, hu, Tryz.ntmps65, Exit.thenS]
  apply wpS_seq
  apply wpS_region
  simp [wpOpsS, go_sem, Exit.thenS, Array.replicate]
  refine wpS_cond (t := false) (by simp [Act.eval]) ?_
  simp only [Bool.false_eq_true, if_false]
  refine wpS_of_wp (wp_skip ?_)
  cases c₀
  simp_all [bodyPostS, results, Tryz.results65]

set_option maxRecDepth 100000 in
set_option maxHeartbeats 4000000 in
theorem Decode_one {d t : Nat} {v : Value} (w : World) (hD : Blk w d 104 #[.int .i64 65536, .int .i64 1099511627776, Ptr t, .bool false]) (h : By w.heap.size w v [136]) :
    Calls Tryz.prog 55 #[Ptr d, v] w fun e w' => (∃ a c, e = .returned (.tuple #[.slice a 1 c, .int .i64 0]) ∧ w'.ownsRow w.heap.size 38 3 (.slice a 1 c) 1 stat8.toList) ∧ Below w.heap.size w w' := by
  have hmf : ∀ (fn : Fn) (first cap : Array Value) (w : World), (Instr.makeFunc fn first cap).run Tryz.prog w = .ok (.func fn first cap) w := fun _ _ _ _ => rfl
  have d3 : w.cell? ⟨d, 3, none⟩ = some (.bool false) := hD.cell 3
  have hdl := hD.lt
  obtain ⟨av, cv, rfl, hcv, hcm⟩ := h.form
  have h : By w.heap.size w (.slice av 1 cv) [136] := h
  have hrefl := Below.refl w.heap.size w
  obtain ⟨W, eW⟩ : ∃ W, W = ((w.alloc (.cells #[Ptr d] 63)).alloc (.cells #[.slice none 0 0] 39)).alloc (.cells #[.int .i64 0] 40) := ⟨_, rfl⟩
  have hb : Below w.heap.size w W := by rw [eW]; exact ((hrefl.alloc (Nat.le_refl _) _).alloc (by simp) _).alloc (by simp; omega) _
  have hA : Blk W w.heap.size 63 #[Ptr d] := by rw [eW]; exact ((Blk.new w _ _).alloc _).alloc _
  have hB : Blk W (w.heap.size + 1) 39 #[.slice none 0 0] := by rw [eW]; exact (bnew_at (w.alloc (.cells #[Ptr d] 63)) _ _ _ (by simp)).alloc _
  have hC : Blk W (w.heap.size + 1 + 1) 40 #[.int .i64 0] := by rw [eW]; exact bnew_at ((w.alloc (.cells #[Ptr d] 63)).alloc (.cells #[.slice none 0 0] 39)) _ _ _ (by simp)
  have hz : W.heap.size = w.heap.size + 3 := by rw [eW]; simp
  have hDW := hD.on hb
  have d3 : W.cell? ⟨d, 3, none⟩ = some (.bool false) := hDW.cell 3
  have a0 : W.cell? ⟨w.heap.size, 0, none⟩ = some (Ptr d) := hA.cell 0
  have n1 : w.heap.size + 3 ≠ w.heap.size := by omega
  obtain ⟨W1, eW1⟩ : ∃ W1, W1 = W.alloc (.cells #[Ptr d, .slice av 1 cv, .slice none 0 0, .int .i64 0, .int .i64 0] 141) := ⟨_, rfl⟩
  have hb1 : Below W.heap.size W W1 := by rw [eW1]; exact (Below.refl _ _).alloc (Nat.le_refl _) _
  have hR1 : Blk W1 (w.heap.size + 3) 141 #[Ptr d, .slice av 1 cv, .slice none 0 0, .int .i64 0, .int .i64 0] := by rw [eW1]; exact bnew_at W _ _ _ hz
  have hD1 := hDW.on hb1
  have h1 : By w.heap.size W1 (.slice av 1 cv) [136] := (h.below hb).below (hb1.mono (by omega))
  have q2 : W1.cell? ⟨d, 2, none⟩ = some (Ptr t) := hD1.cell 2
  have hdR : d ≠ w.heap.size + 3 := by omega
  have hP := Part_one W1 hR1 h1 q2 hD1.lt hdR
  have r1 : W1.cell? ⟨w.heap.size + 3, 1, none⟩ = some (.slice av 1 cv) := hR1.cell 1
  have hA1 := hA.on hb1
  have hB1 := hB.on hb1
  have hC1 := hC.on hb1
  have hw1 : Below w.heap.size w W1 := hb.trans (hb1.mono (by omega))
  go_enter_defers Tryz.func55, Tryz.ntmps55
  go_upto_region 1 with fail
  rw [← eW]
  clear eW
  go_upto_region 5 with fail
  rw [← eW1]
  clear eW1 hz
  refine wp_loop_rounds 2 ?_
  rw [rounds_succ]
  go_wp2_with (go_at_call 66; (with_reducible refine hP.mono ?_); rintro e w4 ⟨rfl, a4, c4, a5, c5, hR4, ho4, hb4⟩; have hk : ∀ (k : Nat) (ob : Obj), k ≠ w.heap.size + 3 → W1.heap[k]? = some ob → w4.heap[k]? = some ob := (fun k ob hk ho => (hb4.block k (lt_of_block ho) hk).trans ho); have hA4 : Blk w4 _ _ _ := hk _ _ (by omega) hA1; have hB4 : Blk w4 _ _ _ := hk _ _ (by omega) hB1; have hC4 : Blk w4 _ _ _ := hk _ _ (by omega) hC1; have hD4 : Blk w4 _ _ _ := hk _ _ hdR hD1; have x1 : w4.cell? ⟨w.heap.size + 3, 1, none⟩ = some (.slice a5 0 c5) := hR4.cell 1; have x2 : w4.cell? ⟨w.heap.size + 3, 2, none⟩ = some (.slice a4 1 c4) := hR4.cell 2; have x3 : w4.cell? ⟨w.heap.size + 3, 3, none⟩ = some (.int .i64 42) := hR4.cell 3; have xa : w4.cell? ⟨w.heap.size, 0, none⟩ = some (Ptr d) := hA4.cell 0; have xb : w4.cell? ⟨w.heap.size + 1, 0, none⟩ = some (.slice none 0 0) := hB4.cell 0; have xc : w4.cell? ⟨w.heap.size + 1 + 1, 0, none⟩ = some (.int .i64 0) := hC4.cell 0; have fb := hB4.free 0; have fc := hC4.free 0; have xd : w4.cell? ⟨d, 1, none⟩ = some (.int .i64 1099511627776) := hD4.cell 1)
  rw [rounds_succ]
  go_wp2
  go_region
  go_wp2
  refine leaves_cons (f := 65) (args := #[.pointer (some ⟨w.heap.size, 0, none⟩), .pointer (some ⟨w.heap.size + 1, 0, none⟩), .pointer (some ⟨w.heap.size + 1 + 1, 0, none⟩)]) (by simp) (by simp [go_sem]) ?_
  refine (catch_idle _ _ _ _).mono ?_
  rintro e u' w'' ⟨rfl, rfl, rfl⟩
  obtain ⟨Wf, eWf⟩ : ∃ Wf, Wf = ((w4.setCell ⟨w.heap.size + 1, 0, none⟩ (.slice a4 1 c4)).setCell ⟨w.heap.size + 1 + 1, 0, none⟩ (.int .i64 0)).drew := ⟨_, rfl⟩
  rw [← eWf]
  have hRl := hR1.lt
  have hBf : Blk Wf (w.heap.size + 1) 39 #[.slice a4 1 c4] := by rw [eWf]; exact ((hB4.set 0 _).other (by simp) _).drew
  have hCf : Blk Wf (w.heap.size + 1 + 1) 40 #[.int .i64 0] := by rw [eWf]; exact ((hC4.other (by simp) _).set 0 _).drew
  have hof : Wf.ownsRow w.heap.size 38 3 (.slice a4 1 c4) 1 stat8.toList := by rw [eWf]; exact own_base (ownsRow_setCell_below (ownsRow_setCell_below ho4 (by show w.heap.size + 1 < _; omega) _) (by show w.heap.size + 1 + 1 < _; omega) _) (Nat.le_trans hb.size hb1.size)
  have hbf : Below w.heap.size w Wf := by
    rw [eWf]
    exact (((hw1.trans (hb4.below (fun k hk => by omega) hw1.size)).setCell (p := ⟨w.heap.size + 1, 0, none⟩) (by simp) _).setCell (p := ⟨w.heap.size + 1 + 1, 0, none⟩) (by simp; omega) _).drew
  have z1 : Wf.cell? ⟨w.heap.size + 1, 0, none⟩ = some (.slice a4 1 c4) := hBf.cell 0
  have z2 : Wf.cell? ⟨w.heap.size + 1 + 1, 0, none⟩ = some (.int .i64 0) := hCf.cell 0
  clear eWf
  simp only [Leaves, settle]
  refine ⟨.tuple #[.slice a4 1 c4, .int .i64 0], ?_, ⟨a4, c4, rfl, hof⟩, hbf⟩
  simp [results, Tryz.results55, go_sem, z1, z2]
end Go.Proofs.YtmbakobindjjmaaGreatDoor
