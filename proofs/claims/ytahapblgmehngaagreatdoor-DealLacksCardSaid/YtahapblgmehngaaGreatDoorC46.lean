/- Parts of the proof of DealLacks_holds: the texts Shf5. -/
import Derived.Deep.DeepCutAuto
import Derived.Test.YtahapblgmehngaaGreatDoorC29
import Derived.Test.YtahapblgmehngaaGreatDoorC31
set_option linter.unusedSimpArgs false
set_option linter.unusedVariables false
set_option linter.unnecessarySimpa false
namespace Go.Proofs.YtahapblgmehngaaGreatDoor
open Go.RowKit Go.Dr

set_option maxRecDepth 100000 in
set_option maxHeartbeats 4000000 in
theorem Same_zero (w : World) : Calls Tryz.prog 22 #[entZ, entZ] w fun e w' => e = .returned (.bool true) ∧ Below w.heap.size w w' := by
  obtain ⟨w1, ew1⟩ : ∃ w1 : World, w1 = w.alloc (.cells #[S [], .slice none 0 0, .int .i64 0, .slice none 0 0, S [], .int .i64 0, .int .i64 0] 36) := ⟨_, rfl⟩
  have hs1 : w1.heap.size = w.heap.size + 1 := by rw [ew1]; simp
  obtain ⟨w0, ew⟩ : ∃ w0 : World, w0 = w1.alloc (.cells #[S [], .slice none 0 0, .int .i64 0, .slice none 0 0, S [], .int .i64 0, .int .i64 0] 36) := ⟨_, rfl⟩
  have hA : Blk w0 w.heap.size 36 #[S [], .slice none 0 0, .int .i64 0, .slice none 0 0, S [], .int .i64 0, .int .i64 0] := by rw [ew, ew1]; exact (Blk.new _ _ _).alloc _
  have hB : Blk w0 (w.heap.size + 1) 36 #[S [], .slice none 0 0, .int .i64 0, .slice none 0 0, S [], .int .i64 0, .int .i64 0] := by
    rw [ew]
    have := Blk.new w1 36 #[S [], .slice none 0 0, .int .i64 0, .slice none 0 0, S [], .int .i64 0, .int .i64 0]
    rwa [hs1] at this
  have hb0 : Below w.heap.size w w0 := by rw [ew, ew1]; exact ((Below.refl _ _).alloc (Nat.le_refl _) _).alloc (by simp) _
  rw [ew1] at ew
  clear ew1 hs1 w1
  have HP := Lib.hid (fun w => PSame_any [] [] (.slice none 0 0) (.slice none 0 0) w (Rd.nil _ _ _) (Rd.nil _ _ _))
  have HF := Lib.hid (fun w => Fields_any [] [] (.slice none 0 0) (.slice none 0 0) w (Rd.nil _ _ _) (Rd.nil _ _ _))
  go_enter Tryz.func22, Tryz.ntmps22
  go_upto_region 1 with fail
  rw [← ew]
  clear ew
  (have x0 : w0.cell? ⟨w.heap.size, 0, none⟩ = some (S []) := hA.cell 0; have x1 : w0.cell? ⟨w.heap.size, 1, none⟩ = some (.slice none 0 0) := hA.cell 1; have x2 : w0.cell? ⟨w.heap.size, 2, none⟩ = some (.int .i64 0) := hA.cell 2; have x3 : w0.cell? ⟨w.heap.size, 3, none⟩ = some (.slice none 0 0) := hA.cell 3; have x4 : w0.cell? ⟨w.heap.size, 4, none⟩ = some (S []) := hA.cell 4; have x5 : w0.cell? ⟨w.heap.size, 5, none⟩ = some (.int .i64 0) := hA.cell 5; have x6 : w0.cell? ⟨w.heap.size, 6, none⟩ = some (.int .i64 0) := hA.cell 6)
  (have y0 : w0.cell? ⟨w.heap.size + 1, 0, none⟩ = some (S []) := hB.cell 0; have y1 : w0.cell? ⟨w.heap.size + 1, 1, none⟩ = some (.slice none 0 0) := hB.cell 1; have y2 : w0.cell? ⟨w.heap.size + 1, 2, none⟩ = some (.int .i64 0) := hB.cell 2; have y3 : w0.cell? ⟨w.heap.size + 1, 3, none⟩ = some (.slice none 0 0) := hB.cell 3; have y4 : w0.cell? ⟨w.heap.size + 1, 4, none⟩ = some (S []) := hB.cell 4; have y5 : w0.cell? ⟨w.heap.size + 1, 5, none⟩ = some (.int .i64 0) := hB.cell 5; have y6 : w0.cell? ⟨w.heap.size + 1, 6, none⟩ = some (.int .i64 0) := hB.cell 6)
  go_wp2_with fail
  refine (HP.out w0).mono ?_
  rintro e w2 ⟨rfl, hb2⟩
  have hA2 := hA.on hb2
  have hB2 := hB.on hb2
  have hw2 := Bl.tr hb0 hb2
  clear x0 x1 x2 x3 x4 x5 x6 y0 y1 y2 y3 y4 y5 y6
  (have x0 : w2.cell? ⟨w.heap.size, 0, none⟩ = some (S []) := hA2.cell 0; have x1 : w2.cell? ⟨w.heap.size, 1, none⟩ = some (.slice none 0 0) := hA2.cell 1; have x2 : w2.cell? ⟨w.heap.size, 2, none⟩ = some (.int .i64 0) := hA2.cell 2; have x3 : w2.cell? ⟨w.heap.size, 3, none⟩ = some (.slice none 0 0) := hA2.cell 3; have x4 : w2.cell? ⟨w.heap.size, 4, none⟩ = some (S []) := hA2.cell 4; have x5 : w2.cell? ⟨w.heap.size, 5, none⟩ = some (.int .i64 0) := hA2.cell 5; have x6 : w2.cell? ⟨w.heap.size, 6, none⟩ = some (.int .i64 0) := hA2.cell 6)
  (have y0 : w2.cell? ⟨w.heap.size + 1, 0, none⟩ = some (S []) := hB2.cell 0; have y1 : w2.cell? ⟨w.heap.size + 1, 1, none⟩ = some (.slice none 0 0) := hB2.cell 1; have y2 : w2.cell? ⟨w.heap.size + 1, 2, none⟩ = some (.int .i64 0) := hB2.cell 2; have y3 : w2.cell? ⟨w.heap.size + 1, 3, none⟩ = some (.slice none 0 0) := hB2.cell 3; have y4 : w2.cell? ⟨w.heap.size + 1, 4, none⟩ = some (S []) := hB2.cell 4; have y5 : w2.cell? ⟨w.heap.size + 1, 5, none⟩ = some (.int .i64 0) := hB2.cell 5; have y6 : w2.cell? ⟨w.heap.size + 1, 6, none⟩ = some (.int .i64 0) := hB2.cell 6)
  go_wp2_with fail
  refine (HF.out w2).mono ?_
  rintro e w3 ⟨rfl, hb3⟩
  have hA3 := hA2.on hb3
  have hB3 := hB2.on hb3
  have hw3 := Bl.tr hw2 hb3
  clear x0 x1 x2 x3 x4 x5 x6 y0 y1 y2 y3 y4 y5 y6
  (have x0 : w3.cell? ⟨w.heap.size, 0, none⟩ = some (S []) := hA3.cell 0; have x1 : w3.cell? ⟨w.heap.size, 1, none⟩ = some (.slice none 0 0) := hA3.cell 1; have x2 : w3.cell? ⟨w.heap.size, 2, none⟩ = some (.int .i64 0) := hA3.cell 2; have x3 : w3.cell? ⟨w.heap.size, 3, none⟩ = some (.slice none 0 0) := hA3.cell 3; have x4 : w3.cell? ⟨w.heap.size, 4, none⟩ = some (S []) := hA3.cell 4; have x5 : w3.cell? ⟨w.heap.size, 5, none⟩ = some (.int .i64 0) := hA3.cell 5; have x6 : w3.cell? ⟨w.heap.size, 6, none⟩ = some (.int .i64 0) := hA3.cell 6)
  (have y0 : w3.cell? ⟨w.heap.size + 1, 0, none⟩ = some (S []) := hB3.cell 0; have y1 : w3.cell? ⟨w.heap.size + 1, 1, none⟩ = some (.slice none 0 0) := hB3.cell 1; have y2 : w3.cell? ⟨w.heap.size + 1, 2, none⟩ = some (.int .i64 0) := hB3.cell 2; have y3 : w3.cell? ⟨w.heap.size + 1, 3, none⟩ = some (.slice none 0 0) := hB3.cell 3; have y4 : w3.cell? ⟨w.heap.size + 1, 4, none⟩ = some (S []) := hB3.cell 4; have y5 : w3.cell? ⟨w.heap.size + 1, 5, none⟩ = some (.int .i64 0) := hB3.cell 5; have y6 : w3.cell? ⟨w.heap.size + 1, 6, none⟩ = some (.int .i64 0) := hB3.cell 6)
  go_wp2
  go_ret
  exact ⟨rfl, hw3⟩
end Go.Proofs.YtahapblgmehngaaGreatDoor

