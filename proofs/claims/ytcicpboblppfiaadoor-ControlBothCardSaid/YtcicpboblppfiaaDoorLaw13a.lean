
/- The statements of layer 13: what is fixed. -/
import Derived.Test.YtcicpboblppfiaaDoorCtl4
import Derived.Test.YtcicpboblppfiaaDoorCtlL
import Derived.Test.YtcicpboblppfiaaDoorHlaw
namespace Go.Proofs.YtcicpboblppfiaaDoor
open Go.RowKit Go.Dr

theorem Read_at (c : Ctl) (l : List F) (hc : readC l = c) (v : Value) (w : World) (h : Fs w.heap.size w v l) (hl : fsum l ≤ 1099511627776) :
    Calls Tryd.prog 35 #[v] w fun e w' => e = .returned c.val ∧ Below w.heap.size w w' := by
  subst hc
  exact Read_any l v w h hl
theorem fsum_wakeC : fsum wakeC ≤ 1099511627776 := by decide

set_option maxRecDepth 100000 in
set_option maxHeartbeats 1000000 in
theorem awake13_any (w : World) : Calls Tryd.prog 33 #[] w fun e w' => e = .returned (.bool true) ∧ Below w.heap.size w w' := by
  go_enter Tryd.func33, Tryd.ntmps33
  go_wp2_with fail
  refine (Read_at _ wakeC readC_wake _ _ (Fs.own (World.ownsRow_lit (base := w.heap.size) (e := 45) (size := 3) w (fcells wakeC).toArray 1 (Nat.le_refl _) (by decide) rfl)) fsum_wakeC).mono ?_
  rintro e w1 ⟨rfl, hb1⟩
  have hd := Directive_any [65, 61, 34, 98, 34] (w1.alloc (.cells ({ Ctl.none with ma := 60, pr := true } : Ctl).cells 66)) (by decide)
  rw [directive_wake] at hd
  have HD := Lib.hid hd
  clear hd
  go_wp2_with fail
  refine HD.out.mono ?_
  rintro e w2 ⟨rfl, hb2⟩
  have hC := (Blk.new w1 66 ({ Ctl.none with ma := 60, pr := true } : Ctl).cells).on hb2
  have g4 : w2.cell? ⟨w1.heap.size, 4, none⟩ = some (.bool true) := hC.cell 4
  have g8 : w2.cell? ⟨w1.heap.size, 8, none⟩ = some (.int .i64 60) := hC.cell 8
  have g9 : w2.cell? ⟨w1.heap.size, 9, none⟩ = some (.int .i64 (-1)) := hC.cell 9
  go_wp2
  go_ret
  exact ⟨rfl, Bl.tr (((Below.refl w.heap.size w).alloc (Nat.le_refl _) _).trans (hb1.mono (by simp))) (((Below.refl w1.heap.size w1).alloc (Nat.le_refl _) _).trans (hb2.mono (by simp)))⟩
end Go.Proofs.YtcicpboblppfiaaDoor
