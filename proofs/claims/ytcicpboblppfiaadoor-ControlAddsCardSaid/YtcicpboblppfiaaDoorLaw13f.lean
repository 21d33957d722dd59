
/- ControlAdds, put together. -/
import Derived.Test.YtcicpboblppfiaaDoorLaw13e
namespace Go.Proofs.YtcicpboblppfiaaDoor
open Go.RowKit Go.Dr

set_option maxRecDepth 100000 in
set_option maxHeartbeats 1000000 in
theorem ControlAdds_any (l : List F) (n : Int) (v : Value) (w : World) (h : Fs w.heap.size w v l) (hb : ∀ f ∈ l, f.n.length ≤ 140737488355328 ∧ f.v.length ≤ 140737488355328)
    (hn : 0 ≤ n ∧ n ≤ 255) :
    Calls Tryd.prog 10 #[v, .int .u8 n] w fun e w' => e = .returned (.bool true) ∧ Below w.heap.size w w' := by
  by_cases hbig : 16384 < fbytes l
  · have HB := Lib.hid hb
    clear hb
    have hq : decide (16384 < (fbytes l : Int)) = true := by rw [decide_eq_true_iff]; omega
    clear hbig
    go_enter Tryd.func10, Tryd.ntmps10
    go_wp2_with fail
    refine (awake13_any _).mono ?_
    rintro e w1 ⟨rfl, hb1⟩
    go_wp2_with fail
    refine (FBytes_any l v _ ((h.below hb1).mono hb1.size) HB.out).mono ?_
    rintro e w2 ⟨rfl, hb2⟩
    go_wp2
    go_ret
    exact ⟨rfl, Bl.tr hb1 hb2⟩
  have hq : decide (16384 < (fbytes l : Int)) = false := by rw [decide_eq_false_iff_not]; omega
  have hsum : fsum l ≤ 16384 := by rw [fbytes_sum l (by omega)]; omega
  have h8 : n % 8 = 0 ∨ n % 8 = 1 ∨ n % 8 = 2 ∨ n % 8 = 3 ∨ n % 8 = 4 ∨ n % 8 = 5 ∨ n % 8 = 6 ∨ n % 8 = 7 := by omega
  rcases h8 with k | k | k | k | k | k | k | k
  · exact adds0 l n v w h hb hn.1 hn.2 k hq hsum
  · exact adds1 l n v w h hb hn.1 hn.2 k hq hsum
  · exact adds2 l n v w h hb hn.1 hn.2 k hq hsum
  · exact adds3 l n v w h hb hn.1 hn.2 k hq hsum
  · exact adds4 l n v w h hb hn.1 hn.2 k hq hsum
  · exact adds5 l n v w h hb hn.1 hn.2 k hq hsum
  · exact adds6 l n v w h hb hn.1 hn.2 k hq hsum
  · exact adds7 l n v w h hb hn.1 hn.2 k hq hsum
end Go.Proofs.YtcicpboblppfiaaDoor
