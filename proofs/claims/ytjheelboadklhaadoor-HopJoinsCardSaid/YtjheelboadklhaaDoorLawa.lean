/- The walks of the statements of layer 11: what is fixed. -/
import Derived.Test.YtjheelboadklhaaDoorHop5
namespace Go.Proofs.YtjheelboadklhaaDoor
open Go.RowKit Go.Dr

def wake1 : Bytes := [97, 44, 32, 98, 32, 44, 44, 99]
theorem elems_wake : elems wake1 = [[97], [98], [99]] := by decide
def wake2 : List F := [⟨[67, 111, 110, 110, 101, 99, 116, 105, 111, 110], [88, 45, 65], false⟩, ⟨[120, 45, 97], [49], false⟩, ⟨[98], [50], false⟩]
theorem strip_wake : strip wake2 = [⟨[98], [50], false⟩] := by decide +kernel
theorem fsum_wake : fsum wake2 ≤ 549755813888 := by decide

set_option maxRecDepth 100000 in
set_option maxHeartbeats 1000000 in
theorem awake_any (w : World) : Calls Tryd.prog 8 #[] w fun e w' => e = .returned (.bool true) ∧ Below w.heap.size w w' := by
  go_enter Tryd.func8, Tryd.ntmps8
  go_wp2_with fail
  refine (Elements_any wake1 w (by decide)).mono ?_
  rintro e w1 ⟨v1, rfl, hv1, hb1⟩
  rw [elems_wake] at hv1
  go_wp2_with fail
  refine (Strip_any wake2 _ _ (Fs.own (World.ownsRow_lit (base := w1.heap.size) (e := 35) (size := 3) w1 (fcells wake2).toArray 3 (Nat.le_refl _) (by decide) rfl)) fsum_wake).mono ?_
  rintro e w2 ⟨v2, rfl, hv2, hb2⟩
  rw [strip_wake] at hv2
  have hr1 : Ss w1.heap.size w1 v1 [[97], [98], [99]] := Ss.own hv1
  have hr2 : Fs w2.heap.size w2 v2 [⟨[98], [50], false⟩] := Fs.own hv2
  obtain ⟨p1, c1, rfl, -⟩ := hr1.form
  obtain ⟨p2, c2, rfl, -⟩ := hr2.form
  have hw2 : Below w1.heap.size w1 w2 := ((Below.refl _ _).alloc (Nat.le_refl _) _).trans (hb2.mono (by simp))
  obtain ⟨b1, o1, rfl, hlt1, ce1⟩ := (hr1.below hw2).at 1 (by decide)
  obtain ⟨b2, o2, rfl, hlt2, ce2, -, -⟩ := hr2.at 0 (by decide)
  simp at ce1 ce2
  go_wp2_with fail
  go_ret
  exact ⟨rfl, Bl.tr hb1 hw2⟩

end Go.Proofs.YtjheelboadklhaaDoor
