
/- ControlBoth, put together. -/
import Derived.Test.YtcicpboblppfiaaDoorLaw13c
import Derived.Test.YtcicpboblppfiaaDoorLaw13g
import Derived.Test.YtcicpboblppfiaaDoorLaw13h
import Derived.Test.YtcicpboblppfiaaDoorLaw13i
namespace Go.Proofs.YtcicpboblppfiaaDoor
open Go.RowKit Go.Dr

theorem ControlBoth_any (a b : List F) (va vb : Value) (w : World) (h : Fs w.heap.size w va a) (h' : Fs w.heap.size w vb b) (hb : ∀ f ∈ a, f.n.length ≤ 140737488355328 ∧ f.v.length ≤ 140737488355328)
    (hb' : ∀ f ∈ b, f.n.length ≤ 140737488355328 ∧ f.v.length ≤ 140737488355328) :
    Calls Tryd.prog 9 #[va, vb] w fun e w' => e = .returned (.bool true) ∧ Below w.heap.size w w' := by
  rcases k1 : (readC a).ns with _ | _ <;> rcases k2 : (readC a).nc with _ | _
  · exact bothFF a b va vb w h h' hb hb' k1 k2
  · exact bothFT a b va vb w h h' hb hb' k1 k2
  · exact bothTF a b va vb w h h' hb hb' k1 k2
  · exact bothTT a b va vb w h h' hb hb' k1 k2
end Go.Proofs.YtcicpboblppfiaaDoor
