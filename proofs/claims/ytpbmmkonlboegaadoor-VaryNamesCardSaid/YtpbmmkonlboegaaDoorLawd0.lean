
/- Two texts' lists that are the same. -/
import Derived.Test.YtpbmmkonlboegaaDoorOct
namespace Go.Proofs.YtpbmmkonlboegaaDoor
open Go.RowKit Go.Dr
theorem same_comm (a b : Bytes) : same a b = same b a := by
  unfold same; exact Bool.beq_comm
theorem among_any (el : Bytes) (l : List Bytes) : (l.any fun x => same x el) = among el l := by
  unfold among; congr 1; funext x; exact same_comm x el
theorem Texts_at (a : List Bytes) (va vb : Value) (w : World) (ha : Ss w.heap.size w va a) (hb : Ss w.heap.size w vb a) :
    Calls Tryd.prog 24 #[va, vb] w fun e w' => e = .returned (.bool true) ∧ Below w.heap.size w w' :=
  (Texts_any a a va vb w ha hb).mono fun _ _ ⟨h1, h2⟩ => ⟨by rw [h1, beq_self_eq_true], h2⟩
end Go.Proofs.YtpbmmkonlboegaaDoor
