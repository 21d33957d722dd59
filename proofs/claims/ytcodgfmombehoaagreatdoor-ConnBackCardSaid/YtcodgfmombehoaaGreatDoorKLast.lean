/- Parts of the proof of bk_root: the texts Law22B Cbk. -/
import Derived.Test.YtcodgfmombehoaaGreatDoorK49
set_option linter.unusedSimpArgs false
set_option linter.unusedVariables false
set_option linter.unnecessarySimpa false
set_option maxRecDepth 100000
set_option maxHeartbeats 64000000
namespace Go.Proofs.YtcodgfmombehoaaGreatDoor
open Go Go.RowKit Go.Dr
theorem back22_law (body : Bytes) (xs : List Nat) (k : Int) (hk : 0 ≤ k ∧ k ≤ 65535) (vx : Value) (w : World) (hx : Hs w.heap.size w vx xs) (hxb : ∀ n ∈ xs, n ≤ 65535) : Calls Tryz.prog 3 #[S body, vx, .int .u16 k] w fun e w' => e = .returned (.bool true) ∧ Below w.heap.size w w' := by
 obtain ⟨v, rfl⟩ := Int.eq_ofNat_of_zero_le hk.1;exact back22_any body xs v (by omega) vx w hx hxb
open Go Go.RowKit Go.Dr
theorem bk_root : True := by
 have h1 := @back22_law;have h2 := @open_S;have h3 := @open_Hs;have h6 := @law_post;have h7 := @wf_u16
 trivial
end Go.Proofs.YtcodgfmombehoaaGreatDoor
