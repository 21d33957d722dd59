
/- Two numbers of sixteen bits that came in. -/
import Derived.Test.YtmbakobindjjmaaGreatDoorOpen
namespace Go.Dr
open Go.RowKit Go.ChangeShapes Go.WideShapes Go.Deep
section
variable {H : Type} {enc : TypeId × Value → H} {P : Program} {w : World} {base : Nat} {spare : Nat → Bool} {held : Bool}
theorem open_HH {r : Reach} {b0 : Nat} {t e : TypeId} {v : Value} {d : DataW H} {ps : List MemPlace} (ht : P.underlying t = some (.array 2 e)) (he : P.underlying e = some (.int .u16)) (hC : P.cellsOf t = 2) (hCe : P.cellsOf e = 1)
    (hval : Value.okWide P w r b0 t v) (hd : DataW.Trod enc P w base spare held t v d ps) : ∃ x y : Int, v = .agg #[.int .u16 x, .int .u16 y] ∧ (0 ≤ x ∧ x ≤ 65535) ∧ (0 ≤ y ∧ y ≤ 65535) := by
  have hv := hval
  simp only [Value.okWide, ht] at hv
  obtain ⟨cs, rfl, hsz, _⟩ := hv
  obtain ⟨cl⟩ := cs
  match cl, hsz.trans hC with
  | [c0, c1], _ =>
    obtain ⟨fuel, hf⟩ := hd
    obtain ⟨xs, m, _, _, _, hlen, hg⟩ := DataW.trod_array ht hf
    match xs, hlen with
    | [y0, y1], _ =>
      have t0 := hg 0 (by omega)
      have t1 := hg 1 (by omega)
      rw [hCe] at t0 t1
      simp [Value.cells] at t0 t1
      obtain ⟨x, e0, w0⟩ := el_int he t0
      obtain ⟨y, e1, w1⟩ := el_int he t1
      simp only [List.cons.injEq, and_true] at e0 e1
      subst e0 e1
      exact ⟨x, y, rfl, wf_u16 w0, wf_u16 w1⟩
end
end Go.Dr
