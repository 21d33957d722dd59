
/- Lists of small numbers that come in. -/
import Derived.Test.YtghggooaaefdcaaDoorOpen
namespace Go.Dr
open Go.RowKit Go.ChangeShapes Go.WideShapes Go.Deep Go.Joins
abbrev H16 (n : Nat) : Value := .int .u16 (n : Int)
/-- The numbers of a slice, read. -/
def Hs (B : Nat) (w : World) (v : Value) (l : List Nat) : Prop := Rd B w 1 v l.length (l.map H16)
theorem Hs.below {B : Nat} {w w' : World} {v : Value} {l : List Nat} (h : Hs B w v l) (hb : Below B w w') : Hs B w' v l := Rd.below h hb
theorem Hs.mono {B B' : Nat} {w : World} {v : Value} {l : List Nat} (h : Hs B w v l) (hB : B ≤ B') : Hs B' w v l := Rd.mono h hB
theorem Hs.form {B : Nat} {w : World} {v : Value} {l : List Nat} (h : Hs B w v l) : ∃ a cap, v = .slice a l.length cap ∧ l.length ≤ 9223372036854775807 := by
  obtain ⟨a, cap, h1, h2, h3, h4, h5, h6⟩ := h
  exact ⟨a, cap, h1, by unfold maxLen at h3; omega⟩
theorem Hs.at {B : Nat} {w : World} {a : Option Addr} {n cap : Nat} {l : List Nat} (h : Hs B w (.slice a n cap) l) (k : Nat) (hk : k < l.length) :
    ∃ b off, a = some ⟨b, off, none⟩ ∧ b < B ∧ w.cell? ⟨b, off + k, none⟩ = some (H16 l[k]) := by
  obtain ⟨a', cap', h1, h2, h3, h4, h5, h6⟩ := h
  simp only [Value.slice.injEq] at h1
  obtain ⟨rfl, rfl, rfl⟩ := h1
  obtain ⟨b, off, rfl, hb, c0⟩ := h6 k _ (by rw [List.getElem?_map, List.getElem?_eq_getElem hk]; rfl)
  exact ⟨b, off, rfl, hb, c0⟩
section
variable {H : Type} {enc : TypeId × Value → H} {P : Program} {w : World} {base : Nat} {spare : Nat → Bool} {held : Bool}
theorem flat_H16 (l : List Nat) : l.flatMap (fun n => [H16 n]) = l.map H16 := by
  induction l with
  | nil => rfl
  | cons a l ih => rw [List.flatMap_cons, ih]; rfl
theorem open_Hs {r : Reach} {b0 : Nat} {t e : TypeId} {v : Value} {d : DataW H} {ps : List MemPlace} (ht : P.underlying t = some (.slice e)) (he : P.underlying e = some (.int .u16)) (hC : P.cellsOf e = 1)
    (hval : Value.okWide P w r b0 t v) (hd : DataW.Trod enc P w base spare held t v d ps) (hw : (d.weights P t).all (· ≤ reachBytes) = true) :
    ∃ l : List Nat, Hs w.heap.size w v l ∧ (∀ n ∈ l, n ≤ 65535) := by
  obtain ⟨a, len, cap, rfl⟩ := okWide_slice ht hval
  obtain ⟨fuel, hf⟩ := hd
  obtain ⟨v, l, hv, h1, h2, h3⟩ := open_seq (α := Nat) (hs0 := by decide) 1 (fun n => [H16 n]) (fun n => n ≤ 65535) hC (fun _ => rfl) (fun m cs' y hy _ => by
    obtain ⟨n, rfl, -, hwf⟩ := DataW.trod_int he hy
    have := wf_u16 hwf
    refine ⟨n.toNat, ?_, by omega⟩
    show _ = [Value.int .u16 ((n.toNat : Nat) : Int)]
    rw [Int.toNat_of_nonneg this.1]) ht hf hw
  simp only [Value.cells, List.cons.injEq, and_true] at hv
  subst hv
  rw [flat_H16] at h1
  exact ⟨l, h1, h2⟩
end
end Go.Dr
