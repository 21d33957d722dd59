
/- Texts in one, with ', ' between: the plain words, and strings.Join. -/
import Derived.Test.YtnflihjgbkocnaaDoorHop
namespace Go.Proofs.YtnflihjgbkocnaaDoor
open Go.RowKit Go.Dr

/-- The values in one, with ', ' between. -/
def joinS (v : List Bytes) : Bytes := Lib.join v [44, 32]

theorem joinS_nil : joinS [] = [] := rfl
theorem lens_ssum (r : List Bytes) : Lib.lens r + r.length = ssum r := by
  induction r with
  | nil => rfl
  | cons y r ih => simp only [Lib.lens, List.map_cons, List.sum_cons, List.length_cons, ssum] at *; omega
theorem joinS_length (vs : List Bytes) : (joinS vs).length ≤ 2 * ssum vs := by
  cases vs with
  | nil => simp [joinS_nil]
  | cons x r =>
    have := Lib.join_length x r [44, 32]
    have h2 := lens_ssum (x :: r)
    simp only [joinS, List.length_cons, List.length_nil] at *
    omega

set_option maxRecDepth 100000 in
set_option maxHeartbeats 1000000 in
theorem Joins_any (vs : List Bytes) (v : Value) (w : World) (h : Ss w.heap.size w v vs) (hl : ssum vs ≤ 1099511627776) :
    Calls Tryd.prog 49 #[v, S [44, 32]] w fun e w' => e = .returned (S (joinS vs)) ∧ Below w.heap.size w w' := by
  have hbnd := joinS_length vs
  obtain ⟨a, cap, rfl, h2, h3, h4, h5, h6⟩ := h
  cases vs with
  | nil =>
    refine (Tryd.strings_Join_none a cap ⟨#[44, 32]⟩ w).mono ?_
    rintro e w' ⟨rfl, rfl⟩
    exact ⟨rfl, Below.refl _ _⟩
  | cons x r =>
    obtain ⟨b, off, rfl, hb, _⟩ := h6 0 (S x) rfl
    have hmap : ((x :: r).map fun l => (⟨l.toArray⟩ : ByteArray)).map (·.data.toList) = x :: r := by
      rw [List.map_map]
      conv => rhs; rw [← List.map_id (x :: r)]
      rfl
    have hlen := ssum_length (x :: r)
    have hc := Tryd.strings_Join b off cap ((x :: r).map fun l => ⟨l.toArray⟩) ⟨#[44, 32]⟩ w (fun j y hy => by
      rw [List.getElem?_map] at hy
      cases hj : (x :: r)[j]? with
      | none => rw [hj] at hy; cases hy
      | some z =>
        rw [hj] at hy
        obtain rfl := Option.some.inj hy
        obtain ⟨b', off', e1, _, e3⟩ := h6 j (S z) (by rw [List.getElem?_map, hj]; rfl)
        simp only [Option.some.injEq, Addr.mk.injEq, and_true] at e1
        obtain ⟨rfl, rfl⟩ := e1
        exact e3) hb (by rw [List.length_map]; omega) (by rw [List.length_map]; exact h2)
      (by rw [hmap]; show (joinS (x :: r)).length ≤ _; omega)
    rw [hmap, List.length_map] at hc
    exact hc

theorem joinS_take (vs : List Bytes) (k : Nat) (h : k < vs.length) : joinS (vs.take (k + 1)) = joinS (vs.take k) ++ (if 0 < k then [44, 32] else []) ++ vs[k] := by
  cases vs with
  | nil => simp at h
  | cons x r =>
    cases k with
    | zero => simp [joinS, Lib.join_one, Lib.join_nil]
    | succ k =>
      have hk : k < r.length := by simpa using h
      have := Lib.joinTail_take_succ [44, 32] r k r[k] (List.getElem?_eq_getElem hk)
      simp only [joinS, List.take_succ_cons, Lib.join_cons, List.getElem_cons_succ, Nat.zero_lt_succ, if_true]
      rw [this]
      simp

end Go.Proofs.YtnflihjgbkocnaaDoor
