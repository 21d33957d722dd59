
/- The walks of digits in base ten: the program's and the reference's. -/
import Derived.Test.YtghggooaaefdcabGreatDoorPla
import Derived.Test.YtghggooaaefdcabGreatDoorBase
import Derived.Test.YtghggooaaefdcabGreatDoorOct
namespace Go.Dr
set_option linter.unusedVariables false in
/-- A number's text. -/
def digs (n : Nat) : Bytes := if h : n < 10 then [dg n] else digs (n / 10) ++ [dg n]
decreasing_by omega
theorem digs_small {n : Nat} (h : n < 10) : digs n = [dg n] := by rw [digs, dif_pos h]
theorem digs_step {n : Nat} (h : ¬ n < 10) : digs n = digs (n / 10) ++ [dg n] := by rw [digs, dif_neg h]
theorem dg_mod (m : Nat) : dg (m % 10) = dg m := by unfold dg; rw [Nat.mod_mod]
theorem idx_hex {P : Program} (t : TypeId) (ht : P.underlying t = some .string) (z : Int) (m : Nat) (hz : z = (m : Int) % 10) (w : World) :
    (Instr.index t (.string ⟨#[48, 49, 50, 51, 52, 53, 54, 55, 56, 57, 97, 98, 99, 100, 101, 102]⟩) (.int .i64 z)).run P w = .ok (B8 (dg m)) w := by
  obtain ⟨i, hi, hzi, e⟩ : ∃ i : Nat, i < 10 ∧ z = (i : Int) ∧ dg i = dg m := ⟨m % 10, by omega, by omega, dg_mod m⟩
  rw [← e]
  subst hzi
  rw [run_index_string w t _ .i64 _ ht, dif_pos ⟨by omega, by show (i : Int) < 16; omega⟩]
  match i, hi with
  | 0, _ | 1, _ | 2, _ | 3, _ | 4, _ | 5, _ | 6, _ | 7, _ | 8, _ | 9, _ => rfl
theorem digs_length (n : Nat) : ∀ k, n < 10 ^ (k + 1) → (digs n).length ≤ k + 1 := by
  induction n using Nat.strongRecOn with
  | _ n ih =>
    intro k hk
    by_cases h : n < 10
    · rw [digs_small h]; simp
    · rw [digs_step h, List.length_append]
      match k with
      | 0 => simp at hk; omega
      | k + 1 =>
        have := ih (n / 10) (by omega) k (by rw [Nat.pow_succ] at hk; omega)
        simp; omega
/-- Where the text of n is begun from its end: T stands, v is still to be said. -/
def digsP (v : Nat) (T : Bytes) : Bytes := if v = 0 ∧ T ≠ [] then T else digs v ++ T
theorem digsP_step (v : Nat) (T : Bytes) (h : 0 < v ∨ T = []) : digsP (v / 10) (dg v :: T) = digsP v T := by
  have e : digsP v T = digs v ++ T := by
    unfold digsP
    rw [if_neg]
    rintro ⟨h1, h2⟩
    rcases h with h | h
    · omega
    · exact h2 h
  rw [e]
  unfold digsP
  by_cases h10 : v < 10
  · rw [if_pos ⟨by omega, by simp⟩, digs_small h10]; rfl
  · rw [if_neg (by omega), digs_step h10, List.append_assoc]; rfl
theorem digsP_zero (T : Bytes) (h : T ≠ []) : digsP 0 T = T := by unfold digsP; rw [if_pos ⟨rfl, h⟩]
theorem len_bound {v k n : Nat} (h : v * 10 ^ k ≤ n) (hn : n ≤ 9223372036854775807) (hv : 0 < v ∨ k = 0) : k ≤ 18 := by
  rcases hv with hv | hv
  · by_cases hk : k ≤ 18
    · exact hk
    · have h1 : 10 ^ 19 ≤ 10 ^ k := Nat.pow_le_pow_right (by decide) (by omega)
      have h2 : 1 * 10 ^ k ≤ v * 10 ^ k := Nat.mul_le_mul_right _ hv
      have h3 : (10 : Nat) ^ 19 = 10000000000000000000 := by decide
      omega
  · omega
theorem pow_next (v k n : Nat) (h : v * 10 ^ k ≤ n) : v / 10 * 10 ^ (k + 1) ≤ n := by
  have h1 : v / 10 * 10 ≤ v := by omega
  have h2 : v / 10 * 10 * 10 ^ k ≤ v * 10 ^ k := Nat.mul_le_mul_right _ h1
  rw [Nat.pow_succ, Nat.mul_comm (10 ^ k), ← Nat.mul_assoc]
  omega
def emptyN (v : Value) : Nat := match v with | .string b => if b.size = 0 then 1 else 0 | _ => 0
end Go.Dr
namespace Go.Proofs.YtghggooaaefdcabGreatDoor
open Go.RowKit Go.Dr

theorem set_tail {xs : Array Value} {k : Nat} {T : Bytes} {c : UInt8} (hs : xs.size = 64) (hk : k + 1 + T.length = 64) (h : ∀ j (hj : j < T.length), xs[k + 1 + j]? = some (B8 T[j])) :
    ∀ j (hj : j < (c :: T).length), (xs.setIfInBounds k (B8 c))[k + j]? = some (B8 (c :: T)[j]) := by
  intro j hj
  rw [Array.getElem?_setIfInBounds]
  cases j with
  | zero => simp; omega
  | succ j =>
    rw [if_neg (by omega), show k + (j + 1) = k + 1 + j by omega]
    exact h j (by simpa using hj)

end Go.Proofs.YtghggooaaefdcabGreatDoor
