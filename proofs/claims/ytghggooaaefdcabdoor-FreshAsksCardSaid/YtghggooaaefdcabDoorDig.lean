
/- The walks of digits in base ten: the program's and the reference's. -/
import Derived.Test.YtghggooaaefdcabDoorPla
import Derived.Test.YtghggooaaefdcabDoorBase
import Derived.Test.YtghggooaaefdcabDoorOct
namespace Go.Dr
set_option linter.unusedVariables false in
/-- A number's text. -/
def digs (n : Nat) : Bytes := if h : n < 10 then [dg n] else digs (n / 10) ++ [dg n]
decreasing_by omega
theorem digs_small {n : Nat} (h : n < 10) : digs n = [dg n] := by rw [digs, dif_pos h]
theorem digs_step {n : Nat} (h : ¬ n < 10) : digs n = digs (n / 10) ++ [dg n] := by rw [digs, dif_neg h]
theorem dg_mod (m : Nat) : dg (m % 10) = dg m := by unfold dg; rw [Nat.mod_mod]
theorem idx_hex {P : Program} (t : TypeId) (ht : P.underlying t = some .string) (z : Int) (m : Nat) (hz : z = (m : Int) % 10) (w : World) :
    (Instr.index t (.string ⟨#[48, 49, 50, 51, 52, 53, 54, 55, 56, 57, 97, 98, 99, 100, 101, 102]⟩) (.int .i64 z)).run P w = .ok (B8 (dg m)) w := by
  obtain ⟨i, hi, hzi, e⟩ : ∃ i : Nat, i < 10 ∧ z = (i : Int) ∧ dg i = dg m := ⟨m % 10, by omega, by omega, dg_mod m⟩
  rw [← e]
  subst hzi
  rw [run_index_string w t _ .i64 _ ht, dif_pos ⟨by omega, by show (i : Int) < 16; omega⟩]
  match i, hi with
  | 0, _ | 1, _ | 2, _ | 3, _ | 4, _ | 5, _ | 6, _ | 7, _ | 8, _ | 9, _ => rfl
theorem digs_length (n : Nat) : ∀ k, n < 10 ^ (k + 1) → (digs n).length ≤ k + 1 := by
  induction n using Nat.strongRecOn with
  | _ n ih =>
    intro k hk
    by_cases h : n < 10
    · rw [digs_small h]; simp
    · rw [digs_step h, List.length_append]
      match k with
      | 0 => simp at hk; omega
      | k + 1 =>
        have := ih (n / 10) (by omega) k (by rw [Nat.pow_succ] at hk; omega)
        simp; omega
/-- Where the text of n is begun from its end: T stands, v is still to be said. -/
def digsP (v : Nat) (T : Bytes) : Bytes := if v = 0 ∧ T ≠ [] then T else digs v ++ T
theorem digsP_step (v : Nat) (T : Bytes) (h : 0 < v ∨ T = []) : digsP (v / 10) (dg v :: T) = digsP v T := by
  have e : digsP v T = digs v ++ T := by
    unfold digsP
    rw [if_neg]
    rintro ⟨h1, h2⟩
    rcases h with h | h
    · omega
    · exact h2 h
  rw [e]
  unfold digsP
  by_cases h10 : v < 10
  · rw [if_pos ⟨by omega, by simp⟩, digs_small h10]; rfl
  · rw [if_neg (by omega), digs_step h10, List.append_assoc]; rfl
theorem digsP_zero (T : Bytes) (h : T ≠ []) : digsP 0 T = T := by unfold digsP; rw [if_pos ⟨rfl, h⟩]
theorem len_bound {v k n : Nat} (h : v * 10 ^ k ≤ n) (hn : n ≤ 9223372036854775807) (hv : 0 < v ∨ k = 0) : k ≤ 18 := by
  rcases hv with hv | hv
  · by_cases hk : k ≤ 18
    · exact hk
    · have h1 : 10 ^ 19 ≤ 10 ^ k := Nat.pow_le_pow_right (by decide) (by omega)
      have h2 : 1 * 10 ^ k ≤ v * 10 ^ k := Nat.mul_le_mul_right _ hv
      have h3 : (10 : Nat) ^ 19 = 10000000000000000000 := by decide
      omega
  · omega
theorem pow_next (v k n : Nat) (h : v * 10 ^ k ≤ n) : v / 10 * 10 ^ (k + 1) ≤ n := by
  have h1 : v / 10 * 10 ≤ v := by omega
  have h2 : v / 10 * 10 * 10 ^ k ≤ v * 10 ^ k := Nat.mul_le_mul_right _ h1
  rw [Nat.pow_succ, Nat.mul_comm (10 ^ k), ← Nat.mul_assoc]
  omega
def emptyN (v : Value) : Nat := match v with | .string b => if b.size = 0 then 1 else 0 | _ => 0
end Go.Dr
namespace Go.Proofs.YtghggooaaefdcabDoor
open Go.RowKit Go.Dr

theorem set_tail {xs : Array Value} {k : Nat} {T : Bytes} {c : UInt8} (hs : xs.size = 64) (hk : k + 1 + T.length = 64) (h : ∀ j (hj : j < T.length), xs[k + 1 + j]? = some (B8 T[j])) :
    ∀ j (hj : j < (c :: T).length), (xs.setIfInBounds k (B8 c))[k + j]? = some (B8 (c :: T)[j]) := by
  intro j hj
  rw [Array.getElem?_setIfInBounds]
  cases j with
  | zero => simp; omega
  | succ j =>
    rw [if_neg (by omega), show k + (j + 1) = k + 1 + j by omega]
    exact h j (by simpa using hj)

set_option maxRecDepth 100000 in
set_option maxHeartbeats 2000000 in
theorem refDigits_any (n : Nat) (w : World) (hn : n ≤ 9223372036854775807) : Calls Tryd.prog 6 #[.int .i64 n, .int .i64 10] w fun e w' => e = .returned (S (digs n)) ∧ Below w.heap.size w w' := by
  go_enter Tryd.func6, Tryd.ntmps6
  go_wp2
  go_loopw [0, 5] (fun v s wr => ∃ (m : Nat) (T : Bytes), v = .int .i64 m ∧ s = S T ∧ Hid (digsP m T = digs n) ∧ m * 10 ^ T.length ≤ n ∧ Below w.heap.size w wr) (fun v s _ => 2 * (intOf v).toNat + emptyN s)
  case atStart => exact ⟨n, [], rfl, rfl, by show digsP n [] = digs n; unfold digsP; simp, by simp, Below.refl _ _⟩
  case round =>
    obtain ⟨m, T, rfl, rfl, HD, hle, hbel⟩ := hrel
    have hm64 : m ≤ 9223372036854775807 := by
      have : 0 < 10 ^ T.length := Nat.pow_pos (by decide)
      have := Nat.le_mul_of_pos_right m this
      omega
    have hcv : ∀ (m : Nat) (w' : World), w'.cell? ⟨wr.heap.size, 0, none⟩ = some (.int .u8 ((m : Int) % 10 + 48)) → (convert 40 9 (.slice (some ⟨wr.heap.size, 0, none⟩) 1 1)).run Tryd.prog w' = .ok (S [dg m]) w' := fun m w' hc =>
      run_convert_bytes_back w' _ _ 5 ⟨wr.heap.size, 0, none⟩ 1 [dg m] Tryd.underlying40 Tryd.underlying5 Tryd.underlying9 (fun j hj => by
        have : j = 0 := by simp at hj; omega
        subst this
        rw [Addr.add_lit]
        show w'.cell? ⟨wr.heap.size, 0, none⟩ = some (B8 (dg m))
        rw [hc]
        have := dg_nat m
        congr 2
        omega)
    have hal : ∀ o : Obj, Below w.heap.size w (wr.alloc o) := fun o => hbel.alloc hbel.size o
    by_cases h0 : m = 0
    · subst h0
      have hcv := hcv 0
      cases T with
      | nil =>
        have HD2 : Hid (digsP 0 [dg 0] = digs n) := by show _ = _; rw [← HD.out]; exact digsP_step 0 [] (.inr rfl)
        go_wp2
        go_roundw
        case rel => exact ⟨0, [dg 0], rfl, rfl, HD2, by simp, hal _⟩
        case measure => simp [intOf, emptyN, ByteArray.size]
      | cons x r =>
        have HD2 : Hid (x :: r = digs n) := by show _ = _; rw [← HD.out, digsP_zero _ (by simp)]
        go_wp2
        go_ret
        exact ⟨ret_S HD2.out, hbel⟩
    · have hlen := len_bound hle hn (.inl (by omega))
      have hcv := hcv m
      have HD2 : Hid (digsP (m / 10) (dg m :: T) = digs n) := by show _ = _; rw [digsP_step m T (.inl (by omega))]; exact HD.out
      have hle2 := pow_next m T.length n hle
      go_wp2
      all_goals first | (exfalso; omega) | skip
      go_roundw
      case rel => exact ⟨m / 10, dg m :: T, by go_num, rfl, HD2, by simpa using hle2, hal _⟩
      case measure => simp [intOf, emptyN, ByteArray.size]; omega
end Go.Proofs.YtghggooaaefdcabDoor
