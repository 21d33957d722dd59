
/- The walks of digits in base ten: the program's and the reference's. -/
import Derived.Test.YtghggooaaefdcaaDoorPla
import Derived.Test.YtghggooaaefdcaaDoorBase
import Derived.Test.YtghggooaaefdcaaDoorOct
namespace Go.Dr
set_option linter.unusedVariables false in
/-- A number's text. -/
def digs (n : Nat) : Bytes := if h : n < 10 then [dg n] else digs (n / 10) ++ [dg n]
decreasing_by omega
theorem digs_small {n : Nat} (h : n < 10) : digs n = [dg n] := by rw [digs, dif_pos h]
theorem digs_step {n : Nat} (h : ¬ n < 10) : digs n = digs (n / 10) ++ [dg n] := by rw [digs, dif_neg h]
theorem dg_mod (m : Nat) : dg (m % 10) = dg m := by unfold dg; rw [Nat.mod_mod]
theorem idx_hex {P : Program} (t : TypeId) (ht : P.underlying t = some .string) (z : Int) (m : Nat) (hz : z = (m : Int) % 10) (w : World) :
    (Instr.index t (.string ⟨#[48, 49, 50, 51, 52, 53, 54, 55, 56, 57, 97, 98, 99, 100, 101, 102]⟩) (.int .i64 z)).run P w = .ok (B8 (dg m)) w := by
  obtain ⟨i, hi, hzi, e⟩ : ∃ i : Nat, i < 10 ∧ z = (i : Int) ∧ dg i = dg m := ⟨m % 10, by omega, by omega, dg_mod m⟩
  rw [← e]
  subst hzi
  rw [run_index_string w t _ .i64 _ ht, dif_pos ⟨by omega, by show (i : Int) < 16; omega⟩]
  match i, hi with
  | 0, _ | 1, _ | 2, _ | 3, _ | 4, _ | 5, _ | 6, _ | 7, _ | 8, _ | 9, _ => rfl
theorem digs_length (n : Nat) : ∀ k, n < 10 ^ (k + 1) → (digs n).length ≤ k + 1 := by
  induction n using Nat.strongRecOn with
  | _ n ih =>
    intro k hk
    by_cases h : n < 10
    · rw [digs_small h]; simp
    · rw [digs_step h, List.length_append]
      match k with
      | 0 => simp at hk; omega
      | k + 1 =>
        have := ih (n / 10) (by omega) k (by rw [Nat.pow_succ] at hk; omega)
        simp; omega
/-- Where the text of n is begun from its end: T stands, v is still to be said. -/
def digsP (v : Nat) (T : Bytes) : Bytes := if v = 0 ∧ T ≠ [] then T else digs v ++ T
theorem digsP_step (v : Nat) (T : Bytes) (h : 0 < v ∨ T = []) : digsP (v / 10) (dg v :: T) = digsP v T := by
  have e : digsP v T = digs v ++ T := by
    unfold digsP
    rw [if_neg]
    rintro ⟨h1, h2⟩
    rcases h with h | h
    · omega
    · exact h2 h
  rw [e]
  unfold digsP
  by_cases h10 : v < 10
  · rw [if_pos ⟨by omega, by simp⟩, digs_small h10]; rfl
  · rw [if_neg (by omega), digs_step h10, List.append_assoc]; rfl
theorem digsP_zero (T : Bytes) (h : T ≠ []) : digsP 0 T = T := by unfold digsP; rw [if_pos ⟨rfl, h⟩]
theorem len_bound {v k n : Nat} (h : v * 10 ^ k ≤ n) (hn : n ≤ 9223372036854775807) (hv : 0 < v ∨ k = 0) : k ≤ 18 := by
  rcases hv with hv | hv
  · by_cases hk : k ≤ 18
    · exact hk
    · have h1 : 10 ^ 19 ≤ 10 ^ k := Nat.pow_le_pow_right (by decide) (by omega)
      have h2 : 1 * 10 ^ k ≤ v * 10 ^ k := Nat.mul_le_mul_right _ hv
      have h3 : (10 : Nat) ^ 19 = 10000000000000000000 := by decide
      omega
  · omega
theorem pow_next (v k n : Nat) (h : v * 10 ^ k ≤ n) : v / 10 * 10 ^ (k + 1) ≤ n := by
  have h1 : v / 10 * 10 ≤ v := by omega
  have h2 : v / 10 * 10 * 10 ^ k ≤ v * 10 ^ k := Nat.mul_le_mul_right _ h1
  rw [Nat.pow_succ, Nat.mul_comm (10 ^ k), ← Nat.mul_assoc]
  omega
def emptyN (v : Value) : Nat := match v with | .string b => if b.size = 0 then 1 else 0 | _ => 0
end Go.Dr
namespace Go.Proofs.YtghggooaaefdcaaDoor
open Go.RowKit Go.Dr

theorem set_tail {xs : Array Value} {k : Nat} {T : Bytes} {c : UInt8} (hs : xs.size = 64) (hk : k + 1 + T.length = 64) (h : ∀ j (hj : j < T.length), xs[k + 1 + j]? = some (B8 T[j])) :
    ∀ j (hj : j < (c :: T).length), (xs.setIfInBounds k (B8 c))[k + j]? = some (B8 (c :: T)[j]) := by
  intro j hj
  rw [Array.getElem?_setIfInBounds]
  cases j with
  | zero => simp; omega
  | succ j =>
    rw [if_neg (by omega), show k + (j + 1) = k + 1 + j by omega]
    exact h j (by simpa using hj)

theorem slice64 (w : World) (b k : Nat) (hk : k < 64) : (Instr.sliceAt 144 (.pointer (some ⟨b, 0, none⟩)) (some (.int .i64 (k : Int))) none none).run Tryd.prog w = .ok (.slice (some ⟨b, k, none⟩) (64 - k) (64 - k)) w := by
  have hl : Tryd.prog.arrayLen 144 = 64 := by kernel_rfl
  have he : Tryd.prog.elem 144 = 5 := by kernel_rfl
  obtain ⟨i, hi⟩ := info_of_underlying Tryd.underlying5
  have hs : Tryd.prog.cellsOf 5 = 1 := by kernel_rfl
  rw [run_sliceAt_array_l w 144 ⟨b, 0, none⟩ (by kernel_rfl) .i64 (k : Int) (by omega) (by rw [hl]; omega), hl, he, run_sizeOf w hi, hs]
  have h64 : ¬ 64 = k := by omega
  simp [Result.andThen, slicedAt, h64, Addr.add_lit]

set_option maxRecDepth 100000 in
set_option maxHeartbeats 2000000 in
theorem digits10_any (n : Nat) (w : World) (hn : n ≤ 9223372036854775807) : Calls Tryd.prog 86 #[.int .i64 n, .int .i64 10] w fun e w' => e = .returned (S (digs n)) ∧ Below w.heap.size w w' := by
  go_enter Tryd.func86, Tryd.ntmps86
  go_wp2
  go_loopw [0, 6] (fun v i wr => ∃ (m k : Nat) (T : Bytes) (xs : Array Value), v = .int .i64 m ∧ i = .int .i64 ((k : Int) + 1) ∧ k + 1 + T.length = 64 ∧ Blk wr w.heap.size 144 xs ∧ xs.size = 64 ∧ (∀ j (hj : j < T.length), xs[k + 1 + j]? = some (B8 T[j])) ∧ Hid (digsP m T = digs n) ∧ (0 < m ∨ T = []) ∧ m * 10 ^ T.length ≤ n ∧ Below w.heap.size w wr) (fun v _ _ => (intOf v).toNat)
  case atStart => exact ⟨n, 63, [], _, rfl, rfl, rfl, Blk.new _ _ _, by simp, by simp, by show digsP n [] = digs n; unfold digsP; simp, .inr rfl, by simp, (Below.refl _ _).alloc (Nat.le_refl _) _⟩
  case round =>
    obtain ⟨m, k, T, xs, rfl, rfl, hk, hX, hs, hT, HD, hv, hle, hbel⟩ := hrel
    have hlen := len_bound hle hn (hv.imp_right (fun e => by rw [e]; rfl))
    have hidx : ∀ w' : World, (Instr.index 9 (.string ⟨#[48, 49, 50, 51, 52, 53, 54, 55, 56, 57, 97, 98, 99, 100, 101, 102]⟩) (.int .i64 ((m : Int) % 10))).run Tryd.prog w' = .ok (B8 (dg m)) w' := fun w' => idx_hex 9 Tryd.underlying9 _ m rfl w'
    have hc : wr.cell? ⟨w.heap.size, k, none⟩ = some (xs[k]'(by omega)) := by rw [hX.cell k, Array.getElem?_eq_getElem]
    have hf : wr.frozen? ⟨w.heap.size, k, none⟩ = false := hX.free k
    have hT2 := set_tail (c := dg m) hs hk hT
    have hX2 := hX.set k (B8 (dg m))
    have hs2 : (xs.setIfInBounds k (B8 (dg m))).size = 64 := by simpa using hs
    have HD2 : Hid (digsP (m / 10) (dg m :: T) = digs n) := by show _ = _; rw [digsP_step m T hv]; exact HD.out
    have hle2 := pow_next m T.length n hle
    have hb2 : Below w.heap.size w (wr.setCell ⟨w.heap.size, k, none⟩ (B8 (dg m))) := hbel.setCell (Nat.le_refl _) _
    have hm64 : m ≤ 9223372036854775807 := by
      have : 0 < 10 ^ T.length := Nat.pow_pos (by decide)
      have := Nat.le_mul_of_pos_right m this
      omega
    have hcv : (convert 142 9 (.slice (some ⟨w.heap.size, k, none⟩) (64 - k) (64 - k))).run Tryd.prog (wr.setCell ⟨w.heap.size, k, none⟩ (B8 (dg m))) = .ok (S (dg m :: T)) (wr.setCell ⟨w.heap.size, k, none⟩ (B8 (dg m))) := by
      rw [show 64 - k = (dg m :: T).length by simp; omega]
      exact run_convert_bytes_back _ _ _ 5 ⟨w.heap.size, k, none⟩ _ (dg m :: T) Tryd.underlying142 Tryd.underlying5 Tryd.underlying9 (fun j hj => by
        rw [Addr.add_lit]
        rw [hX2.cell (k + j)]
        exact hT2 j hj)
    have hsl := fun w' : World => slice64 w' w.heap.size k (by omega)
    clear hT hX hv hle HD
    by_cases h0 : m / 10 = 0
    · have HD2 : Hid (dg m :: T = digs n) := by
        have := HD2.out
        rw [h0, digsP_zero _ (by simp)] at this
        exact this
      have g0 : (((m : Int) / 10) == 0) = true := by simp; omega
      clear h0
      go_wp2
      go_ret
      exact ⟨ret_S HD2.out, hb2⟩
    · have g0 : (((m : Int) / 10) == 0) = false := by simp; omega
      go_wp2
      go_roundw
      case rel => exact ⟨m / 10, k - 1, dg m :: T, _, by go_num, by go_num, by simp; omega, hX2, hs2, by rw [show k - 1 + 1 = k by omega]; exact hT2, HD2, .inl (by omega), by simpa using hle2, hb2⟩
      case measure => simp [intOf]; omega

theorem Digits_any (n : Nat) (w : World) (hn : n ≤ 9223372036854775807) : Calls Tryd.prog 62 #[.int .i64 n] w fun e w' => e = .returned (S (digs n)) ∧ Below w.heap.size w w' := by
  go_enter Tryd.func62, Tryd.ntmps62
  go_wp2_with fail
  refine (digits10_any n w hn).mono ?_
  rintro e w1 ⟨rfl, hb1⟩
  go_wp2
  go_ret
  exact ⟨rfl, hb1⟩

end Go.Proofs.YtghggooaaefdcaaDoor
