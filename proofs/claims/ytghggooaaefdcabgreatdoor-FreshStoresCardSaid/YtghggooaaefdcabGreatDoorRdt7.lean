
/- The walk of the reference's dates: the month whose name stands at a place (printed by monthgen.py). -/
import Derived.Test.YtghggooaaefdcabGreatDoorRdt5
import Derived.Test.YtghggooaaefdcabGreatDoorRdt6
namespace Go.Dr
theorem monthF_out {s : Bytes} {a : Int} (h : a < 0 ∨ (s.length : Int) < a + 3) : monthF s a = 0 := by
  unfold monthF; rw [if_neg]; omega
theorem monthF_none {s : Bytes} {k : Nat} (hno : ∀ j (hj : j < 12), monTab[j]'hj ≠ (s.drop k).take 3) : monthF s (k : Int) = 0 := by
  unfold monthF
  rw [if_neg]
  intro e
  have h := e.2.2
  rw [Int.toNat_natCast] at h
  have e3 := List.findIdx_getElem (p := fun t => t == (s.drop k).take 3) (xs := monTab) (w := h)
  simp only [beq_iff_eq] at e3
  exact hno _ h e3
theorem monthF_at {s : Bytes} {k i : Nat} (hk : k + 3 ≤ s.length) (hi : i < 12) (h : monTab[i]'hi = (s.drop k).take 3) (hno : ∀ j (hj : j < i), monTab[j]'(Nat.lt_trans hj hi) ≠ (s.drop k).take 3) : monthF s (k : Int) = i + 1 := by
  have e : monTab.findIdx (fun t => t == (s.drop k).take 3) = i := by
    rw [List.findIdx_eq (xs := monTab) (i := i) hi]
    exact ⟨by simp [h], fun j hj => by rw [beq_eq_false_iff_ne]; exact hno j hj⟩
  unfold monthF
  rw [Int.toNat_natCast, e, if_pos ⟨by omega, by omega, hi⟩]
end Go.Dr
namespace Go.Proofs.YtghggooaaefdcabGreatDoor
open Go.RowKit Go.Dr

theorem slice_mid (l q : Bytes) (k : Nat) (hq : q = (l.drop k).take 3) (h : k + 3 ≤ l.length) : ∀ w' : World, (Instr.slice 9 (S l) (some (.int .i64 (k : Int))) (some (.int .i64 ((k : Int) + 3))) none).run Tryz.prog w' = .ok (S q) w' := fun w' => by
  have hj : 0 ≤ (k : Int) + 3 ∧ (k : Int) + 3 ≤ ((⟨l.toArray⟩ : ByteArray).size : Int) := ⟨by omega, by simp [ByteArray.size]; omega⟩
  have hi : 0 ≤ (k : Int) ∧ (k : Int) ≤ (k : Int) + 3 := ⟨by omega, by omega⟩
  rw [run_slice_string_if w' 9 ⟨l.toArray⟩ .i64 .i64 _ _ Tryz.underlying9, if_pos hj, if_pos hi, ba_extract, hq]
  rw [show ((k : Int) + 3).toNat = k + 3 by omega, Int.toNat_natCast, List.drop_take, show k + 3 - k = 3 by omega]
theorem slice_mid' (l q : Bytes) (k : Nat) (hq : q = (l.drop k).take 3) (h : k + 3 ≤ l.length) : ∀ w' : World, (Instr.sliceAt 9 (S l) (some (.int .i64 (k : Int))) (some (.int .i64 ((k : Int) + 3))) none).run Tryz.prog w' = .ok (S q) w' := fun w' => by
  rw [run_sliceAt_string w' 9 _ _ _ _ Tryz.underlying9]
  exact slice_mid l q k hq h w'

end Go.Proofs.YtghggooaaefdcabGreatDoor
