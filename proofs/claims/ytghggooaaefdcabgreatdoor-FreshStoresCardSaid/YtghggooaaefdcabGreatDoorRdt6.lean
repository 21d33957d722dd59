
/- The walk of the reference's dates: a date's three texts (printed by textgen.py). -/
import Derived.Test.YtghggooaaefdcabGreatDoorRdt3
import Derived.Test.YtghggooaaefdcabGreatDoorDat5
import Derived.Deep.RegionHeld3
namespace Go.Dr
theorem lTab_get (k : Nat) (h : k < 7) : longTab[k]? = some (longF k) := by
  match k, h with
  | 0, _ | 1, _ | 2, _ | 3, _ | 4, _ | 5, _ | 6, _ => rfl
theorem mTab_get (k : Nat) (h : k < 12) : monTab[k]? = some (monF k) := by
  match k, h with
  | 0, _ | 1, _ | 2, _ | 3, _ | 4, _ | 5, _ | 6, _ | 7, _ | 8, _ | 9, _ | 10, _ | 11, _ => rfl
theorem mon_len (k : Nat) (h : k < 12) : (monF k).length = 3 := by
  match k, h with
  | 0, _ | 1, _ | 2, _ | 3, _ | 4, _ | 5, _ | 6, _ | 7, _ | 8, _ | 9, _ | 10, _ | 11, _ => rfl
theorem Ss.get {B : Nat} {w : World} {a : Option Addr} {n cap : Nat} {l : List Bytes} (h : Ss B w (.slice a n cap) l) (k : Nat) (x : Bytes) (hx : l[k]? = some x) : ∃ b off, a = some ⟨b, off, none⟩ ∧ b < B ∧ w.cell? ⟨b, off + k, none⟩ = some (S x) := by
  obtain ⟨hk, e⟩ := List.getElem?_eq_some_iff.1 hx
  obtain ⟨b, off, h1, h2, h3⟩ := h.at k hk
  exact ⟨b, off, h1, h2, by rw [h3, e]⟩
end Go.Dr
namespace Go.Proofs.YtghggooaaefdcabGreatDoor
open Go.RowKit Go.Dr

theorem add_at (a b c : Bytes) (hc : c = a ++ b) (hl : a.length + b.length ≤ 1000) : ∀ w' : World, (Op.stringOp .add ⟨a.toArray⟩ ⟨b.toArray⟩).run Tryz.prog w' = .ok (S c) w' := fun w' => by
  have := run_string_add_sum (P := Tryz.prog) (w := w') ⟨a.toArray⟩ ⟨b.toArray⟩ (by simp [ByteArray.size]; omega)
  rw [this, ba_append, hc]

theorem slice3 (l q : Bytes) (hq : q = l.take 3) (h : 3 ≤ l.length) : ∀ w' : World, (Instr.slice 9 (S l) none (some (.int .i64 3)) none).run Tryz.prog w' = .ok (S q) w' := fun w' => by
  rw [run_slice_string_h w' 9 ⟨l.toArray⟩ Tryz.underlying9 .i64 3 (by decide) (by simp [ByteArray.size]; omega), ba_extract, hq]
  rfl
theorem slice3' (l q : Bytes) (hq : q = l.take 3) (h : 3 ≤ l.length) : ∀ w' : World, (Instr.sliceAt 9 (S l) none (some (.int .i64 3)) none).run Tryz.prog w' = .ok (S q) w' := fun w' => by
  rw [run_sliceAt_string w' 9 _ _ _ _ Tryz.underlying9]
  exact slice3 l q hq h w'

end Go.Proofs.YtghggooaaefdcabGreatDoor
