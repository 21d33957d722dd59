
/- The walks of layer 18's reference: which statuses are known, how long an answer is fresh. -/
import Derived.Test.YtghggooaaefdcabGreatDoorRf18
import Derived.Test.YtghggooaaefdcabGreatDoorRf13c
import Derived.Test.YtghggooaaefdcabGreatDoorRen1
import Derived.Deep.DeepCutAuto
namespace Go.Dr
def knownN : List Nat := [200, 203, 204, 300, 301, 308, 404, 405, 410, 414, 501]
theorem known_hit (st : Int) (k : Nat) (hk : k < knownN.length) (h : (knownN[k] : Int) = st) : knownB st = true := by
  subst h
  have : k < 11 := hk
  match k, this with
  | 0, _ | 1, _ | 2, _ | 3, _ | 4, _ | 5, _ | 6, _ | 7, _ | 8, _ | 9, _ | 10, _ => rfl
theorem known_miss (st : Int) (h : ∀ j (hj : j < knownN.length), (knownN[j] : Int) ≠ st) : knownB st = false := by
  have h0 := h 0 (by decide); have h1 := h 1 (by decide); have h2 := h 2 (by decide); have h3 := h 3 (by decide)
  have h4 := h 4 (by decide); have h5 := h 5 (by decide); have h6 := h 6 (by decide); have h7 := h 7 (by decide)
  have h8 := h 8 (by decide); have h9 := h 9 (by decide); have h10 := h 10 (by decide)
  simp [knownN] at h0 h1 h2 h3 h4 h5 h6 h7 h8 h9 h10
  simp [knownB, knownL]
  omega
theorem made_date (l : List F) (came : Int) : (if dateI l dateN came < 0 then ((clampT came : Nat) : Int) else dateI l dateN came) = (madeF l came : Nat) := by
  unfold dateI madeF
  cases momB l dateN came
  · simp
  · simp only [if_true]
    rw [if_neg (by omega)]
theorem life_end (l : List F) (st came : Int) (h1 : ¬ 0 ≤ (readC l).sm) (h2 : ¬ 0 ≤ (readC l).ma) (h3 : hasN l expiresN = true) : (if dateI l expiresN came < (madeF l came : Nat) then 0 else dateI l expiresN came - (madeF l came : Nat)) = ((lifeF l st came : Nat) : Int) := by
  unfold lifeF dateI
  rw [if_neg h1, if_neg h2, if_pos h3]
  cases momB l expiresN came
  · simp; intro h; omega
  · simp only [if_true]
    split <;> omega
theorem life_last (l : List F) (st came : Int) (h1 : ¬ 0 ≤ (readC l).sm) (h2 : ¬ 0 ≤ (readC l).ma) (h3 : ¬ hasN l expiresN = true) : (if knownB st = false ∨ dateI l lastN came < 0 ∨ (madeF l came : Int) < dateI l lastN came then 0 else min 86400 (((madeF l came : Int) - dateI l lastN came) / 10)) = ((lifeF l st came : Nat) : Int) := by
  unfold lifeF dateI
  rw [if_neg h1, if_neg h2, if_neg h3]
  cases momB l lastN came
  · simp
  · cases knownB st
    · simp
    · simp only [if_true, true_and, Bool.true_eq_false, false_or]
      by_cases h : momV l lastN came ≤ madeF l came
      · rw [if_pos h, if_neg (by omega)]; omega
      · rw [if_neg h, if_pos (by omega)]; rfl
end Go.Dr
namespace Go.Proofs.YtghggooaaefdcabGreatDoor
open Go.RowKit Go.Dr

set_option maxRecDepth 100000 in
set_option maxHeartbeats 1000000 in
theorem refKnown_any (st : Int) (w : World) : Calls Tryz.prog 28 #[.int .i64 st] w fun e w' => e = .returned (.bool (knownB st)) ∧ Below w.heap.size w w' := by
  have HH := Lib.hid (fun k hk h => known_hit st k hk h)
  have HM := Lib.hid (fun h => known_miss st h)
  generalize knownB st = kb at *
  obtain ⟨w0, ew⟩ : ∃ w0 : World, w0 = w.alloc (.cells (knownN.map I8).toArray 3) := ⟨_, rfl⟩
  have hI : Is w0.heap.size w0 (.slice (some ⟨w.heap.size, 0, none⟩) 11 11) knownN := by
    rw [ew]
    exact (Rd.lit w 3 (knownN.map I8).toArray 1 11 rfl (by decide)).mono (by simp)
  have hb0 : Below w.heap.size w w0 := by rw [ew]; exact (Below.refl _ _).alloc (Nat.le_refl _) _
  go_enter Tryz.func28, Tryz.ntmps28
  go_wp2
  change Code.wp _ _ _ _ (w.alloc (.cells (knownN.map I8).toArray 3))
  rw [← ew]
  clear ew
  go_loop [4] (fun i => ∃ k : Nat, i = .int .i64 k ∧ k ≤ 11 ∧ Hid (∀ j (hj : j < knownN.length), j < k → (knownN[j] : Int) ≠ st)) (fun i => 11 - (intOf i).toNat)
  case atStart => exact ⟨0, rfl, Nat.zero_le _, Lib.hid (fun j hj h => by omega)⟩
  case round =>
    obtain ⟨k, rfl, hk, HJ⟩ := hrel
    by_cases hlt : k < 11
    · have hk' : k < knownN.length := hlt
      obtain ⟨b, off, hbo, hbb, c0⟩ := hI.at k hk'
      simp only [Option.some.injEq, Addr.mk.injEq, and_true] at hbo
      obtain ⟨rfl, rfl⟩ := hbo
      rw [Nat.zero_add] at c0
      obtain ⟨x, hx⟩ : ∃ x, knownN[k]'hk' = x := ⟨_, rfl⟩
      rw [hx] at c0
      have HX := Lib.hid hx
      clear hx
      by_cases he : (x : Int) = st
      · have g : ((x : Int) == st) = true := by simp [he]
        have HR := Lib.hid (HH.out k hk' (by rw [HX.out]; exact he))
        clear he
        go_wp2
        go_ret
        exact ⟨ret_bool HR.out.symm, hb0⟩
      · have g : ((x : Int) == st) = false := by simp [he]
        have HJ2 : Hid (∀ j (hj : j < knownN.length), j < k + 1 → (knownN[j] : Int) ≠ st) := Lib.hid (fun j hj h => by
          by_cases e : j = k
          · subst e; rw [HX.out]; exact he
          · exact HJ.out j hj (by omega))
        clear he
        go_wp2
        go_round
        case rel => exact ⟨k + 1, by go_num, by omega, HJ2⟩
        case measure => simp [intOf]; omega
    · have HR := Lib.hid (HM.out (fun j hj => HJ.out j hj (by have : j < 11 := hj; omega)))
      go_wp2
      go_ret
      exact ⟨ret_bool HR.out.symm, hb0⟩

end Go.Proofs.YtghggooaaefdcabGreatDoor
