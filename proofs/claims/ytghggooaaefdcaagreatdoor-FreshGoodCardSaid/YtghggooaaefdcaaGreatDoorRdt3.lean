
/- The walks of the reference's dates: numbers as texts, names. -/
import Derived.Test.YtghggooaaefdcaaGreatDoorRdt1
namespace Go.Dr
def padF (n size : Nat) : Bytes := List.replicate (size - (digs n).length) 48 ++ digs n
theorem padF_2 (n : Nat) (h : n < 100) : padF n 2 = pad2 n := by
  unfold padF
  by_cases h1 : n < 10
  · rw [digs_small h1]
    have e : dg (n / 10) = 48 := by
      apply UInt8.toNat_inj.1
      rw [dg_nat]
      simp; omega
    simp [pad2, e]
  · rw [digs_step h1, digs_small (show n / 10 < 10 by omega)]
    simp [pad2]
theorem dg_zero (n : Nat) (h : n % 10 = 0) : dg n = 48 := by
  apply UInt8.toNat_inj.1
  rw [dg_nat]
  simp; omega
theorem padF_4 (n : Nat) (h0 : 1000 ≤ n) (h : n < 10000) : padF n 4 = pad4 n := by
  unfold padF
  rw [digs_step (show ¬ n < 10 by omega), digs_step (show ¬ n / 10 < 10 by omega), digs_step (show ¬ n / 10 / 10 < 10 by omega), digs_small (show n / 10 / 10 / 10 < 10 by omega)]
  have e1 : n / 10 / 10 = n / 100 := by omega
  have e2 : n / 10 / 10 / 10 = n / 1000 := by omega
  rw [e2, e1]
  simp [pad4]
end Go.Dr
namespace Go.Proofs.YtghggooaaefdcaaGreatDoor
open Go.RowKit Go.Dr

theorem rep_succ (k : Nat) (l : Bytes) : (48 : UInt8) :: (List.replicate k 48 ++ l) = List.replicate (k + 1) 48 ++ l := rfl

set_option maxRecDepth 100000 in
set_option maxHeartbeats 1000000 in
theorem refPad_any (n size : Nat) (w : World) (hn : n ≤ 1099511627776) (hs : size ≤ 10) : Calls Tryz.prog 124 #[.int .i64 n, .int .i64 size] w fun e w' => e = .returned (S (padF n size)) ∧ Below w.heap.size w w' := by
  have HP : Hid (padF n size = List.replicate (size - (digs n).length) 48 ++ digs n) := rfl
  have hl := digs_length n 12 (by omega)
  generalize padF n size = pf at *
  go_enter Tryz.func124, Tryz.ntmps124
  go_wp2_with fail
  refine (refDigits_any n w (by omega)).mono ?_
  rintro e w1 ⟨rfl, hb1⟩
  generalize digs n = d at *
  go_wp2
  go_loopw [5] (fun s wr => ∃ k : Nat, s = S (List.replicate k 48 ++ d) ∧ (k = 0 ∨ k + d.length ≤ size) ∧ wr = w1) (fun s _ => size - (match s with | .string b => b.size | _ => 0))
  case atStart => exact ⟨0, rfl, .inl rfl, rfl⟩
  case round =>
    obtain ⟨k, rfl, hk, hwe⟩ := hrel
    obtain rfl : w1 = wr := hwe.symm
    have hlen : (List.replicate k (48 : UInt8) ++ d).length = k + d.length := by simp
    have hbig : k + d.length ≤ 30 := by omega
    by_cases hlt : k + d.length < size
    · have g : decide (((List.replicate k (48 : UInt8) ++ d).length : Int) < (size : Int)) = true := by rw [hlen]; simp; omega
      have hadd : ∀ w' : World, (Op.stringOp .add ⟨#[48]⟩ ⟨(List.replicate k (48 : UInt8) ++ d).toArray⟩).run Tryz.prog w' = .ok (S (List.replicate (k + 1) 48 ++ d)) w' := fun w' => by
        have := run_string_add_sum (P := Tryz.prog) (w := w') ⟨#[48]⟩ ⟨(List.replicate k (48 : UInt8) ++ d).toArray⟩ (by simp [ByteArray.size]; omega)
        rw [this]
        rw [show (⟨#[48]⟩ : ByteArray) = ⟨([48] : Bytes).toArray⟩ from rfl, ba_append]
        rfl
      have hmeas : size - (k + 1 + d.length) < size - (k + d.length) := by omega
      have hl1 : (⟨(List.replicate (k + 1) (48 : UInt8) ++ d).toArray⟩ : ByteArray).size = k + 1 + d.length := by simp [ByteArray.size]
      have hl2 : (⟨(List.replicate k (48 : UInt8) ++ d).toArray⟩ : ByteArray).size = k + d.length := by simp [ByteArray.size]
      generalize hq : (List.replicate k (48 : UInt8) ++ d) = q at *
      clear hq
      go_wp2
      go_roundw
      case rel => exact ⟨k + 1, rfl, .inr (by omega), trivial⟩
      case measure => simp only [hl1, hl2]; exact hmeas
    · have HF : Hid (List.replicate k (48 : UInt8) ++ d = pf) := by
        show _ = _
        rw [HP.out]
        congr 2
        omega
      have g : decide (((List.replicate k (48 : UInt8) ++ d).length : Int) < (size : Int)) = false := by rw [hlen]; simp; omega
      generalize hq : (List.replicate k (48 : UInt8) ++ d) = q at *
      clear hq
      go_wp2
      go_ret
      exact ⟨ret_S HF.out, hb1⟩

theorem refPad2 (n : Nat) (w : World) (hn : n ≤ 1099511627776) : Calls Tryz.prog 124 #[.int .i64 n, .int .i64 2] w fun e w' => e = .returned (S (padF n 2)) ∧ Below w.heap.size w w' := refPad_any n 2 w hn (by decide)
theorem refPad4 (n : Nat) (w : World) (hn : n ≤ 1099511627776) : Calls Tryz.prog 124 #[.int .i64 n, .int .i64 4] w fun e w' => e = .returned (S (padF n 4)) ∧ Below w.heap.size w w' := refPad_any n 4 w hn (by decide)
theorem Months_any (w : World) : Calls Tryz.prog 123 #[] w (RetSs 9 w monTab) := by
  go_enter Tryz.func123, Tryz.ntmps123
  go_wp2
  go_ret
  exact ⟨_, rfl, World.ownsRow_lit (base := w.heap.size) (e := 9) (size := 1) w (monTab.map S).toArray 12 (Nat.le_refl _) (by decide) rfl, (Below.refl _ _).alloc (Nat.le_refl _) _⟩
theorem Weekdays_any (w : World) : Calls Tryz.prog 122 #[] w (RetSs 9 w longTab) := by
  go_enter Tryz.func122, Tryz.ntmps122
  go_wp2
  go_ret
  exact ⟨_, rfl, World.ownsRow_lit (base := w.heap.size) (e := 9) (size := 1) w (longTab.map S).toArray 7 (Nat.le_refl _) (by decide) rfl, (Below.refl _ _).alloc (Nat.le_refl _) _⟩
end Go.Proofs.YtghggooaaefdcaaGreatDoor
