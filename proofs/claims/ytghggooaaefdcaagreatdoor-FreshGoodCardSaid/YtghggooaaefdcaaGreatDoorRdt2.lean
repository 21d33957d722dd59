
/- The walk of the reference's dates: a date's moment. -/
import Derived.Test.YtghggooaaefdcaaGreatDoorRdt1
namespace Go.Proofs.YtghggooaaefdcaaGreatDoor
open Go.RowKit Go.Dr

set_option maxRecDepth 100000 in
set_option maxHeartbeats 4000000 in
theorem refAt_any (y m n h mi s : Nat) (wk : Int) (w : World) (h1 : 1970 ≤ y) (h2 : y ≤ 9999) (h3 : m < 12) (h4 : 1 ≤ n) (h5 : n ≤ 31) (h6 : h ≤ 23) (h7 : mi ≤ 59) (h8 : s ≤ 59) :
    Calls Tryz.prog 97 #[.agg #[.int .i64 y, .int .i64 ((m : Int) + 1), .int .i64 n, .int .i64 h, .int .i64 mi, .int .i64 s, .int .i64 wk]] w fun e w' => e = .returned (.int .i64 ((dayOf y m n * 86400 + (3600 * h + 60 * mi + s) : Nat) : Int)) ∧ Below w.heap.size w w' := by
  have hB := begY_low y h1
  have hA := aheadM_le y m
  have HD : Hid (dayOf y m n = begY y + n - 1 + aheadM y m) := rfl
  have hdy : dayOf y m n ≤ 10000000 := by unfold dayOf; omega
  generalize dayOf y m n = dd at *
  have hX := Blk.new w 106 #[.int .i64 y, .int .i64 ((m : Int) + 1), .int .i64 n, .int .i64 h, .int .i64 mi, .int .i64 s, .int .i64 wk]
  have hb0 : Below w.heap.size w (w.alloc (.cells #[.int .i64 y, .int .i64 ((m : Int) + 1), .int .i64 n, .int .i64 h, .int .i64 mi, .int .i64 s, .int .i64 wk] 106)) := (Below.refl _ _).alloc (Nat.le_refl _) _
  go_enter Tryz.func97, Tryz.ntmps97
  go_wp2
  generalize w.alloc (.cells #[.int .i64 y, .int .i64 ((m : Int) + 1), .int .i64 n, .int .i64 h, .int .i64 mi, .int .i64 s, .int .i64 wk] 106) = w0 at *
  (have k0 : w0.cell? ⟨w.heap.size, 0, none⟩ = some (.int .i64 y) := hX.cell 0; have k1 : w0.cell? ⟨w.heap.size, 1, none⟩ = some (.int .i64 ((m : Int) + 1)) := hX.cell 1; have k2 : w0.cell? ⟨w.heap.size, 2, none⟩ = some (.int .i64 n) := hX.cell 2; have k3 : w0.cell? ⟨w.heap.size, 3, none⟩ = some (.int .i64 h) := hX.cell 3; have k4 : w0.cell? ⟨w.heap.size, 4, none⟩ = some (.int .i64 mi) := hX.cell 4; have k5 : w0.cell? ⟨w.heap.size, 5, none⟩ = some (.int .i64 s) := hX.cell 5; have k6 : w0.cell? ⟨w.heap.size, 6, none⟩ = some (.int .i64 wk) := hX.cell 6)
  go_loopw [3, 4] (fun d j wr => ∃ b k : Nat, d = .int .i64 b ∧ j = .int .i64 k ∧ Hid (b = begY k) ∧ b ≤ 3000000 ∧ 1970 ≤ k ∧ k ≤ y ∧ wr = w0) (fun _ j _ => y - (intOf j).toNat)
  case atStart => exact ⟨0, 1970, rfl, rfl, begY_1970.symm, by omega, Nat.le_refl _, h1, rfl⟩
  case round =>
    obtain ⟨b, k, rfl, rfl, HB, hb, hk, hky, hwe⟩ := hrel
    obtain rfl : w0 = wr := hwe.symm
    by_cases hlt : k < y
    · have hlp := refLeap_any k w0 (by omega)
      have HS := Lib.hid (begY_step k hk)
      have hlow := begY_low (k + 1) (by omega)
      cases hl : leapY k with
      | true =>
        rw [hl] at HS hlp
        have HN : Hid (b + 366 = begY (k + 1)) := by show _ = _; have e1 := HS.out; have e2 := HB.out; simp at e1; omega
        have hb2 : b + 366 ≤ 3000000 := by have := HN.out; omega
        clear HS hl hlow HB
        go_wp2_with fail
        refine hlp.mono ?_
        rintro e w1 ⟨rfl, rfl⟩
        go_wp2
        go_roundw
        case rel => exact ⟨b + 366, k + 1, by go_num, by go_num, HN, hb2, by omega, by omega, trivial⟩
        case measure => simp [intOf]; omega
      | false =>
        rw [hl] at HS hlp
        have HN : Hid (b + 365 = begY (k + 1)) := by show _ = _; have e1 := HS.out; have e2 := HB.out; simp at e1; omega
        have hb2 : b + 365 ≤ 3000000 := by have := HN.out; omega
        clear HS hl hlow HB
        go_wp2_with fail
        refine hlp.mono ?_
        rintro e w1 ⟨rfl, rfl⟩
        go_wp2
        go_roundw
        case rel => exact ⟨b + 365, k + 1, by go_num, by go_num, HN, hb2, by omega, by omega, trivial⟩
        case measure => simp [intOf]; omega
    · obtain rfl : k = y := by omega
      clear hlt
      go_wp2
      go_loopw [3, 5] (fun d j wr => ∃ a i : Nat, d = .int .i64 a ∧ j = .int .i64 ((i : Int) + 1) ∧ Hid (a = b + aheadM k i) ∧ a ≤ 3000372 ∧ i ≤ m ∧ wr = w0) (fun _ j _ => m + 1 - (intOf j).toNat)
      case atStart => exact ⟨b, 0, rfl, rfl, rfl, by omega, Nat.zero_le _, rfl⟩
      case round =>
        obtain ⟨a, i, rfl, rfl, HA, ha, hi, hwe⟩ := hrel
        obtain rfl : w0 = wr := hwe.symm
        by_cases hlt : i < m
        · have hdc := refDays_any k i ((i : Int) + 1) w0 rfl (by omega) (by omega)
          have HS : Hid (aheadM k (i + 1) = aheadM k i + mLen k i) := rfl
          have hle := aheadM_le k (i + 1)
          have HN : Hid (a + mLen k i = b + aheadM k (i + 1)) := by show _ = _; have e1 := HS.out; have e2 := HA.out; omega
          have hb2 : a + mLen k i ≤ 3000372 := by have := HN.out; omega
          clear HS HA hle
          generalize mLen k i = L at *
          go_wp2_with fail
          refine hdc.mono ?_
          rintro e w1 ⟨rfl, rfl⟩
          go_wp2
          go_roundw
          case rel => exact ⟨a + L, i + 1, by go_num, by go_num, HN, hb2, by omega, trivial⟩
          case measure => simp [intOf]; omega
        · obtain rfl : i = m := by omega
          have HF : Hid ((a : Int) + (n : Int) - 1 = (dd : Int)) := by show _ = _; have e1 := HD.out; have e2 := HA.out; have e3 := HB.out; omega
          clear HD HA HB hlt
          go_wp2
          go_ret
          exact ⟨ret_int (by have := HF.out; push_cast; omega), hb0⟩
end Go.Proofs.YtghggooaaefdcaaGreatDoor
