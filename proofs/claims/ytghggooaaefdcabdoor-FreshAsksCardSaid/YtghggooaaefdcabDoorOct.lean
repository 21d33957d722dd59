
/- The walks of layer 1 (bytes and texts). -/
import Derived.Test.YtghggooaaefdcabDoorBase
import Derived.Test.YtghggooaaefdcabDoorRows
import Derived.Test.YtghggooaaefdcabDoorShelf
import Derived.Shelf.Strings.SlTrimAscii
namespace Go.Proofs.YtghggooaaefdcabDoor
open Go.RowKit Go.Dr

theorem or32n : ∀ n, n < 256 → 65 ≤ n → n ≤ 90 → bits .or .u8 ((n : Nat) : Int) 32 = (n : Int) + 32 := by decide +kernel
theorem or32 (c : UInt8) (h1 : 65 ≤ c.toNat) (h2 : c.toNat ≤ 90) : bits .or .u8 (c.toNat : Int) 32 = (c.toNat : Int) + 32 := or32n _ (UInt8.toNat_lt c) h1 h2

set_option maxHeartbeats 400000 in
theorem Lower_any (l : Bytes) (w : World) (hl : l.length ≤ maxLen) :
    Calls Tryd.prog 41 #[S l] w fun e w' => e = .returned (S (low l)) ∧ Below w.heap.size w w' := by
  unfold maxLen at hl
  obtain ⟨cap, w1, hrun, hcap, hrow, hbel, hsz⟩ := run_bytes_row (P := Tryd.prog) w 9 40 5 l Tryd.underlying9 Tryd.underlying40 Tryd.underlying5
  go_enter Tryd.func41, Tryd.ntmps41
  go_wp2
  clear hrun
  go_loopw [10] (fun i wr => ∃ k : Nat, k ≤ l.length ∧ i = .int .i64 k ∧ BRow wr 5 w.heap.size (lowTo l k) ∧ Below w.heap.size w wr) (fun i _ => l.length - (intOf i).toNat)
  case atStart => exact ⟨0, Nat.zero_le _, rfl, by rw [lowTo_zero]; exact hrow, hbel⟩
  case round =>
    obtain ⟨k, hk, rfl, hrow, hbel⟩ := hrel
    by_cases hlt : k < l.length
    · have c0 := hrow.cell k (by rw [lowTo_length]; exact hlt)
      rw [lowTo_get l k hlt] at c0
      have f0 := hrow.free k (by rw [lowTo_length]; exact hlt)
      by_cases h1 : 65 ≤ l[k].toNat
      · by_cases h2 : l[k].toNat ≤ 90
        · go_wp2
          go_roundw
          case rel =>
            refine ⟨k + 1, by omega, by go_num, ?_, hbel.setCell (Nat.le_refl _) _⟩
            rw [← lowTo_set l k hlt]
            have := hrow.set k (lowB l[k])
            rw [lowB_up _ h1 h2, ← or32 _ h1 h2] at this
            exact this
          case measure => simp [intOf]; omega
        · go_wp2
          go_roundw
          case rel => exact ⟨k + 1, by omega, by go_num, by rw [← lowTo_skip l k hlt (lowB_no _ (by omega))]; exact hrow, hbel⟩
          case measure => simp [intOf]; omega
      · go_wp2
        go_roundw
        case rel => exact ⟨k + 1, by omega, by go_num, by rw [← lowTo_skip l k hlt (lowB_no _ (by omega))]; exact hrow, hbel⟩
        case measure => simp [intOf]; omega
    · have hc := run_string_row (P := Tryd.prog) wr 40 9 5 w.heap.size cap (lowTo l k) Tryd.underlying40 Tryd.underlying5 Tryd.underlying9 hrow
      rw [lowTo_length, lowTo_all l k (by omega)] at hc
      go_wp2
      go_ret
      exact ⟨rfl, hbel⟩

set_option maxHeartbeats 400000 in
theorem Same_any (a b : Bytes) (w : World) (ha : a.length ≤ maxLen) (hb : b.length ≤ maxLen) :
    Calls Tryd.prog 29 #[S a, S b] w fun e w' => e = .returned (.bool (same a b)) ∧ Below w.heap.size w w' := by
  have ha' := ha
  unfold maxLen at ha'
  by_cases h : a.length = b.length
  · have h1 : ((a.length : Int) == (b.length : Int)) = true := by simp [h]
    go_enter Tryd.func29, Tryd.ntmps29
    go_wp2_with fail
    refine (Lower_any _ _ ha).mono ?_
    rintro e w1 ⟨rfl, hb1⟩
    go_wp2_with fail
    refine (Lower_any _ _ hb).mono ?_
    rintro e w2 ⟨rfl, hb2⟩
    go_wp2
    go_ret
    exact ⟨rfl, Bl.tr hb1 hb2⟩
  · have h1 : ((a.length : Int) == (b.length : Int)) = false := by simp; omega
    have h2 : same a b = false := by
      unfold same
      rw [beq_eq_false_iff_ne]
      intro e
      exact h (by rw [← low_length a, e, low_length])
    go_enter Tryd.func29, Tryd.ntmps29
    go_wp2
    go_ret
    exact ⟨by rw [h2]; rfl, Below.refl _ _⟩

theorem blank_eq (c : UInt8) : isBlank c = (((c.toNat : Int) == 32) || ((c.toNat : Int) == 9)) := by
  unfold isBlank
  rw [Bool.eq_iff_iff]
  simp [← UInt8.toNat_inj]
  omega

theorem trimS_eq (l : Bytes) : Lib.trimS l [32, 9] = trim l := by
  have e : (fun c : UInt8 => [32, 9].contains c) = isBlank := by
    funext c
    by_cases h1 : c = 32 <;> by_cases h2 : c = 9 <;> simp [isBlank, h1, h2]
  rw [trim, ← trim_comm]
  simp only [Lib.trimS, Lib.trimLeftS, Lib.trimRightS, e]
  rfl

set_option maxHeartbeats 400000 in
theorem Trim_any (l : Bytes) (w : World) (hl : l.length ≤ maxLen) :
    Calls Tryd.prog 52 #[S l] w fun e w' => e = .returned (S (trim l)) ∧ Below w.heap.size w w' := by
  unfold maxLen at hl
  have hcon := Any.strings_Trim_laid Tryd.lays160 (by kernel_rfl) ⟨l.toArray⟩ ⟨#[32, 9]⟩ w (by show l.length ≤ _; omega) (by decide) (ascii_of_all (by decide))
  change Calls Tryd.prog 58 _ _ (fun e w' => e = .returned (.string ⟨(Lib.trimS l [32, 9]).toArray⟩) ∧ Below w.heap.size w w') at hcon
  rw [trimS_eq] at hcon
  have HC := Lib.hid hcon
  clear hcon
  go_enter Tryd.func52, Tryd.ntmps52
  go_wp2_with (go_at_call 58; refine HC.out.mono ?_; rintro e w' ⟨rfl, hB⟩)
  go_ret
  exact ⟨rfl, hB⟩

/-- Two fields, held one against the other cell by cell. -/
theorem f_eq (a b : F) : (a == b) = (a.n == b.n && a.v == b.v && a.m == b.m) := by
  rw [Bool.eq_iff_iff]
  cases a
  cases b
  simp
  constructor
  · rintro ⟨rfl, rfl, rfl⟩; simp
  · rintro ⟨⟨rfl, rfl⟩, rfl⟩; simp

end Go.Proofs.YtghggooaaefdcabDoor
namespace Go.Proofs.YtghggooaaefdcabDoor
open Go.RowKit Go.Dr

set_option maxRecDepth 100000 in
set_option maxHeartbeats 1000000 in
theorem FBytes_any (l : List F) (v : Value) (w : World) (h : Fs w.heap.size w v l) (hb : ∀ f ∈ l, f.n.length ≤ 140737488355328 ∧ f.v.length ≤ 140737488355328) :
    Calls Tryd.prog 11 #[v] w fun e w' => e = .returned (.int .i64 (fbytes l : Nat)) ∧ Below w.heap.size w w' := by
  obtain ⟨pa, ca, rfl, hm⟩ := h.form
  go_enter Tryd.func11, Tryd.ntmps11
  go_wp2
  go_loopw [3, 4] (fun n i wr => ∃ k : Nat, k ≤ l.length ∧ i = .int .i64 k ∧ n = .int .i64 (fbytes (l.take k) : Nat) ∧ fbytes (l.take k) ≤ 844424930131968 ∧ Below w.heap.size w wr) (fun _ i _ => l.length - (intOf i).toNat)
  case atStart => exact ⟨0, Nat.zero_le _, rfl, rfl, Nat.zero_le _, Below.refl _ _⟩
  case round =>
    obtain ⟨k, hk, rfl, rfl, hle, hbel⟩ := hrel
    by_cases hlt : k < l.length
    · obtain ⟨b, off, rfl, hbb, c0, c1, c2⟩ := (h.below hbel).at k hlt
      obtain ⟨b1, b2⟩ := hb l[k] (List.getElem_mem hlt)
      clear hb
      have HS : Hid (fbytes (l.take (k + 1)) = fbStep (fbytes (l.take k)) l[k]) := by show _ = _; rw [take_snoc l k hlt, fbytes_snoc]
      generalize fbytes (l.take k) = s at *
      by_cases hs : s < 1073741824
      · have HS : Hid (fbytes (l.take (k + 1)) = s + l[k].n.length + l[k].v.length + 32) := by show _ = _; rw [HS.out, fbStep, if_pos hs]
        have hq : decide ((s : Int) < 1073741824) = true := by rw [decide_eq_true_iff]; omega
        have HQ := Lib.hid hs
        clear hs
        go_wp2_with fail
        go_quiet (fail)
        go_wp2
        go_roundw
        case rel => exact ⟨k + 1, by omega, by go_num, by rw [HS.out]; go_num, by rw [HS.out]; have := HQ.out; omega, below_drewN hbel _⟩
        case measure => simp [intOf]; omega
      · have HS : Hid (fbytes (l.take (k + 1)) = s) := by show _ = _; rw [HS.out, fbStep, if_neg hs]
        have hq : decide ((s : Int) < 1073741824) = false := by rw [decide_eq_false_iff_not]; omega
        have HQ := Lib.hid hs
        clear hs
        go_wp2
        go_roundw
        case rel => exact ⟨k + 1, by omega, by go_num, by rw [HS.out], by rw [HS.out]; omega, hbel⟩
        case measure => simp [intOf]; omega
    · have hk' : k = l.length := by omega
      subst hk'
      rw [List.take_length] at *
      go_wp2
      go_ret
      exact ⟨rfl, hbel⟩

end Go.Proofs.YtghggooaaefdcabDoor
