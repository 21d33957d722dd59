
/- The walk of layer 17's reference: the same picked. -/
import Derived.Test.YtnflihjgbkocnaaDoorHop
import Derived.Test.YtnflihjgbkocnaaDoorBase
import Derived.Deep.DrawnRows
import Derived.Deep.RegionHeld3
namespace Go.Proofs.YtnflihjgbkocnaaDoor
open Go.RowKit Go.Dr

set_option maxHeartbeats 1000000 in
theorem PSame_any (a b : List F) (va vb : Value) (w : World) (ha : Fs w.heap.size w va a) (hb : Fs w.heap.size w vb b) :
    Calls Tryd.prog 27 #[va, vb] w fun e w' => e = .returned (.bool (a == b)) ∧ Below w.heap.size w w' := by
  obtain ⟨pa, ca, rfl, hma⟩ := ha.form
  obtain ⟨pb, cb, rfl, hmb⟩ := hb.form
  by_cases hlen : a.length = b.length
  · have h1 : ((a.length : Int) == (b.length : Int)) = true := by simp [hlen]
    have h2 : ((a.length : Int) != (b.length : Int)) = false := by simp [hlen]
    have HL := Lib.hid hlen
    clear hlen
    go_enter Tryd.func27, Tryd.ntmps27
    go_wp2
    go_loopw [5] (fun i wr => ∃ k : Nat, k ≤ a.length ∧ i = .int .i64 k ∧ Hid (a.take k = b.take k) ∧ Below w.heap.size w wr) (fun i _ => a.length - (intOf i).toNat)
    case atStart => exact ⟨0, Nat.zero_le _, rfl, rfl, Below.refl _ _⟩
    case round =>
      obtain ⟨k, hk, rfl, HT, hbel⟩ := hrel
      by_cases hlt : k < a.length
      · have hlt' : k < b.length := by rw [← HL.out]; exact hlt
        obtain ⟨ba, oa, rfl, hba, hca0, hca1, hca2⟩ := (ha.below hbel).at k hlt
        obtain ⟨bb, ob, rfl, hbb, hcb0, hcb1, hcb2⟩ := (hb.below hbel).at k hlt'
        have HE := Lib.hid (f_eq a[k] b[k])
        by_cases e1 : a[k].n = b[k].n
        · by_cases e2 : a[k].v = b[k].v
          · by_cases e3 : a[k].m = b[k].m
            · have he : a[k] = b[k] := by rw [← beq_iff_eq, HE.out]; simp [e1, e2, e3]
              have HN := Lib.hid (take_eq_succ hlt hlt' HT.out he)
              clear he
              go_wp2_with fail
              go_quiet (fail)
              go_wp2
              go_roundw
              case rel => exact ⟨k + 1, by omega, by go_num, HN, below_drewN hbel _⟩
              case measure => simp [intOf]; omega
            · have HN := Lib.hid (ne_of_get hlt hlt' (fun h => e3 (by rw [h])))
              go_wp2_with fail
              go_quiet (fail)
              go_wp2
              go_ret
              exact ⟨ret_bool (by symm; rw [beq_eq_false_iff_ne]; exact HN.out), below_drewN hbel _⟩
          · have HN := Lib.hid (ne_of_get hlt hlt' (fun h => e2 (by rw [h])))
            go_wp2_with fail
            go_quiet (fail)
            go_wp2
            go_ret
            exact ⟨ret_bool (by symm; rw [beq_eq_false_iff_ne]; exact HN.out), below_drewN hbel _⟩
        · have HN := Lib.hid (ne_of_get hlt hlt' (fun h => e1 (by rw [h])))
          go_wp2_with fail
          go_quiet (fail)
          go_wp2
          go_ret
          exact ⟨ret_bool (by symm; rw [beq_eq_false_iff_ne]; exact HN.out), below_drewN hbel _⟩
      · go_wp2
        go_ret
        exact ⟨ret_bool (by symm; rw [beq_iff_eq]; have := HT.out; rwa [List.take_of_length_le (by omega), List.take_of_length_le (by rw [← HL.out]; omega)] at this), hbel⟩
  · have h1 : ((a.length : Int) == (b.length : Int)) = false := by simp; omega
    have h2 : ((a.length : Int) != (b.length : Int)) = true := by simp; omega
    go_enter Tryd.func27, Tryd.ntmps27
    go_wp2
    go_ret
    exact ⟨ret_bool (by symm; rw [beq_eq_false_iff_ne]; intro e; exact hlen (by rw [e])), Below.refl _ _⟩


end Go.Proofs.YtnflihjgbkocnaaDoor
