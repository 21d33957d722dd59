
/- More walks of the references' layers 1 and 5. -/
import Derived.Test.YtpbmmkonlboegaaDoorOct
namespace Go.Proofs.YtpbmmkonlboegaaDoor
open Go.RowKit Go.Dr

set_option maxRecDepth 100000 in
set_option maxHeartbeats 1000000 in
theorem FBytes_any (l : List F) (v : Value) (w : World) (h : Fs w.heap.size w v l) (hb : ∀ f ∈ l, f.n.length ≤ 140737488355328 ∧ f.v.length ≤ 140737488355328) :
    Calls Tryd.prog 36 #[v] w fun e w' => e = .returned (.int .i64 (fbytes l : Nat)) ∧ Below w.heap.size w w' := by
  obtain ⟨pa, ca, rfl, hm⟩ := h.form
  go_enter Tryd.func36, Tryd.ntmps36
  go_wp2
  go_loopw [3, 4] (fun n i wr => ∃ k : Nat, k ≤ l.length ∧ i = .int .i64 k ∧ n = .int .i64 (fbytes (l.take k) : Nat) ∧ fbytes (l.take k) ≤ 844424930131968 ∧ Below w.heap.size w wr) (fun _ i _ => l.length - (intOf i).toNat)
  case atStart => exact ⟨0, Nat.zero_le _, rfl, rfl, Nat.zero_le _, Below.refl _ _⟩
  case round =>
    obtain ⟨k, hk, rfl, rfl, hle, hbel⟩ := hrel
    by_cases hlt : k < l.length
    · obtain ⟨b, off, rfl, hbb, c0, c1, c2⟩ := (h.below hbel).at k hlt
      obtain ⟨b1, b2⟩ := hb l[k] (List.getElem_mem hlt)
      clear hb
      have HS : Hid (fbytes (l.take (k + 1)) = fbStep (fbytes (l.take k)) l[k]) := by show _ = _; rw [take_snoc l k hlt, fbytes_snoc]
      generalize fbytes (l.take k) = s at *
      by_cases hs : s < 1073741824
      · have HS : Hid (fbytes (l.take (k + 1)) = s + l[k].n.length + l[k].v.length + 32) := by show _ = _; rw [HS.out, fbStep, if_pos hs]
        have hq : decide ((s : Int) < 1073741824) = true := by rw [decide_eq_true_iff]; omega
        have HQ := Lib.hid hs
        clear hs
        go_wp2_with fail
        go_quiet (fail)
        go_wp2
        go_roundw
        case rel => exact ⟨k + 1, by omega, by go_num, by rw [HS.out]; go_num, by rw [HS.out]; have := HQ.out; omega, below_drewN hbel _⟩
        case measure => simp [intOf]; omega
      · have HS : Hid (fbytes (l.take (k + 1)) = s) := by show _ = _; rw [HS.out, fbStep, if_neg hs]
        have hq : decide ((s : Int) < 1073741824) = false := by rw [decide_eq_false_iff_not]; omega
        have HQ := Lib.hid hs
        clear hs
        go_wp2
        go_roundw
        case rel => exact ⟨k + 1, by omega, by go_num, by rw [HS.out], by rw [HS.out]; omega, hbel⟩
        case measure => simp [intOf]; omega
    · have hk' : k = l.length := by omega
      subst hk'
      rw [List.take_length] at *
      go_wp2
      go_ret
      exact ⟨rfl, hbel⟩

end Go.Proofs.YtpbmmkonlboegaaDoor
