
/- The walks of layer 11 (hop). -/
import Derived.Test.YtpbmmkonlboegaaDoorElp
import Derived.Test.YtpbmmkonlboegaaDoorBase2
namespace Go.Proofs.YtpbmmkonlboegaaDoor
open Go.RowKit Go.Dr

set_option maxRecDepth 100000 in
set_option maxHeartbeats 1000000 in
theorem Values_any (l : List F) (name : Bytes) (v : Value) (w : World) (h : Fs w.heap.size w v l) (hl : fsum l ≤ 1099511627776) (hn : name.length ≤ 1099511627776) :
    Calls Tryd.prog 65 #[v, S name] w (RetSs 9 w (values l name)) := by
  obtain ⟨pa, ca, rfl, hm⟩ := h.form
  have hll := fsum_length l
  go_enter Tryd.func65, Tryd.ntmps65
  go_wp2
  go_loopw [5, 10] (fun v i wr => ∃ k : Nat, i = .int .i64 k ∧ k ≤ l.length ∧ wr.ownsRow w.heap.size 9 1 v (values (l.take k) name).length ((values (l.take k) name).map S) ∧ Below w.heap.size w wr) (fun _ i _ => l.length - (intOf i).toNat)
  case atStart => exact ⟨0, rfl, Nat.zero_le _, World.ownsRow_nil _ _ _ _, Below.refl _ _⟩
  case round =>
    obtain ⟨k, rfl, hk, hown, hbel⟩ := hrel
    by_cases hlt : k < l.length
    · obtain ⟨b, off, rfl, hbb, c0, c1, c2⟩ := (h.below hbel).at k hlt
      have hf := fsum_mem (List.getElem_mem hlt)
      have HV := Lib.hid (values_snoc l k hlt name)
      have hvl := values_length (l.take k) name
      rw [List.length_take] at hvl
      by_cases hs : same l[k].n name = true
      · have HV : Hid (values (l.take (k + 1)) name = values (l.take k) name ++ [l[k].v]) := by show _ = _; rw [HV.out, if_pos hs]
        go_wp2_with (first | (at_builtin; refine wpList_app1 rfl _ _ 39 rfl w.heap.size (.string ByteArray.empty) 16 Tryd.underlying39 (by kernel_rfl) rfl rfl _ _ _ rfl (own_below (hown.alloc _) hb1) rfl (by omega) (by decide) (by have := hbel.size; have := hb1.size; simp at this; omega) ?_; intro a' c' w2 hown2 hb2 hz2) | (go_at_call 84; refine (Same_any _ _ _ (by unfold maxLen; omega) (by unfold maxLen; omega)).mono ?_; rintro e w1 ⟨rfl, hb1⟩; obtain ⟨hc1, hf1⟩ := bcell hb1))
        go_roundw
        case rel => exact ⟨k + 1, by go_num, by omega, by rw [HV.out]; simpa using hown2, ((hbel.alloc hbel.size _).trans (hb1.mono (by have := hbel.size; simp; omega))).trans hb2⟩
        case measure => simp [intOf]; omega
      · have HV : Hid (values (l.take (k + 1)) name = values (l.take k) name) := by show _ = _; rw [HV.out, if_neg hs, List.append_nil]
        have hs' : same l[k].n name = false := by simpa using hs
        clear hs
        go_wp2_with (go_at_call 84; refine (Same_any _ _ _ (by unfold maxLen; omega) (by unfold maxLen; omega)).mono ?_; rintro e w1 ⟨rfl, hb1⟩; obtain ⟨hc1, hf1⟩ := bcell hb1)
        go_roundw
        case rel => exact ⟨k + 1, by go_num, by omega, by rw [HV.out]; exact own_below (hown.alloc _) hb1, (hbel.alloc hbel.size _).trans (hb1.mono (by have := hbel.size; simp; omega))⟩
        case measure => simp [intOf]; omega
    · have hk' : k = l.length := by omega
      subst hk'
      rw [List.take_length] at *
      go_wp2
      go_ret
      exact ⟨_, rfl, hown, hbel⟩

end Go.Proofs.YtpbmmkonlboegaaDoor
