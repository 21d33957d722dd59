
/- The walks of layer 11 (hop). -/
import Derived.Test.YtnflihjgbkocnaaDoorElp
import Derived.Test.YtnflihjgbkocnaaDoorBase
namespace Go.Proofs.YtnflihjgbkocnaaDoor
open Go.RowKit Go.Dr

set_option maxRecDepth 100000 in
set_option maxHeartbeats 1000000 in
theorem Values_any (l : List F) (name : Bytes) (v : Value) (w : World) (h : Fs w.heap.size w v l) (hl : fsum l ≤ 1099511627776) (hn : name.length ≤ 1099511627776) :
    Calls Tryd.prog 51 #[v, S name] w (RetSs 9 w (values l name)) := by
  obtain ⟨pa, ca, rfl, hm⟩ := h.form
  have hll := fsum_length l
  go_enter Tryd.func51, Tryd.ntmps51
  go_wp2
  go_loopw [5, 10] (fun v i wr => ∃ k : Nat, i = .int .i64 k ∧ k ≤ l.length ∧ wr.ownsRow w.heap.size 9 1 v (values (l.take k) name).length ((values (l.take k) name).map S) ∧ Below w.heap.size w wr) (fun _ i _ => l.length - (intOf i).toNat)
  case atStart => exact ⟨0, rfl, Nat.zero_le _, World.ownsRow_nil _ _ _ _, Below.refl _ _⟩
  case round =>
    obtain ⟨k, rfl, hk, hown, hbel⟩ := hrel
    by_cases hlt : k < l.length
    · obtain ⟨b, off, rfl, hbb, c0, c1, c2⟩ := (h.below hbel).at k hlt
      have hf := fsum_mem (List.getElem_mem hlt)
      have HV := Lib.hid (values_snoc l k hlt name)
      have hvl := values_length (l.take k) name
      rw [List.length_take] at hvl
      by_cases hs : same l[k].n name = true
      · have HV : Hid (values (l.take (k + 1)) name = values (l.take k) name ++ [l[k].v]) := by show _ = _; rw [HV.out, if_pos hs]
        go_wp2_with (first | (at_builtin; refine wpList_app1 rfl _ _ 79 rfl w.heap.size (.string ByteArray.empty) 16 Tryd.underlying79 (by kernel_rfl) rfl rfl _ _ _ rfl (own_below (hown.alloc _) hb1) rfl (by omega) (by decide) (by have := hbel.size; have := hb1.size; simp at this; omega) ?_; intro a' c' w2 hown2 hb2 hz2) | (go_at_call 59; refine (Same_any _ _ _ (by unfold maxLen; omega) (by unfold maxLen; omega)).mono ?_; rintro e w1 ⟨rfl, hb1⟩; obtain ⟨hc1, hf1⟩ := bcell hb1))
        go_roundw
        case rel => exact ⟨k + 1, by go_num, by omega, by rw [HV.out]; simpa using hown2, ((hbel.alloc hbel.size _).trans (hb1.mono (by have := hbel.size; simp; omega))).trans hb2⟩
        case measure => simp [intOf]; omega
      · have HV : Hid (values (l.take (k + 1)) name = values (l.take k) name) := by show _ = _; rw [HV.out, if_neg hs, List.append_nil]
        have hs' : same l[k].n name = false := by simpa using hs
        clear hs
        go_wp2_with (go_at_call 59; refine (Same_any _ _ _ (by unfold maxLen; omega) (by unfold maxLen; omega)).mono ?_; rintro e w1 ⟨rfl, hb1⟩; obtain ⟨hc1, hf1⟩ := bcell hb1)
        go_roundw
        case rel => exact ⟨k + 1, by go_num, by omega, by rw [HV.out]; exact own_below (hown.alloc _) hb1, (hbel.alloc hbel.size _).trans (hb1.mono (by have := hbel.size; simp; omega))⟩
        case measure => simp [intOf]; omega
    · have hk' : k = l.length := by omega
      subst hk'
      rw [List.take_length] at *
      go_wp2
      go_ret
      exact ⟨_, rfl, hown, hbel⟩

end Go.Proofs.YtnflihjgbkocnaaDoor
namespace Go.Proofs.YtnflihjgbkocnaaDoor
open Go.RowKit Go.Dr

set_option maxRecDepth 100000 in
set_option maxHeartbeats 1000000 in
theorem refValues_any (l : List F) (name : Bytes) (v : Value) (w : World) (h : Fs w.heap.size w v l) (hl : fsum l ≤ 1099511627776) (hn : name.length ≤ 1099511627776) :
    Calls Tryd.prog 54 #[v, S name] w (RetSs 9 w (values l name)) := by
  obtain ⟨pa, ca, rfl, hm⟩ := h.form
  have hll := fsum_length l
  go_enter Tryd.func54, Tryd.ntmps54
  go_wp2
  go_loopw [5, 6] (fun v i wr => ∃ k : Nat, i = .int .i64 k ∧ k ≤ l.length ∧ wr.ownsRow w.heap.size 9 1 v (values (l.take k) name).length ((values (l.take k) name).map S) ∧ Below w.heap.size w wr) (fun _ i _ => l.length - (intOf i).toNat)
  case atStart => exact ⟨0, rfl, Nat.zero_le _, World.ownsRow_nil _ _ _ _, Below.refl _ _⟩
  case round =>
    obtain ⟨k, rfl, hk, hown, hbel⟩ := hrel
    by_cases hlt : k < l.length
    · obtain ⟨b, off, rfl, hbb, c0, c1, c2⟩ := (h.below hbel).at k hlt
      have hf := fsum_mem (List.getElem_mem hlt)
      have HV := Lib.hid (values_snoc l k hlt name)
      have hvl := values_length (l.take k) name
      rw [List.length_take] at hvl
      have hbw : b < wr.heap.size := Nat.lt_of_lt_of_le hbb hbel.size
      by_cases hs : same l[k].n name = true
      · have HV : Hid (values (l.take (k + 1)) name = values (l.take k) name ++ [l[k].v]) := by show _ = _; rw [HV.out, if_pos hs]
        go_wp2_with (first | (at_builtin; refine wpList_app1 rfl _ _ 79 rfl w.heap.size (.string ByteArray.empty) 16 Tryd.underlying79 (by kernel_rfl) rfl rfl _ _ _ rfl (own_below hown hb1) rfl (by omega) (by decide) (by have := hbel.size; have := hb1.size; omega) ?_; intro a' c' w2 hown2 hb2 hz2) | (go_at_call 61; refine (refSame_any _ _ _ (by omega) (by omega)).mono ?_; rintro e w1 ⟨rfl, hb1⟩; obtain ⟨hc1, hf1⟩ := bcell hb1))
        go_roundw
        case rel => exact ⟨k + 1, by go_num, by omega, by rw [HV.out]; simpa using hown2, (hbel.trans (hb1.mono hbel.size)).trans hb2⟩
        case measure => simp [intOf]; omega
      · have HV : Hid (values (l.take (k + 1)) name = values (l.take k) name) := by show _ = _; rw [HV.out, if_neg hs, List.append_nil]
        have hs' : same l[k].n name = false := by simpa using hs
        clear hs
        go_wp2_with (go_at_call 61; refine (refSame_any _ _ _ (by omega) (by omega)).mono ?_; rintro e w1 ⟨rfl, hb1⟩; obtain ⟨hc1, hf1⟩ := bcell hb1)
        go_roundw
        case rel => exact ⟨k + 1, by go_num, by omega, by rw [HV.out]; exact own_below hown hb1, hbel.trans (hb1.mono hbel.size)⟩
        case measure => simp [intOf]; omega
    · have hk' : k = l.length := by omega
      subst hk'
      rw [List.take_length] at *
      go_wp2
      go_ret
      exact ⟨_, rfl, hown, hbel⟩

theorem all_bounds (l : List F) (name : Bytes) (hl : fsum l ≤ 1099511627776) (k : Nat) (hlt : k < (values l name).length) :
    (values l name)[k].length ≤ 1099511627776 ∧ ((values l name).take k |>.flatMap elems).length + (elems (values l name)[k]).length ≤ 1099511627776 := by
  have h1 := ssum_values l name
  have h2 := ssum_mem (List.getElem_mem hlt)
  have h3 := ssum_length (((values l name).take k).flatMap elems ++ elems (values l name)[k])
  rw [← flat_snoc _ k hlt] at h3
  have h4 := ssum_flat ((values l name).take (k + 1))
  have h5 := ssum_take (values l name) (k + 1)
  have h6 := congrArg List.length (flat_snoc (values l name) k hlt)
  rw [List.length_append] at h6
  exact ⟨by omega, by omega⟩

set_option maxRecDepth 100000 in
set_option maxHeartbeats 1000000 in
theorem All_any (l : List F) (name : Bytes) (v : Value) (w : World) (h : Fs w.heap.size w v l) (hl : fsum l ≤ 1099511627776) (hn : name.length ≤ 1099511627776) :
    Calls Tryd.prog 50 #[v, S name] w (RetSs 9 w (allOf l name)) := by
  have HB := all_bounds l name hl
  go_enter Tryd.func50, Tryd.ntmps50
  go_wp2_with fail
  refine (Values_any l name v w h hl hn).mono ?_
  rintro e w1 ⟨vv, rfl, hvv, hb1⟩
  have hr : Ss w1.heap.size w1 vv (values l name) := Ss.own hvv
  have hu : Hid (allOf l name = (values l name).flatMap elems) := rfl
  generalize values l name = vs at *
  clear hvv
  obtain ⟨pa, ca, rfl, hm⟩ := hr.form
  go_wp2
  go_loopw [5, 12] (fun v i wr => ∃ k : Nat, i = .int .i64 k ∧ k ≤ vs.length ∧ wr.ownsRow w1.heap.size 9 1 v ((vs.take k).flatMap elems).length (((vs.take k).flatMap elems).map S) ∧ Below w1.heap.size w1 wr) (fun _ i _ => vs.length - (intOf i).toNat)
  case atStart => exact ⟨0, rfl, Nat.zero_le _, World.ownsRow_nil _ _ _ _, Below.refl _ _⟩
  case round =>
    obtain ⟨k, rfl, hk, hown, hbel⟩ := hrel
    by_cases hlt : k < vs.length
    · obtain ⟨b, off, rfl, hbb, c0⟩ := (hr.below hbel).at k hlt
      obtain ⟨q1, q2⟩ := HB k hlt
      have HF := Lib.hid (flat_snoc vs k hlt)
      clear HB
      generalize (vs.take k).flatMap elems = out at *
      generalize hes : elems vs[k] = es at *
      have HES := Lib.hid hes
      clear hes
      go_wp2_with (first | (at_builtin; refine wpList_appRd rfl _ _ 79 rfl w1.heap.size 9 (.string ByteArray.empty) 1 16 Tryd.underlying79 (by kernel_rfl) rfl (by decide) _ _ _ rfl (own_below hown hb2) _ _ _ _ rfl (Ss.own hve) (S_one _) (by unfold maxLen; omega) (by omega) (by have := hbel.size; have := hb2.size; omega) ?_; intro a' c' w3 hown3 hb3) | (go_at_call 58; refine (Elements_any _ _ (by omega)).mono ?_; rintro e w2 ⟨ve, rfl, hve, hb2⟩; rw [HES.out] at hve))
      go_roundw
      case rel => exact ⟨k + 1, by go_num, by omega, by rw [HF.out]; simpa using hown3, (hbel.trans (hb2.mono hbel.size)).trans hb3⟩
      case measure => simp [intOf]; omega
    · have hk' : k = vs.length := by omega
      subst hk'
      rw [List.take_length] at *
      go_wp2
      go_ret
      exact ⟨_, rfl, by rw [hu.out]; exact own_base hown hb1.size, Bl.tr hb1 hbel⟩

set_option maxRecDepth 100000 in
set_option maxHeartbeats 1000000 in
theorem refAll_any (l : List F) (name : Bytes) (v : Value) (w : World) (h : Fs w.heap.size w v l) (hl : fsum l ≤ 1099511627776) (hn : name.length ≤ 1099511627776) :
    Calls Tryd.prog 52 #[v, S name] w (RetSs 9 w (allOf l name)) := by
  have HB := all_bounds l name hl
  go_enter Tryd.func52, Tryd.ntmps52
  go_wp2_with fail
  refine (refValues_any l name v w h hl hn).mono ?_
  rintro e w1 ⟨vv, rfl, hvv, hb1⟩
  have hr : Ss w1.heap.size w1 vv (values l name) := Ss.own hvv
  have hu : Hid (allOf l name = (values l name).flatMap elems) := rfl
  generalize values l name = vs at *
  clear hvv
  obtain ⟨pa, ca, rfl, hm⟩ := hr.form
  go_wp2
  go_loopw [6, 7] (fun v i wr => ∃ k : Nat, i = .int .i64 k ∧ k ≤ vs.length ∧ wr.ownsRow w1.heap.size 9 1 v ((vs.take k).flatMap elems).length (((vs.take k).flatMap elems).map S) ∧ Below w1.heap.size w1 wr) (fun _ i _ => vs.length - (intOf i).toNat)
  case atStart => exact ⟨0, rfl, Nat.zero_le _, World.ownsRow_nil _ _ _ _, Below.refl _ _⟩
  case round =>
    obtain ⟨k, rfl, hk, hown, hbel⟩ := hrel
    by_cases hlt : k < vs.length
    · obtain ⟨b, off, rfl, hbb, c0⟩ := (hr.below hbel).at k hlt
      obtain ⟨q1, q2⟩ := HB k hlt
      have HF := Lib.hid (flat_snoc vs k hlt)
      clear HB
      generalize (vs.take k).flatMap elems = out at *
      generalize hes : elems vs[k] = es at *
      have HES := Lib.hid hes
      clear hes
      go_wp2_with (first | (at_builtin; refine wpList_appRd rfl _ _ 79 rfl w1.heap.size 9 (.string ByteArray.empty) 1 16 Tryd.underlying79 (by kernel_rfl) rfl (by decide) _ _ _ rfl (own_below hown hb2) _ _ _ _ rfl (Ss.own hve) (S_one _) (by unfold maxLen; omega) (by omega) (by have := hbel.size; have := hb2.size; omega) ?_; intro a' c' w3 hown3 hb3) | (go_at_call 60; refine (refElements_any _ _ (by omega)).mono ?_; rintro e w2 ⟨ve, rfl, hve, hb2⟩; rw [HES.out] at hve))
      go_roundw
      case rel => exact ⟨k + 1, by go_num, by omega, by rw [HF.out]; simpa using hown3, (hbel.trans (hb2.mono hbel.size)).trans hb3⟩
      case measure => simp [intOf]; omega
    · have hk' : k = vs.length := by omega
      subst hk'
      rw [List.take_length] at *
      go_wp2
      go_ret
      exact ⟨_, rfl, by rw [hu.out]; exact own_base hown hb1.size, Bl.tr hb1 hbel⟩

end Go.Proofs.YtnflihjgbkocnaaDoor
