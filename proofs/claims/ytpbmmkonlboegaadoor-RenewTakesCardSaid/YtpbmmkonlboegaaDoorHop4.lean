
/- The walks of layer 11 (hop), fourth part: Without, Strip. -/
import Derived.Test.YtpbmmkonlboegaaDoorHop3
import Derived.Deep.RegionHeld3
namespace Go.Proofs.YtpbmmkonlboegaaDoor
open Go.RowKit Go.Dr

theorem zeroInt (w : World) : (zeroValue 3).run Tryd.prog w = .ok (.int .i64 0) w := by kernel_rfl

set_option maxRecDepth 100000 in
set_option maxHeartbeats 1000000 in
theorem stays_any (f : F) (names : List Bytes) (M G : Nat) (w : World) (hM : MapSet w Tryd.prog 9 3 M (names.map low)) (hG : One w G 92 (.map (some M))) (hf : f.n.length ≤ 1099511627776) :
    Calls Tryd.prog 74 #[.agg #[S f.n, S f.v, .bool f.m], .pointer (some ⟨G, 0, none⟩)] w fun e w' => e = .returned (.bool (!among f.n names)) ∧ Below w.heap.size w w' := by
  have hG1 := hG.alloc (.cells #[S f.n, S f.v, .bool f.m] 31)
  have hM1 := hM.alloc (.cells #[S f.n, S f.v, .bool f.m] 31)
  have hGlt := hG.lt
  have cG := hG1.cell
  have hll := low_length f.n
  go_enter Tryd.func74, Tryd.ntmps74
  go_wp2_with fail
  go_region_held3 (fun w' => w'.cell? ⟨G, 0, none⟩ = some (.map (some M)) ∧ w'.cell? ⟨w.heap.size, 0, none⟩ = some (S f.n))
    (first | go_keep)
    ((go_at_call 54; refine (Lower_any _ _ (by unfold maxLen; omega)).mono ?_; rintro e w1 ⟨rfl, hb1⟩; have cG1 := (hG1.drew.below hb1 hG1.lt).cell; obtain ⟨hc1, hf1⟩ := bcell hb1; obtain ⟨c, hlk⟩ := ((hM1.drew).below hb1 hM1.lt).look Tryd.underlying9 Tryd.underlying3 Tryd.underlying92 (zeroInt _) (low f.n) (by unfold maxLen; omega); rw [among_map] at hlk))
  go_wp2
  go_ret
  exact ⟨rfl, ((Below.refl w.heap.size w).alloc (Nat.le_refl _) _).drew.trans (hb1.mono (B' := w.heap.size) (by simp))⟩

theorem map_low_snoc (names : List Bytes) (k : Nat) (h : k < names.length) : (names.take (k + 1)).map low = (names.take k).map low ++ [low names[k]] := by
  rw [take_snoc names k h, List.map_append]
  rfl

set_option maxRecDepth 100000 in
set_option maxHeartbeats 2000000 in
theorem Without_any (l : List F) (names : List Bytes) (v vn : Value) (w : World) (h : Fs w.heap.size w v l) (h' : Ss w.heap.size w vn names) (hl : fsum l ≤ 1099511627776) (hn : ssum names ≤ 1099511627776) :
    Calls Tryd.prog 52 #[v, vn] w (RetFs 31 w (without l names)) := by
  obtain ⟨pa, ca, rfl, hm⟩ := h.form
  obtain ⟨pn, cn, rfl, hmn⟩ := h'.form
  have hll := fsum_length l
  have hnl := ssum_length names
  have hmf : ∀ (fn : Fn) (first cap : Array Value) (w : World), (Instr.makeFunc fn first cap).run Tryd.prog w = .ok (.func fn first cap) w := fun _ _ _ _ => rfl
  have hmm := @run_makeMap Tryd.prog
  go_enter Tryd.func52, Tryd.ntmps52
  go_wp2
  go_loopw [15] (fun i wr => ∃ k : Nat, i = .int .i64 k ∧ k ≤ names.length ∧ MapSet wr Tryd.prog 9 3 w.heap.size ((names.take k).map low) ∧ One wr (w.heap.size + 1) 92 (.map (some w.heap.size)) ∧ Below w.heap.size w wr) (fun i _ => names.length - (intOf i).toNat)
  case atStart =>
    exact ⟨0, rfl, Nat.zero_le _, (MapSet.made w _ _ _).alloc _, by simpa using One.new (w.alloc (.map #[] 0)) 92 (.map (some w.heap.size)), ((Below.refl _ _).alloc (Nat.le_refl _) _).alloc (by simp) _⟩
  case round =>
    obtain ⟨k, rfl, hk, hM, hG, hbel⟩ := hrel
    have cG := hG.cell
    have hMlt := hM.lt
    have hGlt := hG.lt
    by_cases hlt : k < names.length
    · obtain ⟨b, off, rfl, hbb, c0⟩ := (h'.below hbel).at k hlt
      have hf := ssum_mem (List.getElem_mem hlt)
      have HM := Lib.hid (map_low_snoc names k hlt)
      have hll2 := low_length names[k]
      have hks : ((names.take k).map low).length ≤ k := by simp; omega
      go_wp2_with fail
      go_region_held3 (fun w' => w'.cell? ⟨w.heap.size + 1, 0, none⟩ = some (.map (some w.heap.size)))
        (first | go_keep)
        ((go_at_call 54; refine (Lower_any _ _ (by unfold maxLen; omega)).mono ?_; rintro e w1 ⟨rfl, hb1⟩; have hz1 : wr.heap.size ≤ w1.heap.size := hb1.size; have cG1 := (hG.drew.below hb1 hG.lt).cell; obtain ⟨w2, hup, hM2, hg2⟩ := ((hM.drew).below hb1 hM.lt).store Tryd.underlying9 Tryd.underlying3 Tryd.underlying92 (low names[k]) k (WalkArith.wf_i64 (by omega)) (by unfold maxLen; omega) (by unfold maxLen; omega); have cG2 := hg2.cell cG1 (by simp)))
      go_wp2
      go_roundw
      case rel => exact ⟨k + 1, by go_num, by omega, by rw [HM.out]; exact hM2, (hg2.block _ (by omega) (by simp)).trans (hG.drew.below hb1 hG.lt), (hbel.drew.trans (hb1.mono (B' := w.heap.size) hbel.size)).grown hg2 (by omega) (by simp)⟩
      case measure => simp [intOf]; omega
    · have hk' : k = names.length := by omega
      subst hk'
      rw [List.take_length] at hM
      go_wp2
      obtain ⟨wo, rfl⟩ : ∃ wo : World, wo = wr := ⟨_, rfl⟩
      go_loopw [9, 28] (fun v i wr' => ∃ k : Nat, i = .int .i64 k ∧ k ≤ l.length ∧ wr'.ownsRow wo.heap.size 31 3 v (without (l.take k) names).length (fcells (without (l.take k) names)) ∧ Below wo.heap.size wo wr') (fun _ i _ => l.length - (intOf i).toNat)
      case atStart => exact ⟨0, rfl, Nat.zero_le _, World.ownsRow_nil _ _ _ _, Below.refl _ _⟩
      case round =>
        obtain ⟨k, rfl, hk, hown, hbel2⟩ := hrel
        by_cases hlt : k < l.length
        · obtain ⟨b, off, rfl, hbb, c0, c1, c2⟩ := ((h.below hbel).below (hbel2.mono hbel.size)).at k hlt
          have hf := fsum_mem (List.getElem_mem hlt)
          have HV := Lib.hid (without_snoc l k hlt names)
          have hvl := without_length (l.take k) names
          rw [List.length_take] at hvl
          have hz2 := hbel2.size
          by_cases hs : among l[k].n names = true
          · have HV : Hid (without (l.take (k + 1)) names = without (l.take k) names) := by show _ = _; rw [HV.out, if_pos hs, List.append_nil]
            go_wp2_with (go_at_call 74; refine (stays_any l[k] names w.heap.size (w.heap.size + 1) _ ((hM.below hbel2 hM.lt).alloc _) ((hG.below hbel2 hG.lt).alloc _) (by omega)).mono ?_; rintro e w1 ⟨rfl, hb1⟩)
            go_roundw
            case rel => exact ⟨k + 1, by go_num, by omega, by rw [HV.out]; exact own_below (hown.alloc _) hb1, (hbel2.alloc (by omega) _).trans (hb1.mono (by simp; omega))⟩
            case measure => simp [intOf]; omega
          · have HV : Hid (without (l.take (k + 1)) names = without (l.take k) names ++ [l[k]]) := by show _ = _; rw [HV.out, if_neg hs]
            have hs' : among l[k].n names = false := by simpa using hs
            clear hs
            go_wp2_with (first | (at_builtin; refine wpList_appF rfl _ _ 23 rfl wo.heap.size Tryd.underlying23 (by kernel_rfl) _ _ _ rfl (own_below (hown.alloc _) hb1) rfl (by omega) (by have := hb1.size; simp at this; omega) rfl ?_; intro a' c' w2 hown2 hb2 hz3) | (go_at_call 74; refine (stays_any l[k] names w.heap.size (w.heap.size + 1) _ ((hM.below hbel2 hM.lt).alloc _) ((hG.below hbel2 hG.lt).alloc _) (by omega)).mono ?_; rintro e w1 ⟨rfl, hb1⟩; obtain ⟨hc1, hf1⟩ := bcell hb1))
            go_roundw
            case rel => exact ⟨k + 1, by go_num, by omega, by rw [HV.out, fcells_append, List.length_append]; exact hown2, ((hbel2.alloc (by omega) _).trans (hb1.mono (by simp; omega))).trans hb2⟩
            case measure => simp [intOf]; omega
        · have hk' : k = l.length := by omega
          subst hk'
          rw [List.take_length] at *
          go_wp2
          go_ret
          exact ⟨_, rfl, own_base hown hbel.size, Bl.tr hbel hbel2⟩

end Go.Proofs.YtpbmmkonlboegaaDoor
