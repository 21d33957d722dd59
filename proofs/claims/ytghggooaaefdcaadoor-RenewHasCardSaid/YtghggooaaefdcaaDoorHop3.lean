
/- The walks of layer 11 (hop) and of its reference, third part. -/
import Derived.Test.YtghggooaaefdcaaDoorHop
import Derived.Deep.RegionHeld3
namespace Go.Proofs.YtghggooaaefdcaaDoor
open Go.RowKit Go.Dr

theorem any_take_succ {α : Type} (p : α → Bool) (l : List α) (k : Nat) (h : k < l.length) (h1 : (l.take k).any p = false) (h2 : p l[k] = false) : (l.take (k + 1)).any p = false := by
  rw [take_snoc l k h, List.any_append, h1]
  simp [h2]
theorem any_hit {α : Type} (p : α → Bool) (l : List α) (k : Nat) (h : k < l.length) (h2 : p l[k] = true) : l.any p = true := by
  rw [List.any_eq_true]
  exact ⟨_, List.getElem_mem h, h2⟩

set_option maxRecDepth 100000 in
set_option maxHeartbeats 1000000 in
theorem Has_any (l : List F) (name el : Bytes) (v : Value) (w : World) (h : Fs w.heap.size w v l) (hl : fsum l ≤ 1099511627776) (hn : name.length ≤ 1099511627776) (he : el.length ≤ 1099511627776) :
    Calls Tryd.prog 96 #[v, S name, S el] w fun e w' => e = .returned (.bool ((allOf l name).any fun x => same x el)) ∧ Below w.heap.size w w' := by
  have HS := ssum_all l name
  go_enter Tryd.func96, Tryd.ntmps96
  go_wp2_with fail
  refine (All_any l name v w h hl hn).mono ?_
  rintro e w1 ⟨vv, rfl, hvv, hb1⟩
  have hr : Ss w1.heap.size w1 vv (allOf l name) := Ss.own hvv
  generalize hvs : allOf l name = vs at *
  have HVS := Lib.hid hvs
  clear hvv hvs
  obtain ⟨pa, ca, rfl, hm⟩ := hr.form
  go_wp2
  go_loopw [13] (fun i wr => ∃ k : Nat, i = .int .i64 k ∧ k ≤ vs.length ∧ Hid ((vs.take k).any (fun x => same x el) = false) ∧ Below w1.heap.size w1 wr) (fun i _ => vs.length - (intOf i).toNat)
  case atStart => exact ⟨0, rfl, Nat.zero_le _, rfl, Below.refl _ _⟩
  case round =>
    obtain ⟨k, rfl, hk, HN, hbel⟩ := hrel
    by_cases hlt : k < vs.length
    · obtain ⟨b, off, rfl, hbb, c0⟩ := (hr.below hbel).at k hlt
      have hf := ssum_mem (List.getElem_mem hlt)
      by_cases hs : same vs[k] el = true
      · have HY := Lib.hid (any_hit (fun x => same x el) vs k hlt hs)
        go_wp2_with (go_at_call 107; refine (Same_any _ _ _ (by unfold maxLen; omega) (by unfold maxLen; omega)).mono ?_; rintro e w2 ⟨rfl, hb2⟩)
        go_ret
        exact ⟨ret_bool (by rw [HVS.out, HY.out]), Bl.tr hb1 (hbel.trans (hb2.mono hbel.size))⟩
      · have hs' : same vs[k] el = false := by simpa using hs
        have HY := Lib.hid (any_take_succ (fun x => same x el) vs k hlt HN.out hs')
        clear hs
        go_wp2_with (go_at_call 107; refine (Same_any _ _ _ (by unfold maxLen; omega) (by unfold maxLen; omega)).mono ?_; rintro e w2 ⟨rfl, hb2⟩)
        go_roundw
        case rel => exact ⟨k + 1, by go_num, by omega, HY, hbel.trans (hb2.mono hbel.size)⟩
        case measure => simp [intOf]; omega
    · go_wp2
      go_ret
      exact ⟨ret_bool (by have := HN.out; rw [List.take_of_length_le (by omega)] at this; rw [HVS.out, this]), Bl.tr hb1 hbel⟩

/-- The texts of the names of fields of a connection alone. -/
def connection : Bytes := [99, 111, 110, 110, 101, 99, 116, 105, 111, 110]
def own : List Bytes := [connection,
  [112, 114, 111, 120, 121, 45, 99, 111, 110, 110, 101, 99, 116, 105, 111, 110],
  [107, 101, 101, 112, 45, 97, 108, 105, 118, 101],
  [116, 114, 97, 110, 115, 102, 101, 114, 45, 101, 110, 99, 111, 100, 105, 110, 103],
  [117, 112, 103, 114, 97, 100, 101], [116, 101], [116, 114, 97, 105, 108, 101, 114],
  [112, 114, 111, 120, 121, 45, 97, 117, 116, 104, 101, 110, 116, 105, 99, 97, 116, 101],
  [112, 114, 111, 120, 121, 45, 97, 117, 116, 104, 111, 114, 105, 122, 97, 116, 105, 111, 110]]
def strip (l : List F) : List F := without (without l (allOf l connection)) own
def viaF (who : Bytes) : F := ⟨[118, 105, 97], who, false⟩
theorem ssum_own : ssum own = 115 := by decide

set_option maxRecDepth 100000 in
set_option maxHeartbeats 1000000 in
theorem Via_any (l : List F) (who : Bytes) (v : Value) (w : World) (h : Fs w.heap.size w v l) (hl : fsum l ≤ 1099511627776) :
    Calls Tryd.prog 64 #[v, S who] w (RetFs 45 w (l ++ [viaF who])) := by
  have hll := fsum_length l
  go_enter Tryd.func64, Tryd.ntmps64
  go_wp2_with (first | (at_builtin; refine wpList_appF rfl _ _ 26 rfl w.heap.size Tryd.underlying26 (by kernel_rfl) _ _ _ rfl hown2 rfl (by omega) (by have := hb2.size; omega) rfl ?_; intro a'' c'' w3 hown3 hb3 hz3) | (at_builtin; refine wpList_appRd rfl _ _ 26 rfl w.heap.size 45 (.agg #[.string ByteArray.empty, .string ByteArray.empty, .bool false]) 3 40 Tryd.underlying26 (by kernel_rfl) rfl (by decide) _ _ _ rfl (World.ownsRow_nil _ _ _ _) _ _ _ _ rfl h (fcells_one _) (by unfold maxLen; omega) (by omega) (Nat.le_refl _) ?_; intro a' c' w2 hown2 hb2; simp only [Nat.zero_add, List.nil_append] at hown2))
  go_ret
  exact ⟨_, rfl, by rw [fcells_append, List.length_append]; exact hown3, hb2.trans hb3⟩

end Go.Proofs.YtghggooaaefdcaaDoor
namespace Go.Proofs.YtghggooaaefdcaaDoor
open Go.RowKit Go.Dr

theorem zeroInt (w : World) : (zeroValue 3).run Tryd.prog w = .ok (.int .i64 0) w := by kernel_rfl

set_option maxRecDepth 100000 in
set_option maxHeartbeats 1000000 in
theorem stays_any (f : F) (names : List Bytes) (M G : Nat) (w : World) (hM : MapSet w Tryd.prog 9 3 M (names.map low)) (hG : One w G 126 (.map (some M))) (hf : f.n.length ≤ 1099511627776) :
    Calls Tryd.prog 90 #[.agg #[S f.n, S f.v, .bool f.m], .pointer (some ⟨G, 0, none⟩)] w fun e w' => e = .returned (.bool (!among f.n names)) ∧ Below w.heap.size w w' := by
  have hG1 := hG.alloc (.cells #[S f.n, S f.v, .bool f.m] 45)
  have hM1 := hM.alloc (.cells #[S f.n, S f.v, .bool f.m] 45)
  have hGlt := hG.lt
  have cG := hG1.cell
  have hll := low_length f.n
  go_enter Tryd.func90, Tryd.ntmps90
  go_wp2_with fail
  go_region_held3 (fun w' => w'.cell? ⟨G, 0, none⟩ = some (.map (some M)) ∧ w'.cell? ⟨w.heap.size, 0, none⟩ = some (S f.n))
    (first | go_keep)
    ((go_at_call 89; refine (Lower_any _ _ (by unfold maxLen; omega)).mono ?_; rintro e w1 ⟨rfl, hb1⟩; have cG1 := (hG1.drew.below hb1 hG1.lt).cell; obtain ⟨hc1, hf1⟩ := bcell hb1; obtain ⟨c, hlk⟩ := ((hM1.drew).below hb1 hM1.lt).look Tryd.underlying9 Tryd.underlying3 Tryd.underlying126 (zeroInt _) (low f.n) (by unfold maxLen; omega); rw [among_map] at hlk))
  go_wp2
  go_ret
  exact ⟨rfl, ((Below.refl w.heap.size w).alloc (Nat.le_refl _) _).drew.trans (hb1.mono (B' := w.heap.size) (by simp))⟩

theorem map_low_snoc (names : List Bytes) (k : Nat) (h : k < names.length) : (names.take (k + 1)).map low = (names.take k).map low ++ [low names[k]] := by
  rw [take_snoc names k h, List.map_append]
  rfl

set_option maxRecDepth 100000 in
set_option maxHeartbeats 2000000 in
theorem Without_any (l : List F) (names : List Bytes) (v vn : Value) (w : World) (h : Fs w.heap.size w v l) (h' : Ss w.heap.size w vn names) (hl : fsum l ≤ 1099511627776) (hn : ssum names ≤ 1099511627776) :
    Calls Tryd.prog 67 #[v, vn] w (RetFs 45 w (without l names)) := by
  obtain ⟨pa, ca, rfl, hm⟩ := h.form
  obtain ⟨pn, cn, rfl, hmn⟩ := h'.form
  have hll := fsum_length l
  have hnl := ssum_length names
  have hmf : ∀ (fn : Fn) (first cap : Array Value) (w : World), (Instr.makeFunc fn first cap).run Tryd.prog w = .ok (.func fn first cap) w := fun _ _ _ _ => rfl
  have hmm := @run_makeMap Tryd.prog
  go_enter Tryd.func67, Tryd.ntmps67
  go_wp2
  go_loopw [15] (fun i wr => ∃ k : Nat, i = .int .i64 k ∧ k ≤ names.length ∧ MapSet wr Tryd.prog 9 3 w.heap.size ((names.take k).map low) ∧ One wr (w.heap.size + 1) 126 (.map (some w.heap.size)) ∧ Below w.heap.size w wr) (fun i _ => names.length - (intOf i).toNat)
  case atStart =>
    exact ⟨0, rfl, Nat.zero_le _, (MapSet.made w _ _ _).alloc _, by simpa using One.new (w.alloc (.map #[] 0)) 126 (.map (some w.heap.size)), ((Below.refl _ _).alloc (Nat.le_refl _) _).alloc (by simp) _⟩
  case round =>
    obtain ⟨k, rfl, hk, hM, hG, hbel⟩ := hrel
    have cG := hG.cell
    have hMlt := hM.lt
    have hGlt := hG.lt
    by_cases hlt : k < names.length
    · obtain ⟨b, off, rfl, hbb, c0⟩ := (h'.below hbel).at k hlt
      have hf := ssum_mem (List.getElem_mem hlt)
      have HM := Lib.hid (map_low_snoc names k hlt)
      have hll2 := low_length names[k]
      have hks : ((names.take k).map low).length ≤ k := by simp; omega
      go_wp2_with fail
      go_region_held3 (fun w' => w'.cell? ⟨w.heap.size + 1, 0, none⟩ = some (.map (some w.heap.size)))
        (first | go_keep)
        ((go_at_call 89; refine (Lower_any _ _ (by unfold maxLen; omega)).mono ?_; rintro e w1 ⟨rfl, hb1⟩; have hz1 : wr.heap.size ≤ w1.heap.size := hb1.size; have cG1 := (hG.drew.below hb1 hG.lt).cell; obtain ⟨w2, hup, hM2, hg2⟩ := ((hM.drew).below hb1 hM.lt).store Tryd.underlying9 Tryd.underlying3 Tryd.underlying126 (low names[k]) k (WalkArith.wf_i64 (by omega)) (by unfold maxLen; omega) (by unfold maxLen; omega); have cG2 := hg2.cell cG1 (by simp)))
      go_wp2
      go_roundw
      case rel => exact ⟨k + 1, by go_num, by omega, by rw [HM.out]; exact hM2, (hg2.block _ (by omega) (by simp)).trans (hG.drew.below hb1 hG.lt), (hbel.drew.trans (hb1.mono (B' := w.heap.size) hbel.size)).grown hg2 (by omega) (by simp)⟩
      case measure => simp [intOf]; omega
    · have hk' : k = names.length := by omega
      subst hk'
      rw [List.take_length] at hM
      go_wp2
      obtain ⟨wo, rfl⟩ : ∃ wo : World, wo = wr := ⟨_, rfl⟩
      go_loopw [9, 28] (fun v i wr' => ∃ k : Nat, i = .int .i64 k ∧ k ≤ l.length ∧ wr'.ownsRow wo.heap.size 45 3 v (without (l.take k) names).length (fcells (without (l.take k) names)) ∧ Below wo.heap.size wo wr') (fun _ i _ => l.length - (intOf i).toNat)
      case atStart => exact ⟨0, rfl, Nat.zero_le _, World.ownsRow_nil _ _ _ _, Below.refl _ _⟩
      case round =>
        obtain ⟨k, rfl, hk, hown, hbel2⟩ := hrel
        by_cases hlt : k < l.length
        · obtain ⟨b, off, rfl, hbb, c0, c1, c2⟩ := ((h.below hbel).below (hbel2.mono hbel.size)).at k hlt
          have hf := fsum_mem (List.getElem_mem hlt)
          have HV := Lib.hid (without_snoc l k hlt names)
          have hvl := without_length (l.take k) names
          rw [List.length_take] at hvl
          have hz2 := hbel2.size
          by_cases hs : among l[k].n names = true
          · have HV : Hid (without (l.take (k + 1)) names = without (l.take k) names) := by show _ = _; rw [HV.out, if_pos hs, List.append_nil]
            go_wp2_with (go_at_call 90; refine (stays_any l[k] names w.heap.size (w.heap.size + 1) _ ((hM.below hbel2 hM.lt).alloc _) ((hG.below hbel2 hG.lt).alloc _) (by omega)).mono ?_; rintro e w1 ⟨rfl, hb1⟩)
            go_roundw
            case rel => exact ⟨k + 1, by go_num, by omega, by rw [HV.out]; exact own_below (hown.alloc _) hb1, (hbel2.alloc (by omega) _).trans (hb1.mono (by simp; omega))⟩
            case measure => simp [intOf]; omega
          · have HV : Hid (without (l.take (k + 1)) names = without (l.take k) names ++ [l[k]]) := by show _ = _; rw [HV.out, if_neg hs]
            have hs' : among l[k].n names = false := by simpa using hs
            clear hs
            go_wp2_with (first | (at_builtin; refine wpList_appF rfl _ _ 26 rfl wo.heap.size Tryd.underlying26 (by kernel_rfl) _ _ _ rfl (own_below (hown.alloc _) hb1) rfl (by omega) (by have := hb1.size; simp at this; omega) rfl ?_; intro a' c' w2 hown2 hb2 hz3) | (go_at_call 90; refine (stays_any l[k] names w.heap.size (w.heap.size + 1) _ ((hM.below hbel2 hM.lt).alloc _) ((hG.below hbel2 hG.lt).alloc _) (by omega)).mono ?_; rintro e w1 ⟨rfl, hb1⟩; obtain ⟨hc1, hf1⟩ := bcell hb1))
            go_roundw
            case rel => exact ⟨k + 1, by go_num, by omega, by rw [HV.out, fcells_append, List.length_append]; exact hown2, ((hbel2.alloc (by omega) _).trans (hb1.mono (by simp; omega))).trans hb2⟩
            case measure => simp [intOf]; omega
        · have hk' : k = l.length := by omega
          subst hk'
          rw [List.take_length] at *
          go_wp2
          go_ret
          exact ⟨_, rfl, own_base hown hbel.size, Bl.tr hbel hbel2⟩

end Go.Proofs.YtghggooaaefdcaaDoor
namespace Go.Proofs.YtghggooaaefdcaaDoor
open Go.RowKit Go.Dr

theorem without_both (l : List F) (a b : List Bytes) : without l (a ++ b) = without (without l b) a := by
  simp only [without, List.filter_filter, among, List.any_append]
  congr 1
  funext f
  simp [Bool.not_or]

end Go.Proofs.YtghggooaaefdcaaDoor
