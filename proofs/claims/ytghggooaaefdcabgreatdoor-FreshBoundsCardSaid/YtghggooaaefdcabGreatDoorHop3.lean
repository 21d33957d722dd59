
/- The walks of layer 11 (hop) and of its reference, third part. -/
import Derived.Test.YtghggooaaefdcabGreatDoorHop
import Derived.Deep.RegionHeld3
namespace Go.Proofs.YtghggooaaefdcabGreatDoor
open Go.RowKit Go.Dr

theorem any_take_succ {α : Type} (p : α → Bool) (l : List α) (k : Nat) (h : k < l.length) (h1 : (l.take k).any p = false) (h2 : p l[k] = false) : (l.take (k + 1)).any p = false := by
  rw [take_snoc l k h, List.any_append, h1]
  simp [h2]
theorem any_hit {α : Type} (p : α → Bool) (l : List α) (k : Nat) (h : k < l.length) (h2 : p l[k] = true) : l.any p = true := by
  rw [List.any_eq_true]
  exact ⟨_, List.getElem_mem h, h2⟩

set_option maxRecDepth 100000 in
set_option maxHeartbeats 1000000 in
theorem Among_any (name : Bytes) (names : List Bytes) (v : Value) (w : World) (h : Ss w.heap.size w v names) (hn : name.length ≤ 1099511627776) (hl : ssum names ≤ 1099511627776) :
    Calls Tryz.prog 31 #[S name, v] w fun e w' => e = .returned (.bool (among name names)) ∧ Below w.heap.size w w' := by
  obtain ⟨pa, ca, rfl, hm⟩ := h.form
  go_enter Tryz.func31, Tryz.ntmps31
  go_wp2
  go_loopw [5] (fun i wr => ∃ k : Nat, i = .int .i64 k ∧ k ≤ names.length ∧ Hid ((names.take k).any (same name) = false) ∧ Below w.heap.size w wr) (fun i _ => names.length - (intOf i).toNat)
  case atStart => exact ⟨0, rfl, Nat.zero_le _, rfl, Below.refl _ _⟩
  case round =>
    obtain ⟨k, rfl, hk, HN, hbel⟩ := hrel
    by_cases hlt : k < names.length
    · obtain ⟨b, off, rfl, hbb, c0⟩ := (h.below hbel).at k hlt
      have hf := ssum_mem (List.getElem_mem hlt)
      by_cases hs : same name names[k] = true
      · have HY := Lib.hid (any_hit (same name) names k hlt hs)
        go_wp2_with (go_at_call 50; refine (refSame_any _ _ _ (by omega) (by omega)).mono ?_; rintro e w1 ⟨rfl, hb1⟩)
        go_ret
        exact ⟨ret_bool (by rw [among, HY.out]), hbel.trans (hb1.mono hbel.size)⟩
      · have hs' : same name names[k] = false := by simpa using hs
        have HY := Lib.hid (any_take_succ (same name) names k hlt HN.out hs')
        clear hs
        go_wp2_with (go_at_call 50; refine (refSame_any _ _ _ (by omega) (by omega)).mono ?_; rintro e w1 ⟨rfl, hb1⟩)
        go_roundw
        case rel => exact ⟨k + 1, by go_num, by omega, HY, hbel.trans (hb1.mono hbel.size)⟩
        case measure => simp [intOf]; omega
    · go_wp2
      go_ret
      exact ⟨ret_bool (by have := HN.out; rw [List.take_of_length_le (by omega)] at this; rw [among, this]), hbel⟩

theorem Among_at (b : Bool) (name : Bytes) (names : List Bytes) (hbn : among name names = b) (v : Value) (w : World) (h : Ss w.heap.size w v names) (hn : name.length ≤ 1099511627776) (hl : ssum names ≤ 1099511627776) :
    Calls Tryz.prog 31 #[S name, v] w fun e w' => e = .returned (.bool b) ∧ Below w.heap.size w w' := by
  rw [← hbn]
  exact Among_any name names v w h hn hl

set_option maxRecDepth 100000 in
set_option maxHeartbeats 1000000 in
theorem Has_any (l : List F) (name el : Bytes) (v : Value) (w : World) (h : Fs w.heap.size w v l) (hl : fsum l ≤ 1099511627776) (hn : name.length ≤ 1099511627776) (he : el.length ≤ 1099511627776) :
    Calls Tryz.prog 30 #[v, S name, S el] w fun e w' => e = .returned (.bool ((allOf l name).any fun x => same x el)) ∧ Below w.heap.size w w' := by
  have HS := ssum_all l name
  go_enter Tryz.func30, Tryz.ntmps30
  go_wp2_with fail
  refine (All_any l name v w h hl hn).mono ?_
  rintro e w1 ⟨vv, rfl, hvv, hb1⟩
  have hr : Ss w1.heap.size w1 vv (allOf l name) := Ss.own hvv
  generalize hvs : allOf l name = vs at *
  have HVS := Lib.hid hvs
  clear hvv hvs
  obtain ⟨pa, ca, rfl, hm⟩ := hr.form
  go_wp2
  go_loopw [13] (fun i wr => ∃ k : Nat, i = .int .i64 k ∧ k ≤ vs.length ∧ Hid ((vs.take k).any (fun x => same x el) = false) ∧ Below w1.heap.size w1 wr) (fun i _ => vs.length - (intOf i).toNat)
  case atStart => exact ⟨0, rfl, Nat.zero_le _, rfl, Below.refl _ _⟩
  case round =>
    obtain ⟨k, rfl, hk, HN, hbel⟩ := hrel
    by_cases hlt : k < vs.length
    · obtain ⟨b, off, rfl, hbb, c0⟩ := (hr.below hbel).at k hlt
      have hf := ssum_mem (List.getElem_mem hlt)
      by_cases hs : same vs[k] el = true
      · have HY := Lib.hid (any_hit (fun x => same x el) vs k hlt hs)
        go_wp2_with (go_at_call 49; refine (Same_any _ _ _ (by unfold maxLen; omega) (by unfold maxLen; omega)).mono ?_; rintro e w2 ⟨rfl, hb2⟩)
        go_ret
        exact ⟨ret_bool (by rw [HVS.out, HY.out]), Bl.tr hb1 (hbel.trans (hb2.mono hbel.size))⟩
      · have hs' : same vs[k] el = false := by simpa using hs
        have HY := Lib.hid (any_take_succ (fun x => same x el) vs k hlt HN.out hs')
        clear hs
        go_wp2_with (go_at_call 49; refine (Same_any _ _ _ (by unfold maxLen; omega) (by unfold maxLen; omega)).mono ?_; rintro e w2 ⟨rfl, hb2⟩)
        go_roundw
        case rel => exact ⟨k + 1, by go_num, by omega, HY, hbel.trans (hb2.mono hbel.size)⟩
        case measure => simp [intOf]; omega
    · go_wp2
      go_ret
      exact ⟨ret_bool (by have := HN.out; rw [List.take_of_length_le (by omega)] at this; rw [HVS.out, this]), Bl.tr hb1 hbel⟩

/-- The texts of the names of fields of a connection alone. -/
def connection : Bytes := [99, 111, 110, 110, 101, 99, 116, 105, 111, 110]
def own : List Bytes := [connection,
  [112, 114, 111, 120, 121, 45, 99, 111, 110, 110, 101, 99, 116, 105, 111, 110],
  [107, 101, 101, 112, 45, 97, 108, 105, 118, 101],
  [116, 114, 97, 110, 115, 102, 101, 114, 45, 101, 110, 99, 111, 100, 105, 110, 103],
  [117, 112, 103, 114, 97, 100, 101], [116, 101], [116, 114, 97, 105, 108, 101, 114],
  [112, 114, 111, 120, 121, 45, 97, 117, 116, 104, 101, 110, 116, 105, 99, 97, 116, 101],
  [112, 114, 111, 120, 121, 45, 97, 117, 116, 104, 111, 114, 105, 122, 97, 116, 105, 111, 110]]
def strip (l : List F) : List F := without (without l (allOf l connection)) own
def viaF (who : Bytes) : F := ⟨[118, 105, 97], who, false⟩
theorem ssum_own : ssum own = 115 := by decide

end Go.Proofs.YtghggooaaefdcabGreatDoor
namespace Go.Proofs.YtghggooaaefdcabGreatDoor
open Go.RowKit Go.Dr

theorem zeroInt (w : World) : (zeroValue 3).run Tryz.prog w = .ok (.int .i64 0) w := by kernel_rfl

theorem map_low_snoc (names : List Bytes) (k : Nat) (h : k < names.length) : (names.take (k + 1)).map low = (names.take k).map low ++ [low names[k]] := by
  rw [take_snoc names k h, List.map_append]
  rfl

end Go.Proofs.YtghggooaaefdcabGreatDoor
namespace Go.Proofs.YtghggooaaefdcabGreatDoor
open Go.RowKit Go.Dr

theorem without_both (l : List F) (a b : List Bytes) : without l (a ++ b) = without (without l b) a := by
  simp only [without, List.filter_filter, among, List.any_append]
  congr 1
  funext f
  simp [Bool.not_or]

end Go.Proofs.YtghggooaaefdcabGreatDoor
