
/- The walks of layer 11 (hop) and of its reference, third part. -/
import Derived.Test.YtpbmmkonlboegaaDoorHop2
namespace Go.Proofs.YtpbmmkonlboegaaDoor
open Go.RowKit Go.Dr

theorem any_take_succ {α : Type} (p : α → Bool) (l : List α) (k : Nat) (h : k < l.length) (h1 : (l.take k).any p = false) (h2 : p l[k] = false) : (l.take (k + 1)).any p = false := by
  rw [take_snoc l k h, List.any_append, h1]
  simp [h2]
theorem any_hit {α : Type} (p : α → Bool) (l : List α) (k : Nat) (h : k < l.length) (h2 : p l[k] = true) : l.any p = true := by
  rw [List.any_eq_true]
  exact ⟨_, List.getElem_mem h, h2⟩

set_option maxRecDepth 100000 in
set_option maxHeartbeats 1000000 in
theorem Among_any (name : Bytes) (names : List Bytes) (v : Value) (w : World) (h : Ss w.heap.size w v names) (hn : name.length ≤ 1099511627776) (hl : ssum names ≤ 1099511627776) :
    Calls Tryd.prog 79 #[S name, v] w fun e w' => e = .returned (.bool (among name names)) ∧ Below w.heap.size w w' := by
  obtain ⟨pa, ca, rfl, hm⟩ := h.form
  go_enter Tryd.func79, Tryd.ntmps79
  go_wp2
  go_loopw [5] (fun i wr => ∃ k : Nat, i = .int .i64 k ∧ k ≤ names.length ∧ Hid ((names.take k).any (same name) = false) ∧ Below w.heap.size w wr) (fun i _ => names.length - (intOf i).toNat)
  case atStart => exact ⟨0, rfl, Nat.zero_le _, rfl, Below.refl _ _⟩
  case round =>
    obtain ⟨k, rfl, hk, HN, hbel⟩ := hrel
    by_cases hlt : k < names.length
    · obtain ⟨b, off, rfl, hbb, c0⟩ := (h.below hbel).at k hlt
      have hf := ssum_mem (List.getElem_mem hlt)
      by_cases hs : same name names[k] = true
      · have HY := Lib.hid (any_hit (same name) names k hlt hs)
        go_wp2_with (go_at_call 68; refine (refSame_any _ _ _ (by omega) (by omega)).mono ?_; rintro e w1 ⟨rfl, hb1⟩)
        go_ret
        exact ⟨ret_bool (by rw [among, HY.out]), hbel.trans (hb1.mono hbel.size)⟩
      · have hs' : same name names[k] = false := by simpa using hs
        have HY := Lib.hid (any_take_succ (same name) names k hlt HN.out hs')
        clear hs
        go_wp2_with (go_at_call 68; refine (refSame_any _ _ _ (by omega) (by omega)).mono ?_; rintro e w1 ⟨rfl, hb1⟩)
        go_roundw
        case rel => exact ⟨k + 1, by go_num, by omega, HY, hbel.trans (hb1.mono hbel.size)⟩
        case measure => simp [intOf]; omega
    · go_wp2
      go_ret
      exact ⟨ret_bool (by have := HN.out; rw [List.take_of_length_le (by omega)] at this; rw [among, this]), hbel⟩

theorem Among_at (b : Bool) (name : Bytes) (names : List Bytes) (hbn : among name names = b) (v : Value) (w : World) (h : Ss w.heap.size w v names) (hn : name.length ≤ 1099511627776) (hl : ssum names ≤ 1099511627776) :
    Calls Tryd.prog 79 #[S name, v] w fun e w' => e = .returned (.bool b) ∧ Below w.heap.size w w' := by
  rw [← hbn]
  exact Among_any name names v w h hn hl

set_option maxRecDepth 100000 in
set_option maxHeartbeats 1000000 in
theorem refWithout_any (l : List F) (names : List Bytes) (v vn : Value) (w : World) (h : Fs w.heap.size w v l) (h' : Ss w.heap.size w vn names) (hl : fsum l ≤ 1099511627776) (hn : ssum names ≤ 1099511627776) :
    Calls Tryd.prog 61 #[v, vn] w (RetFs 31 w (without l names)) := by
  obtain ⟨pa, ca, rfl, hm⟩ := h.form
  have hll := fsum_length l
  go_enter Tryd.func61, Tryd.ntmps61
  go_wp2
  go_loopw [5, 6] (fun v i wr => ∃ k : Nat, i = .int .i64 k ∧ k ≤ l.length ∧ wr.ownsRow w.heap.size 31 3 v (without (l.take k) names).length (fcells (without (l.take k) names)) ∧ Below w.heap.size w wr) (fun _ i _ => l.length - (intOf i).toNat)
  case atStart => exact ⟨0, rfl, Nat.zero_le _, World.ownsRow_nil _ _ _ _, Below.refl _ _⟩
  case round =>
    obtain ⟨k, rfl, hk, hown, hbel⟩ := hrel
    by_cases hlt : k < l.length
    · obtain ⟨b, off, rfl, hbb, c0, c1, c2⟩ := (h.below hbel).at k hlt
      have hf := fsum_mem (List.getElem_mem hlt)
      have HV := Lib.hid (without_snoc l k hlt names)
      have hvl := without_length (l.take k) names
      rw [List.length_take] at hvl
      have hbw : b < wr.heap.size := Nat.lt_of_lt_of_le hbb hbel.size
      have hnr := (h'.below hbel).mono hbel.size
      by_cases hs : among l[k].n names = true
      · have HV : Hid (without (l.take (k + 1)) names = without (l.take k) names) := by show _ = _; rw [HV.out, if_pos hs, List.append_nil]
        go_wp2_with (go_at_call 79; refine (Among_any _ _ _ _ hnr (by omega) hn).mono ?_; rintro e w1 ⟨rfl, hb1⟩; obtain ⟨hc1, hf1⟩ := bcell hb1)
        go_roundw
        case rel => exact ⟨k + 1, by go_num, by omega, by rw [HV.out]; exact own_below hown hb1, hbel.trans (hb1.mono hbel.size)⟩
        case measure => simp [intOf]; omega
      · have HV : Hid (without (l.take (k + 1)) names = without (l.take k) names ++ [l[k]]) := by show _ = _; rw [HV.out, if_neg hs]
        have hs' : among l[k].n names = false := by simpa using hs
        clear hs
        go_wp2_with (first | (at_builtin; refine wpList_appF rfl _ _ 23 rfl w.heap.size Tryd.underlying23 (by kernel_rfl) _ _ _ rfl (own_below hown hb1) rfl (by omega) (by have := hbel.size; have := hb1.size; omega) rfl ?_; intro a' c' w2 hown2 hb2 hz2) | (go_at_call 79; refine (Among_any _ _ _ _ hnr (by omega) hn).mono ?_; rintro e w1 ⟨rfl, hb1⟩; obtain ⟨hc1, hf1⟩ := bcell hb1))
        go_roundw
        case rel => exact ⟨k + 1, by go_num, by omega, by rw [HV.out, fcells_append, List.length_append]; exact hown2, (hbel.trans (hb1.mono hbel.size)).trans hb2⟩
        case measure => simp [intOf]; omega
    · have hk' : k = l.length := by omega
      subst hk'
      rw [List.take_length] at *
      go_wp2
      go_ret
      exact ⟨_, rfl, hown, hbel⟩

/-- The texts of the names of fields of a connection alone. -/
def connection : Bytes := [99, 111, 110, 110, 101, 99, 116, 105, 111, 110]
def own : List Bytes := [connection,
  [112, 114, 111, 120, 121, 45, 99, 111, 110, 110, 101, 99, 116, 105, 111, 110],
  [107, 101, 101, 112, 45, 97, 108, 105, 118, 101],
  [116, 114, 97, 110, 115, 102, 101, 114, 45, 101, 110, 99, 111, 100, 105, 110, 103],
  [117, 112, 103, 114, 97, 100, 101], [116, 101], [116, 114, 97, 105, 108, 101, 114],
  [112, 114, 111, 120, 121, 45, 97, 117, 116, 104, 101, 110, 116, 105, 99, 97, 116, 101],
  [112, 114, 111, 120, 121, 45, 97, 117, 116, 104, 111, 114, 105, 122, 97, 116, 105, 111, 110]]
def strip (l : List F) : List F := without (without l (allOf l connection)) own
def viaF (who : Bytes) : F := ⟨[118, 105, 97], who, false⟩
theorem ssum_own : ssum own = 115 := by decide

set_option maxRecDepth 100000 in
set_option maxHeartbeats 1000000 in
theorem Own_any (w : World) : Calls Tryd.prog 80 #[] w (RetSs 9 w own) := by
  go_enter Tryd.func80, Tryd.ntmps80
  go_wp2
  go_ret
  refine ⟨_, rfl, ?_, (Below.refl _ _).alloc (Nat.le_refl _) _⟩
  exact World.ownsRow_lit w _ 9 (Nat.le_refl _) (by decide) rfl

set_option maxRecDepth 100000 in
set_option maxHeartbeats 1000000 in
theorem refStrip_any (l : List F) (v : Value) (w : World) (h : Fs w.heap.size w v l) (hl : fsum l ≤ 1099511627776) :
    Calls Tryd.prog 62 #[v] w (RetFs 31 w (strip l)) := by
  have h1 := ssum_all l connection
  have h2 := ssum_own
  have h3 := fsum_filter l (fun f => !among f.n (allOf l connection))
  go_enter Tryd.func62, Tryd.ntmps62
  go_wp2_with fail
  refine (refAll_any l connection v w h hl (by decide)).mono ?_
  rintro e w1 ⟨va, rfl, hva, hb1⟩
  go_wp2_with fail
  refine (refWithout_any l _ v va w1 ((h.below hb1).mono hb1.size) (Ss.own hva) hl (by omega)).mono ?_
  rintro e w2 ⟨vw, rfl, hvw, hb2⟩
  go_wp2_with fail
  refine (Own_any w2).mono ?_
  rintro e w3 ⟨vo, rfl, hvo, hb3⟩
  go_wp2_with fail
  refine (refWithout_any _ _ vw vo w3 (Fs.own (own_below hvw hb3)) (Ss.own hvo) (by unfold without; omega) (by omega)).mono ?_
  rintro e w4 ⟨vr, rfl, hvr, hb4⟩
  go_wp2
  go_ret
  exact ⟨_, rfl, own_base hvr (Nat.le_trans hb1.size (Nat.le_trans hb2.size hb3.size)), Bl.tr (Bl.tr (Bl.tr hb1 hb2) hb3) hb4⟩

set_option maxRecDepth 100000 in
set_option maxHeartbeats 1000000 in
theorem Via_any (l : List F) (who : Bytes) (v : Value) (w : World) (h : Fs w.heap.size w v l) (hl : fsum l ≤ 1099511627776) :
    Calls Tryd.prog 49 #[v, S who] w (RetFs 31 w (l ++ [viaF who])) := by
  have hll := fsum_length l
  go_enter Tryd.func49, Tryd.ntmps49
  go_wp2_with (first | (at_builtin; refine wpList_appF rfl _ _ 23 rfl w.heap.size Tryd.underlying23 (by kernel_rfl) _ _ _ rfl hown2 rfl (by omega) (by have := hb2.size; omega) rfl ?_; intro a'' c'' w3 hown3 hb3 hz3) | (at_builtin; refine wpList_appRd rfl _ _ 23 rfl w.heap.size 31 (.agg #[.string ByteArray.empty, .string ByteArray.empty, .bool false]) 3 40 Tryd.underlying23 (by kernel_rfl) rfl (by decide) _ _ _ rfl (World.ownsRow_nil _ _ _ _) _ _ _ _ rfl h (fcells_one _) (by unfold maxLen; omega) (by omega) (Nat.le_refl _) ?_; intro a' c' w2 hown2 hb2; simp only [Nat.zero_add, List.nil_append] at hown2))
  go_ret
  exact ⟨_, rfl, by rw [fcells_append, List.length_append]; exact hown3, hb2.trans hb3⟩

end Go.Proofs.YtpbmmkonlboegaaDoor
