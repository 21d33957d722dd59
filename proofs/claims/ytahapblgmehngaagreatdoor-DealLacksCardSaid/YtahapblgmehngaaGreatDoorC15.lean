/- Parts of the proof of DealLacks_holds: the texts FrP Hop3 Cel12. -/
import Derived.Deep.RegionHeld3
import Derived.Test.YtahapblgmehngaaGreatDoorC1
import Derived.Test.YtahapblgmehngaaGreatDoorC3
import Derived.Test.YtahapblgmehngaaGreatDoorC4
import Derived.Test.YtahapblgmehngaaGreatDoorC12
set_option linter.unusedSimpArgs false
set_option linter.unusedVariables false
set_option linter.unnecessarySimpa false
namespace Go.Dr

def pragmaT : Bytes := [112, 114, 97, 103, 109, 97]
/-- What a request says of keeping. -/
def pragB (l : List F) : Bool := !decide (0 < (values l cacheControl).length) && (allOf l pragmaT).any fun x => same x noCache
def saysC (l : List F) : Ctl := if pragB l = true then { readC l with nc := true } else readC l
theorem saysC_ok (l : List F) : (saysC l).ok := by
  unfold saysC
  split
  · exact readC_ok l
  · exact readC_ok l
/-- Is a kept answer good? -/
def goodB (a b : Ctl) (life age : Nat) : Bool :=
  if (a.nc || b.nc) = true ∨ (0 ≤ a.ma ∧ a.ma < (age : Int)) ∨ (0 ≤ a.mf ∧ (life : Int) - age < a.mf) then false
  else if age < life then true
  else decide (0 ≤ a.ms ∧ (age : Int) - life ≤ a.ms) && !b.mr && !b.px && decide (b.sm < 0)
def goodF (lr lf : List F) (st asked came now : Int) : Bool := goodB (saysC lr) (readC lf) (lifeF lf st came) (ageF lf asked came now)

/-- A request's or an answer's own word against it, or too great an age. -/
def GoodNo (a b : Ctl) (life age : Nat) : Prop := a.nc = true ∨ b.nc = true ∨ (0 ≤ a.ma ∧ a.ma < (age : Int)) ∨ (0 ≤ a.mf ∧ (life : Int) - age < a.mf)
instance (a b : Ctl) (life age : Nat) : Decidable (GoodNo a b life age) := by unfold GoodNo; infer_instance
theorem goodNo_iff (a b : Ctl) (life age : Nat) : ((a.nc || b.nc) = true ∨ (0 ≤ a.ma ∧ a.ma < (age : Int)) ∨ (0 ≤ a.mf ∧ (life : Int) - age < a.mf)) ↔ GoodNo a b life age := by
  unfold GoodNo
  simp only [Bool.or_eq_true, or_assoc]
theorem good_no {a b : Ctl} {life age : Nat} (h : GoodNo a b life age) : goodB a b life age = false := by
  unfold goodB; rw [if_pos ((goodNo_iff a b life age).2 h)]
theorem good_new {a b : Ctl} {life age : Nat} (h : ¬ GoodNo a b life age) (h2 : age < life) : goodB a b life age = true := by
  unfold goodB; rw [if_neg (fun e => h ((goodNo_iff a b life age).1 e)), if_pos h2]
theorem good_old {a b : Ctl} {life age : Nat} (h : ¬ GoodNo a b life age) (h2 : ¬ age < life) : goodB a b life age = (decide (0 ≤ a.ms ∧ (age : Int) - life ≤ a.ms) && !b.mr && !b.px && decide (b.sm < 0)) := by
  unfold goodB; rw [if_neg (fun e => h ((goodNo_iff a b life age).1 e)), if_neg h2]

def authT : Bytes := [97, 117, 116, 104, 111, 114, 105, 122, 97, 116, 105, 111, 110]
end Go.Dr

namespace Go.Proofs.YtahapblgmehngaaGreatDoor
open Go.RowKit Go.Dr

theorem any_take_succ {α : Type} (p : α → Bool) (l : List α) (k : Nat) (h : k < l.length) (h1 : (l.take k).any p = false) (h2 : p l[k] = false) : (l.take (k + 1)).any p = false := by
  rw [take_snoc l k h, List.any_append, h1]
  simp [h2]
theorem any_hit {α : Type} (p : α → Bool) (l : List α) (k : Nat) (h : k < l.length) (h2 : p l[k] = true) : l.any p = true := by
  rw [List.any_eq_true]
  exact ⟨_, List.getElem_mem h, h2⟩

set_option maxRecDepth 100000 in
set_option maxHeartbeats 1000000 in
theorem Among_any (name : Bytes) (names : List Bytes) (v : Value) (w : World) (h : Ss w.heap.size w v names) (hn : name.length ≤ 1099511627776) (hl : ssum names ≤ 1099511627776) :
    Calls Tryz.prog 71 #[S name, v] w fun e w' => e = .returned (.bool (among name names)) ∧ Below w.heap.size w w' := by
  obtain ⟨pa, ca, rfl, hm⟩ := h.form
  go_enter Tryz.func71, Tryz.ntmps71
  go_wp2
  go_loopw [5] (fun i wr => ∃ k : Nat, i = .int .i64 k ∧ k ≤ names.length ∧ Hid ((names.take k).any (same name) = false) ∧ Below w.heap.size w wr) (fun i _ => names.length - (intOf i).toNat)
  case atStart => exact ⟨0, rfl, Nat.zero_le _, rfl, Below.refl _ _⟩
  case round =>
    obtain ⟨k, rfl, hk, HN, hbel⟩ := hrel
    by_cases hlt : k < names.length
    · obtain ⟨b, off, rfl, hbb, c0⟩ := (h.below hbel).at k hlt
      have hf := ssum_mem (List.getElem_mem hlt)
      by_cases hs : same name names[k] = true
      · have HY := Lib.hid (any_hit (same name) names k hlt hs)
        go_wp2_with (go_at_call 110; refine (refSame_any _ _ _ (by omega) (by omega)).mono ?_; rintro e w1 ⟨rfl, hb1⟩)
        go_ret
        exact ⟨ret_bool (by rw [among, HY.out]), hbel.trans (hb1.mono hbel.size)⟩
      · have hs' : same name names[k] = false := by simpa using hs
        have HY := Lib.hid (any_take_succ (same name) names k hlt HN.out hs')
        clear hs
        go_wp2_with (go_at_call 110; refine (refSame_any _ _ _ (by omega) (by omega)).mono ?_; rintro e w1 ⟨rfl, hb1⟩)
        go_roundw
        case rel => exact ⟨k + 1, by go_num, by omega, HY, hbel.trans (hb1.mono hbel.size)⟩
        case measure => simp [intOf]; omega
    · go_wp2
      go_ret
      exact ⟨ret_bool (by have := HN.out; rw [List.take_of_length_le (by omega)] at this; rw [among, this]), hbel⟩

set_option maxRecDepth 100000 in
set_option maxHeartbeats 1000000 in
theorem Has_any (l : List F) (name el : Bytes) (v : Value) (w : World) (h : Fs w.heap.size w v l) (hl : fsum l ≤ 1099511627776) (hn : name.length ≤ 1099511627776) (he : el.length ≤ 1099511627776) :
    Calls Tryz.prog 97 #[v, S name, S el] w fun e w' => e = .returned (.bool ((allOf l name).any fun x => same x el)) ∧ Below w.heap.size w w' := by
  have HS := ssum_all l name
  go_enter Tryz.func97, Tryz.ntmps97
  go_wp2_with fail
  refine (All_any l name v w h hl hn).mono ?_
  rintro e w1 ⟨vv, rfl, hvv, hb1⟩
  have hr : Ss w1.heap.size w1 vv (allOf l name) := Ss.own hvv
  generalize hvs : allOf l name = vs at *
  have HVS := Lib.hid hvs
  clear hvv hvs
  obtain ⟨pa, ca, rfl, hm⟩ := hr.form
  go_wp2
  go_loopw [13] (fun i wr => ∃ k : Nat, i = .int .i64 k ∧ k ≤ vs.length ∧ Hid ((vs.take k).any (fun x => same x el) = false) ∧ Below w1.heap.size w1 wr) (fun i _ => vs.length - (intOf i).toNat)
  case atStart => exact ⟨0, rfl, Nat.zero_le _, rfl, Below.refl _ _⟩
  case round =>
    obtain ⟨k, rfl, hk, HN, hbel⟩ := hrel
    by_cases hlt : k < vs.length
    · obtain ⟨b, off, rfl, hbb, c0⟩ := (hr.below hbel).at k hlt
      have hf := ssum_mem (List.getElem_mem hlt)
      by_cases hs : same vs[k] el = true
      · have HY := Lib.hid (any_hit (fun x => same x el) vs k hlt hs)
        go_wp2_with (go_at_call 98; refine (Same_any _ _ _ (by unfold maxLen; omega) (by unfold maxLen; omega)).mono ?_; rintro e w2 ⟨rfl, hb2⟩)
        go_ret
        exact ⟨ret_bool (by rw [HVS.out, HY.out]), Bl.tr hb1 (hbel.trans (hb2.mono hbel.size))⟩
      · have hs' : same vs[k] el = false := by simpa using hs
        have HY := Lib.hid (any_take_succ (fun x => same x el) vs k hlt HN.out hs')
        clear hs
        go_wp2_with (go_at_call 98; refine (Same_any _ _ _ (by unfold maxLen; omega) (by unfold maxLen; omega)).mono ?_; rintro e w2 ⟨rfl, hb2⟩)
        go_roundw
        case rel => exact ⟨k + 1, by go_num, by omega, HY, hbel.trans (hb2.mono hbel.size)⟩
        case measure => simp [intOf]; omega
    · go_wp2
      go_ret
      exact ⟨ret_bool (by have := HN.out; rw [List.take_of_length_le (by omega)] at this; rw [HVS.out, this]), Bl.tr hb1 hbel⟩

set_option maxRecDepth 100000 in
set_option maxHeartbeats 1000000 in
theorem refWithout_any (l : List F) (names : List Bytes) (v vn : Value) (w : World) (h : Fs w.heap.size w v l) (h' : Ss w.heap.size w vn names) (hl : fsum l ≤ 1099511627776) (hn : ssum names ≤ 1099511627776) :
    Calls Tryz.prog 101 #[v, vn] w (RetFs 60 w (without l names)) := by
  obtain ⟨pa, ca, rfl, hm⟩ := h.form
  have hll := fsum_length l
  go_enter Tryz.func101, Tryz.ntmps101
  go_wp2
  go_loopw [5, 6] (fun v i wr => ∃ k : Nat, i = .int .i64 k ∧ k ≤ l.length ∧ wr.ownsRow w.heap.size 60 3 v (without (l.take k) names).length (fcells (without (l.take k) names)) ∧ Below w.heap.size w wr) (fun _ i _ => l.length - (intOf i).toNat)
  case atStart => exact ⟨0, rfl, Nat.zero_le _, World.ownsRow_nil _ _ _ _, Below.refl _ _⟩
  case round =>
    obtain ⟨k, rfl, hk, hown, hbel⟩ := hrel
    by_cases hlt : k < l.length
    · obtain ⟨b, off, rfl, hbb, c0, c1, c2⟩ := (h.below hbel).at k hlt
      have hf := fsum_mem (List.getElem_mem hlt)
      have HV := Lib.hid (without_snoc l k hlt names)
      have hvl := without_length (l.take k) names
      rw [List.length_take] at hvl
      have hbw : b < wr.heap.size := Nat.lt_of_lt_of_le hbb hbel.size
      have hnr := (h'.below hbel).mono hbel.size
      by_cases hs : among l[k].n names = true
      · have HV : Hid (without (l.take (k + 1)) names = without (l.take k) names) := by show _ = _; rw [HV.out, if_pos hs, List.append_nil]
        go_wp2_with (go_at_call 71; refine (Among_any _ _ _ _ hnr (by omega) hn).mono ?_; rintro e w1 ⟨rfl, hb1⟩; obtain ⟨hc1, hf1⟩ := bcell hb1)
        go_roundw
        case rel => exact ⟨k + 1, by go_num, by omega, by rw [HV.out]; exact own_below hown hb1, hbel.trans (hb1.mono hbel.size)⟩
        case measure => simp [intOf]; omega
      · have HV : Hid (without (l.take (k + 1)) names = without (l.take k) names ++ [l[k]]) := by show _ = _; rw [HV.out, if_neg hs]
        have hs' : among l[k].n names = false := by simpa using hs
        clear hs
        go_wp2_with (first | (at_builtin; refine wpList_appF rfl _ _ 26 rfl w.heap.size Tryz.underlying26 (by kernel_rfl) _ _ _ rfl (own_below hown hb1) rfl (by omega) (by have := hbel.size; have := hb1.size; omega) rfl ?_; intro a' c' w2 hown2 hb2 hz2) | (go_at_call 71; refine (Among_any _ _ _ _ hnr (by omega) hn).mono ?_; rintro e w1 ⟨rfl, hb1⟩; obtain ⟨hc1, hf1⟩ := bcell hb1))
        go_roundw
        case rel => exact ⟨k + 1, by go_num, by omega, by rw [HV.out, fcells_append, List.length_append]; exact hown2, (hbel.trans (hb1.mono hbel.size)).trans hb2⟩
        case measure => simp [intOf]; omega
    · have hk' : k = l.length := by omega
      subst hk'
      rw [List.take_length] at *
      go_wp2
      go_ret
      exact ⟨_, rfl, hown, hbel⟩

/-- The texts of the names of fields of a connection alone. -/
def connection : Bytes := [99, 111, 110, 110, 101, 99, 116, 105, 111, 110]
def own : List Bytes := [connection,
  [112, 114, 111, 120, 121, 45, 99, 111, 110, 110, 101, 99, 116, 105, 111, 110],
  [107, 101, 101, 112, 45, 97, 108, 105, 118, 101],
  [116, 114, 97, 110, 115, 102, 101, 114, 45, 101, 110, 99, 111, 100, 105, 110, 103],
  [117, 112, 103, 114, 97, 100, 101], [116, 101], [116, 114, 97, 105, 108, 101, 114],
  [112, 114, 111, 120, 121, 45, 97, 117, 116, 104, 101, 110, 116, 105, 99, 97, 116, 101],
  [112, 114, 111, 120, 121, 45, 97, 117, 116, 104, 111, 114, 105, 122, 97, 116, 105, 111, 110]]
def strip (l : List F) : List F := without (without l (allOf l connection)) own
theorem ssum_own : ssum own = 115 := by decide

set_option maxRecDepth 100000 in
set_option maxHeartbeats 1000000 in
theorem Own_any (w : World) : Calls Tryz.prog 102 #[] w (RetSs 9 w own) := by
  go_enter Tryz.func102, Tryz.ntmps102
  go_wp2
  go_ret
  refine ⟨_, rfl, ?_, (Below.refl _ _).alloc (Nat.le_refl _) _⟩
  exact World.ownsRow_lit w _ 9 (Nat.le_refl _) (by decide) rfl

set_option maxRecDepth 100000 in
set_option maxHeartbeats 1000000 in
theorem refStrip_any (l : List F) (v : Value) (w : World) (h : Fs w.heap.size w v l) (hl : fsum l ≤ 1099511627776) :
    Calls Tryz.prog 60 #[v] w (RetFs 60 w (strip l)) := by
  have h1 := ssum_all l connection
  have h2 := ssum_own
  have h3 := fsum_filter l (fun f => !among f.n (allOf l connection))
  go_enter Tryz.func60, Tryz.ntmps60
  go_wp2_with fail
  refine (refAll_any l connection v w h hl (by decide)).mono ?_
  rintro e w1 ⟨va, rfl, hva, hb1⟩
  go_wp2_with fail
  refine (refWithout_any l _ v va w1 ((h.below hb1).mono hb1.size) (Ss.own hva) hl (by omega)).mono ?_
  rintro e w2 ⟨vw, rfl, hvw, hb2⟩
  go_wp2_with fail
  refine (Own_any w2).mono ?_
  rintro e w3 ⟨vo, rfl, hvo, hb3⟩
  go_wp2_with fail
  refine (refWithout_any _ _ vw vo w3 (Fs.own (own_below hvw hb3)) (Ss.own hvo) (by unfold without; omega) (by omega)).mono ?_
  rintro e w4 ⟨vr, rfl, hvr, hb4⟩
  go_wp2
  go_ret
  exact ⟨_, rfl, own_base hvr (Nat.le_trans hb1.size (Nat.le_trans hb2.size hb3.size)), Bl.tr (Bl.tr (Bl.tr hb1 hb2) hb3) hb4⟩

end Go.Proofs.YtahapblgmehngaaGreatDoor
namespace Go.Proofs.YtahapblgmehngaaGreatDoor
open Go.RowKit Go.Dr

theorem zeroInt (w : World) : (zeroValue 3).run Tryz.prog w = .ok (.int .i64 0) w := by kernel_rfl

set_option maxRecDepth 100000 in
set_option maxHeartbeats 1000000 in
theorem stays_any (f : F) (names : List Bytes) (M G : Nat) (w : World) (hM : MapSet w Tryz.prog 9 3 M (names.map low)) (hG : One w G 144 (.map (some M))) (hf : f.n.length ≤ 1099511627776) :
    Calls Tryz.prog 116 #[.agg #[S f.n, S f.v, .bool f.m], .pointer (some ⟨G, 0, none⟩)] w fun e w' => e = .returned (.bool (!among f.n names)) ∧ Below w.heap.size w w' := by
  have hG1 := hG.alloc (.cells #[S f.n, S f.v, .bool f.m] 60)
  have hM1 := hM.alloc (.cells #[S f.n, S f.v, .bool f.m] 60)
  have hGlt := hG.lt
  have cG := hG1.cell
  have hll := low_length f.n
  go_enter Tryz.func116, Tryz.ntmps116
  go_wp2_with fail
  go_region_held3 (fun w' => w'.cell? ⟨G, 0, none⟩ = some (.map (some M)) ∧ w'.cell? ⟨w.heap.size, 0, none⟩ = some (S f.n))
    (first | go_keep)
    ((go_at_call 93; refine (Lower_any _ _ (by unfold maxLen; omega)).mono ?_; rintro e w1 ⟨rfl, hb1⟩; have cG1 := (hG1.drew.below hb1 hG1.lt).cell; obtain ⟨hc1, hf1⟩ := bcell hb1; obtain ⟨c, hlk⟩ := ((hM1.drew).below hb1 hM1.lt).look Tryz.underlying9 Tryz.underlying3 Tryz.underlying144 (zeroInt _) (low f.n) (by unfold maxLen; omega); rw [among_map] at hlk))
  go_wp2
  go_ret
  exact ⟨rfl, ((Below.refl w.heap.size w).alloc (Nat.le_refl _) _).drew.trans (hb1.mono (B' := w.heap.size) (by simp))⟩

theorem map_low_snoc (names : List Bytes) (k : Nat) (h : k < names.length) : (names.take (k + 1)).map low = (names.take k).map low ++ [low names[k]] := by
  rw [take_snoc names k h, List.map_append]
  rfl

set_option maxRecDepth 100000 in
set_option maxHeartbeats 2000000 in
theorem Without_any (l : List F) (names : List Bytes) (v vn : Value) (w : World) (h : Fs w.heap.size w v l) (h' : Ss w.heap.size w vn names) (hl : fsum l ≤ 1099511627776) (hn : ssum names ≤ 1099511627776) :
    Calls Tryz.prog 83 #[v, vn] w (RetFs 60 w (without l names)) := by
  obtain ⟨pa, ca, rfl, hm⟩ := h.form
  obtain ⟨pn, cn, rfl, hmn⟩ := h'.form
  have hll := fsum_length l
  have hnl := ssum_length names
  have hmf : ∀ (fn : Fn) (first cap : Array Value) (w : World), (Instr.makeFunc fn first cap).run Tryz.prog w = .ok (.func fn first cap) w := fun _ _ _ _ => rfl
  have hmm := @run_makeMap Tryz.prog
  go_enter Tryz.func83, Tryz.ntmps83
  go_wp2
  go_loopw [15] (fun i wr => ∃ k : Nat, i = .int .i64 k ∧ k ≤ names.length ∧ MapSet wr Tryz.prog 9 3 w.heap.size ((names.take k).map low) ∧ One wr (w.heap.size + 1) 144 (.map (some w.heap.size)) ∧ Below w.heap.size w wr) (fun i _ => names.length - (intOf i).toNat)
  case atStart =>
    exact ⟨0, rfl, Nat.zero_le _, (MapSet.made w _ _ _).alloc _, by simpa using One.new (w.alloc (.map #[] 0)) 144 (.map (some w.heap.size)), ((Below.refl _ _).alloc (Nat.le_refl _) _).alloc (by simp) _⟩
  case round =>
    obtain ⟨k, rfl, hk, hM, hG, hbel⟩ := hrel
    have cG := hG.cell
    have hMlt := hM.lt
    have hGlt := hG.lt
    by_cases hlt : k < names.length
    · obtain ⟨b, off, rfl, hbb, c0⟩ := (h'.below hbel).at k hlt
      have hf := ssum_mem (List.getElem_mem hlt)
      have HM := Lib.hid (map_low_snoc names k hlt)
      have hll2 := low_length names[k]
      have hks : ((names.take k).map low).length ≤ k := by simp; omega
      go_wp2_with fail
      go_region_held3 (fun w' => w'.cell? ⟨w.heap.size + 1, 0, none⟩ = some (.map (some w.heap.size)))
        (first | go_keep)
        ((go_at_call 93; refine (Lower_any _ _ (by unfold maxLen; omega)).mono ?_; rintro e w1 ⟨rfl, hb1⟩; have hz1 : wr.heap.size ≤ w1.heap.size := hb1.size; have cG1 := (hG.drew.below hb1 hG.lt).cell; obtain ⟨w2, hup, hM2, hg2⟩ := ((hM.drew).below hb1 hM.lt).store Tryz.underlying9 Tryz.underlying3 Tryz.underlying144 (low names[k]) k (WalkArith.wf_i64 (by omega)) (by unfold maxLen; omega) (by unfold maxLen; omega); have cG2 := hg2.cell cG1 (by simp)))
      go_wp2
      go_roundw
      case rel => exact ⟨k + 1, by go_num, by omega, by rw [HM.out]; exact hM2, (hg2.block _ (by omega) (by simp)).trans (hG.drew.below hb1 hG.lt), (hbel.drew.trans (hb1.mono (B' := w.heap.size) hbel.size)).grown hg2 (by omega) (by simp)⟩
      case measure => simp [intOf]; omega
    · have hk' : k = names.length := by omega
      subst hk'
      rw [List.take_length] at hM
      go_wp2
      obtain ⟨wo, rfl⟩ : ∃ wo : World, wo = wr := ⟨_, rfl⟩
      go_loopw [9, 28] (fun v i wr' => ∃ k : Nat, i = .int .i64 k ∧ k ≤ l.length ∧ wr'.ownsRow wo.heap.size 60 3 v (without (l.take k) names).length (fcells (without (l.take k) names)) ∧ Below wo.heap.size wo wr') (fun _ i _ => l.length - (intOf i).toNat)
      case atStart => exact ⟨0, rfl, Nat.zero_le _, World.ownsRow_nil _ _ _ _, Below.refl _ _⟩
      case round =>
        obtain ⟨k, rfl, hk, hown, hbel2⟩ := hrel
        by_cases hlt : k < l.length
        · obtain ⟨b, off, rfl, hbb, c0, c1, c2⟩ := ((h.below hbel).below (hbel2.mono hbel.size)).at k hlt
          have hf := fsum_mem (List.getElem_mem hlt)
          have HV := Lib.hid (without_snoc l k hlt names)
          have hvl := without_length (l.take k) names
          rw [List.length_take] at hvl
          have hz2 := hbel2.size
          by_cases hs : among l[k].n names = true
          · have HV : Hid (without (l.take (k + 1)) names = without (l.take k) names) := by show _ = _; rw [HV.out, if_pos hs, List.append_nil]
            go_wp2_with (go_at_call 116; refine (stays_any l[k] names w.heap.size (w.heap.size + 1) _ ((hM.below hbel2 hM.lt).alloc _) ((hG.below hbel2 hG.lt).alloc _) (by omega)).mono ?_; rintro e w1 ⟨rfl, hb1⟩)
            go_roundw
            case rel => exact ⟨k + 1, by go_num, by omega, by rw [HV.out]; exact own_below (hown.alloc _) hb1, (hbel2.alloc (by omega) _).trans (hb1.mono (by simp; omega))⟩
            case measure => simp [intOf]; omega
          · have HV : Hid (without (l.take (k + 1)) names = without (l.take k) names ++ [l[k]]) := by show _ = _; rw [HV.out, if_neg hs]
            have hs' : among l[k].n names = false := by simpa using hs
            clear hs
            go_wp2_with (first | (at_builtin; refine wpList_appF rfl _ _ 26 rfl wo.heap.size Tryz.underlying26 (by kernel_rfl) _ _ _ rfl (own_below (hown.alloc _) hb1) rfl (by omega) (by have := hb1.size; simp at this; omega) rfl ?_; intro a' c' w2 hown2 hb2 hz3) | (go_at_call 116; refine (stays_any l[k] names w.heap.size (w.heap.size + 1) _ ((hM.below hbel2 hM.lt).alloc _) ((hG.below hbel2 hG.lt).alloc _) (by omega)).mono ?_; rintro e w1 ⟨rfl, hb1⟩; obtain ⟨hc1, hf1⟩ := bcell hb1))
            go_roundw
            case rel => exact ⟨k + 1, by go_num, by omega, by rw [HV.out, fcells_append, List.length_append]; exact hown2, ((hbel2.alloc (by omega) _).trans (hb1.mono (by simp; omega))).trans hb2⟩
            case measure => simp [intOf]; omega
        · have hk' : k = l.length := by omega
          subst hk'
          rw [List.take_length] at *
          go_wp2
          go_ret
          exact ⟨_, rfl, own_base hown hbel.size, Bl.tr hbel hbel2⟩

end Go.Proofs.YtahapblgmehngaaGreatDoor
namespace Go.Proofs.YtahapblgmehngaaGreatDoor
open Go.RowKit Go.Dr

theorem without_both (l : List F) (a b : List Bytes) : without l (a ++ b) = without (without l b) a := by
  simp only [without, List.filter_filter, among, List.any_append]
  congr 1
  funext f
  simp [Bool.not_or]

set_option maxRecDepth 100000 in
set_option maxHeartbeats 1000000 in
theorem Strip_any (l : List F) (v : Value) (w : World) (h : Fs w.heap.size w v l) (hl : fsum l ≤ 549755813888) :
    Calls Tryz.prog 48 #[v] w (RetFs 60 w (strip l)) := by
  have h1 := ssum_all l connection
  have h2 := ssum_own
  have h4 := ssum_length (allOf l connection)
  have hst : Hid (without l (own ++ allOf l connection) = strip l) := without_both l own (allOf l connection)
  have hss := ssum_append own (allOf l connection)
  go_enter Tryz.func48, Tryz.ntmps48
  go_wp2_with fail
  refine (All_any l connection v _ ((h.below ((Below.refl _ _).alloc (Nat.le_refl _) _)).mono (by simp)) (by omega) (by decide)).mono ?_
  rintro e w1 ⟨va, rfl, hva, hb1⟩
  generalize allOf l connection = al at *
  have hz1 : w.heap.size + 1 ≤ w1.heap.size := by have := hb1.size; simpa using this
  have ho := own_below (World.ownsRow_lit (base := w.heap.size) (e := 9) (size := 1) w (own.map S).toArray 9 (Nat.le_refl _) (by decide) rfl) hb1
  go_wp2_with (at_builtin; refine wpList_appRd rfl _ _ 44 rfl w.heap.size 9 (.string ByteArray.empty) 1 16 Tryz.underlying44 (by kernel_rfl) rfl (by decide) _ _ _ rfl ho _ _ _ _ rfl (Ss.own hva) (S_one _) (by unfold maxLen; omega) (by omega) (by omega) ?_; intro a' c' w2 hown2 hb2)
  have hown2' : w2.ownsRow w.heap.size 9 1 (.slice a' (9 + al.length) c') (own ++ al).length ((own ++ al).map S) := by
    have e : (own ++ al).length = 9 + al.length := by simp [own]; omega
    rw [e, List.map_append]
    exact hown2
  have hw2 : Below w.heap.size w w2 := (((Below.refl _ _).alloc (Nat.le_refl _) _).trans (hb1.mono (by simp))).trans hb2
  refine (Without_any l (own ++ al) v _ w2 ((h.below hw2).mono hw2.size) (Ss.own hown2') (by omega) (by omega)).mono ?_
  rintro e w3 ⟨vr, rfl, hvr, hb3⟩
  rw [hst.out] at hvr
  go_wp2
  go_ret
  exact ⟨_, rfl, own_base hvr hw2.size, Bl.tr hw2 hb3⟩

end Go.Proofs.YtahapblgmehngaaGreatDoor

namespace Go.Dr
open Go.RowKit
theorem cells12 (a0 a1 a2 a3 a4 a5 a6 a7 a8 a9 a10 a11 b0 b1 b2 b3 b4 b5 b6 b7 b8 b9 b10 b11 : Value) : ((((((((((((#[a0, a1, a2, a3, a4, a5, a6, a7, a8, a9, a10, a11] : Array Value).setIfInBounds 0 b0).setIfInBounds 1 b1).setIfInBounds 2 b2).setIfInBounds 3 b3).setIfInBounds 4 b4).setIfInBounds 5 b5).setIfInBounds 6 b6).setIfInBounds 7 b7).setIfInBounds 8 b8).setIfInBounds 9 b9).setIfInBounds 10 b10).setIfInBounds 11 b11 = #[b0, b1, b2, b3, b4, b5, b6, b7, b8, b9, b10, b11] := by simp
/-- A block of twelve cells, all of them stored. -/
theorem Blk.set12 {w : World} {b : Nat} {t : TypeId} {a0 a1 a2 a3 a4 a5 a6 a7 a8 a9 a10 a11 : Value} (h : Blk w b t #[a0, a1, a2, a3, a4, a5, a6, a7, a8, a9, a10, a11]) (b0 b1 b2 b3 b4 b5 b6 b7 b8 b9 b10 b11 : Value) :
    Blk ((((((((((((w.setCell ⟨b, 0, none⟩ b0).setCell ⟨b, 1, none⟩ b1).setCell ⟨b, 2, none⟩ b2).setCell ⟨b, 3, none⟩ b3).setCell ⟨b, 4, none⟩ b4).setCell ⟨b, 5, none⟩ b5).setCell ⟨b, 6, none⟩ b6).setCell ⟨b, 7, none⟩ b7).setCell ⟨b, 8, none⟩ b8).setCell ⟨b, 9, none⟩ b9).setCell ⟨b, 10, none⟩ b10).setCell ⟨b, 11, none⟩ b11) b t #[b0, b1, b2, b3, b4, b5, b6, b7, b8, b9, b10, b11] := by
  have := (((((((((((h.set 0 b0).set 1 b1).set 2 b2).set 3 b3).set 4 b4).set 5 b5).set 6 b6).set 7 b7).set 8 b8).set 9 b9).set 10 b10).set 11 b11
  rwa [cells12] at this
theorem Bl.set12 {B : Nat} {v w : World} (h : Below B v w) {b : Nat} (hb : B ≤ b) (b0 b1 b2 b3 b4 b5 b6 b7 b8 b9 b10 b11 : Value) :
    Below B v ((((((((((((w.setCell ⟨b, 0, none⟩ b0).setCell ⟨b, 1, none⟩ b1).setCell ⟨b, 2, none⟩ b2).setCell ⟨b, 3, none⟩ b3).setCell ⟨b, 4, none⟩ b4).setCell ⟨b, 5, none⟩ b5).setCell ⟨b, 6, none⟩ b6).setCell ⟨b, 7, none⟩ b7).setCell ⟨b, 8, none⟩ b8).setCell ⟨b, 9, none⟩ b9).setCell ⟨b, 10, none⟩ b10).setCell ⟨b, 11, none⟩ b11) :=
  (((((((((((h.setCell (p := ⟨b, 0, none⟩) hb b0).setCell (p := ⟨b, 1, none⟩) hb b1).setCell (p := ⟨b, 2, none⟩) hb b2).setCell (p := ⟨b, 3, none⟩) hb b3).setCell (p := ⟨b, 4, none⟩) hb b4).setCell (p := ⟨b, 5, none⟩) hb b5).setCell (p := ⟨b, 6, none⟩) hb b6).setCell (p := ⟨b, 7, none⟩) hb b7).setCell (p := ⟨b, 8, none⟩) hb b8).setCell (p := ⟨b, 9, none⟩) hb b9).setCell (p := ⟨b, 10, none⟩) hb b10).setCell (p := ⟨b, 11, none⟩) hb b11
theorem Blk.new_at (w : World) (t : TypeId) (xs : Array Value) (g : Nat) (h : w.heap.size = g) : Blk (w.alloc (.cells xs t)) g t xs := by subst h; exact Blk.new w t xs
end Go.Dr

