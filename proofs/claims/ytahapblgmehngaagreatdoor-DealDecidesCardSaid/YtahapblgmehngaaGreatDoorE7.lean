/- Parts of the proof of DealDecides_holds: the texts Hop Ren1 Ctl4. -/
import Derived.Deep.DrawnRows
import Derived.Deep.RegionHeld3
import Derived.Test.YtahapblgmehngaaGreatDoorE6
set_option linter.unusedSimpArgs false
set_option linter.unusedVariables false
set_option linter.unnecessarySimpa false
set_option maxRecDepth 100000
set_option maxHeartbeats 64000000
namespace Go.Proofs.YtahapblgmehngaaGreatDoor
open Go.RowKit Go.Dr
theorem Values_any (l : List F) (name : Bytes) (v : Value) (w : World) (h : Fs w.heap.size w v l) (hl : fsum l ≤ 1099511627776) (hn : name.length ≤ 1099511627776) :
  Calls Tryz.prog 55 #[v, S name] w (RetSs 9 w (values l name)) := by
 obtain ⟨pa, ca, rfl, hm⟩ := h.form;have hll := fsum_length l;go_enter Tryz.func55, Tryz.ntmps55
 go_wp2
 go_loopw [5, 10] (fun v i wr => ∃ k : Nat, i = .int .i64 k ∧ k ≤ l.length ∧ wr.ownsRow w.heap.size 9 1 v (values (l.take k) name).length ((values (l.take k) name).map S) ∧ Below w.heap.size w wr) (fun _ i _ => l.length - (intOf i).toNat)
 case atStart => exact ⟨0, rfl, Nat.zero_le _, World.ownsRow_nil _ _ _ _, Below.refl _ _⟩
 case round =>
  obtain ⟨k, rfl, hk, hown, hbel⟩ := hrel;by_cases hlt : k < l.length
  ·obtain ⟨b, off, rfl, hbb, c0, c1, c2⟩ := (h.below hbel).at k hlt
   have hf := fsum_mem (List.getElem_mem hlt);have HV := Lib.hid (values_snoc l k hlt name);have hvl := values_length (l.take k) name;rw [List.length_take] at hvl;by_cases hs : same l[k].n name = true
   ·have HV : Hid (values (l.take (k + 1)) name = values (l.take k) name ++ [l[k].v]) := by show _ = _;rw [HV.out, if_pos hs]
    go_wp2_with (first | (at_builtin;refine wpList_app1 rfl _ _ 44 rfl w.heap.size (.string ByteArray.empty) 16 Tryz.underlying44 (by kernel_rfl) rfl rfl _ _ _ rfl (own_below (hown.alloc _) hb1) rfl (by omega) (by decide) (by have := hbel.size;have := hb1.size;simp at this;omega) ?_;intro a' c' w2 hown2 hb2 hz2) | (go_at_call 98;refine (Same_any _ _ _ (by unfold maxLen;omega) (by unfold maxLen;omega)).mono ?_;rintro e w1 ⟨rfl, hb1⟩;obtain ⟨hc1, hf1⟩ := bcell hb1))
    go_roundw
    case rel => exact ⟨k + 1, by go_num, by omega, by rw [HV.out];simpa using hown2, ((hbel.alloc hbel.size _).trans (hb1.mono (by have := hbel.size;simp;omega))).trans hb2⟩
    case measure => simp [intOf];omega
   ·have HV : Hid (values (l.take (k + 1)) name = values (l.take k) name) := by show _ = _;rw [HV.out, if_neg hs, List.append_nil]
    have hs' : same l[k].n name = false := (by simpa using hs)
    clear hs;go_wp2_with (go_at_call 98;refine (Same_any _ _ _ (by unfold maxLen;omega) (by unfold maxLen;omega)).mono ?_;rintro e w1 ⟨rfl, hb1⟩;obtain ⟨hc1, hf1⟩ := bcell hb1)
    go_roundw
    case rel => exact ⟨k + 1, by go_num, by omega, by rw [HV.out];exact own_below (hown.alloc _) hb1, (hbel.alloc hbel.size _).trans (hb1.mono (by have := hbel.size;simp;omega))⟩
    case measure => simp [intOf];omega
  ·have hk' : k = l.length := by omega
   subst hk';rw [List.take_length] at *;go_wp2;go_ret;exact ⟨_, rfl, hown, hbel⟩
open Go.RowKit Go.Dr
theorem refValues_any (l : List F) (name : Bytes) (v : Value) (w : World) (h : Fs w.heap.size w v l) (hl : fsum l ≤ 1099511627776) (hn : name.length ≤ 1099511627776) :
  Calls Tryz.prog 79 #[v, S name] w (RetSs 9 w (values l name)) := by
 obtain ⟨pa, ca, rfl, hm⟩ := h.form;have hll := fsum_length l;go_enter Tryz.func79, Tryz.ntmps79
 go_wp2
 go_loopw [5, 6] (fun v i wr => ∃ k : Nat, i = .int .i64 k ∧ k ≤ l.length ∧ wr.ownsRow w.heap.size 9 1 v (values (l.take k) name).length ((values (l.take k) name).map S) ∧ Below w.heap.size w wr) (fun _ i _ => l.length - (intOf i).toNat)
 case atStart => exact ⟨0, rfl, Nat.zero_le _, World.ownsRow_nil _ _ _ _, Below.refl _ _⟩
 case round =>
  obtain ⟨k, rfl, hk, hown, hbel⟩ := hrel;by_cases hlt : k < l.length
  ·obtain ⟨b, off, rfl, hbb, c0, c1, c2⟩ := (h.below hbel).at k hlt
   have hf := fsum_mem (List.getElem_mem hlt);have HV := Lib.hid (values_snoc l k hlt name);have hvl := values_length (l.take k) name;rw [List.length_take] at hvl;have hbw : b < wr.heap.size := Nat.lt_of_lt_of_le hbb hbel.size;by_cases hs : same l[k].n name = true
   ·have HV : Hid (values (l.take (k + 1)) name = values (l.take k) name ++ [l[k].v]) := by show _ = _;rw [HV.out, if_pos hs]
    go_wp2_with (first | (at_builtin;refine wpList_app1 rfl _ _ 44 rfl w.heap.size (.string ByteArray.empty) 16 Tryz.underlying44 (by kernel_rfl) rfl rfl _ _ _ rfl (own_below hown hb1) rfl (by omega) (by decide) (by have := hbel.size;have := hb1.size;omega) ?_;intro a' c' w2 hown2 hb2 hz2) | (go_at_call 110;refine (refSame_any _ _ _ (by omega) (by omega)).mono ?_;rintro e w1 ⟨rfl, hb1⟩;obtain ⟨hc1, hf1⟩ := bcell hb1))
    go_roundw
    case rel => exact ⟨k + 1, by go_num, by omega, by rw [HV.out];simpa using hown2, (hbel.trans (hb1.mono hbel.size)).trans hb2⟩
    case measure => simp [intOf];omega
   ·have HV : Hid (values (l.take (k + 1)) name = values (l.take k) name) := by show _ = _;rw [HV.out, if_neg hs, List.append_nil]
    have hs' : same l[k].n name = false := (by simpa using hs)
    clear hs;go_wp2_with (go_at_call 110;refine (refSame_any _ _ _ (by omega) (by omega)).mono ?_;rintro e w1 ⟨rfl, hb1⟩;obtain ⟨hc1, hf1⟩ := bcell hb1)
    go_roundw
    case rel => exact ⟨k + 1, by go_num, by omega, by rw [HV.out];exact own_below hown hb1, hbel.trans (hb1.mono hbel.size)⟩
    case measure => simp [intOf];omega
  ·have hk' : k = l.length := by omega
   subst hk';rw [List.take_length] at *;go_wp2;go_ret;exact ⟨_, rfl, hown, hbel⟩
theorem all_bounds (l : List F) (name : Bytes) (hl : fsum l ≤ 1099511627776) (k : Nat) (hlt : k < (values l name).length) :
  (values l name)[k].length ≤ 1099511627776 ∧ ((values l name).take k |>.flatMap elems).length + (elems (values l name)[k]).length ≤ 1099511627776 := by
 have h1 := ssum_values l name;have h2 := ssum_mem (List.getElem_mem hlt);have h3 := ssum_length (((values l name).take k).flatMap elems ++ elems (values l name)[k]);rw [← flat_snoc _ k hlt] at h3;have h4 := ssum_flat ((values l name).take (k + 1));have h5 := ssum_take (values l name) (k + 1);have h6 := congrArg List.length (flat_snoc (values l name) k hlt);rw [List.length_append] at h6;exact ⟨by omega, by omega⟩
theorem All_any (l : List F) (name : Bytes) (v : Value) (w : World) (h : Fs w.heap.size w v l) (hl : fsum l ≤ 1099511627776) (hn : name.length ≤ 1099511627776) :
  Calls Tryz.prog 82 #[v, S name] w (RetSs 9 w (allOf l name)) := by
 have HB := all_bounds l name hl;go_enter Tryz.func82, Tryz.ntmps82
 go_wp2_with fail;refine (Values_any l name v w h hl hn).mono ?_;rintro e w1 ⟨vv, rfl, hvv, hb1⟩;have hr : Ss w1.heap.size w1 vv (values l name) := Ss.own hvv;have hu : Hid (allOf l name = (values l name).flatMap elems) := rfl;generalize values l name = vs at *;clear hvv;obtain ⟨pa, ca, rfl, hm⟩ := hr.form;go_wp2
 go_loopw [5, 12] (fun v i wr => ∃ k : Nat, i = .int .i64 k ∧ k ≤ vs.length ∧ wr.ownsRow w1.heap.size 9 1 v ((vs.take k).flatMap elems).length (((vs.take k).flatMap elems).map S) ∧ Below w1.heap.size w1 wr) (fun _ i _ => vs.length - (intOf i).toNat)
 case atStart => exact ⟨0, rfl, Nat.zero_le _, World.ownsRow_nil _ _ _ _, Below.refl _ _⟩
 case round =>
  obtain ⟨k, rfl, hk, hown, hbel⟩ := hrel;by_cases hlt : k < vs.length
  ·obtain ⟨b, off, rfl, hbb, c0⟩ := (hr.below hbel).at k hlt
   obtain ⟨q1, q2⟩ := HB k hlt;have HF := Lib.hid (flat_snoc vs k hlt);clear HB;generalize (vs.take k).flatMap elems = out at *;generalize hes : elems vs[k] = es at *;have HES := Lib.hid hes;clear hes;go_wp2_with (first | (at_builtin;refine wpList_appRd rfl _ _ 44 rfl w1.heap.size 9 (.string ByteArray.empty) 1 16 Tryz.underlying44 (by kernel_rfl) rfl (by decide) _ _ _ rfl (own_below hown hb2) _ _ _ _ rfl (Ss.own hve) (S_one _) (by unfold maxLen;omega) (by omega) (by have := hbel.size;have := hb2.size;omega) ?_;intro a' c' w3 hown3 hb3) | (go_at_call 115;refine (Elements_any _ _ (by omega)).mono ?_;rintro e w2 ⟨ve, rfl, hve, hb2⟩;rw [HES.out] at hve))
   go_roundw
   case rel => exact ⟨k + 1, by go_num, by omega, by rw [HF.out];simpa using hown3, (hbel.trans (hb2.mono hbel.size)).trans hb3⟩
   case measure => simp [intOf];omega
  ·have hk' : k = vs.length := by omega
   subst hk';rw [List.take_length] at *;go_wp2;go_ret;exact ⟨_, rfl, by rw [hu.out];exact own_base hown hb1.size, Bl.tr hb1 hbel⟩
theorem refAll_any (l : List F) (name : Bytes) (v : Value) (w : World) (h : Fs w.heap.size w v l) (hl : fsum l ≤ 1099511627776) (hn : name.length ≤ 1099511627776) :
  Calls Tryz.prog 45 #[v, S name] w (RetSs 9 w (allOf l name)) := by
 have HB := all_bounds l name hl;go_enter Tryz.func45, Tryz.ntmps45
 go_wp2_with fail;refine (refValues_any l name v w h hl hn).mono ?_;rintro e w1 ⟨vv, rfl, hvv, hb1⟩;have hr : Ss w1.heap.size w1 vv (values l name) := Ss.own hvv;have hu : Hid (allOf l name = (values l name).flatMap elems) := rfl;generalize values l name = vs at *;clear hvv;obtain ⟨pa, ca, rfl, hm⟩ := hr.form;go_wp2
 go_loopw [6, 7] (fun v i wr => ∃ k : Nat, i = .int .i64 k ∧ k ≤ vs.length ∧ wr.ownsRow w1.heap.size 9 1 v ((vs.take k).flatMap elems).length (((vs.take k).flatMap elems).map S) ∧ Below w1.heap.size w1 wr) (fun _ i _ => vs.length - (intOf i).toNat)
 case atStart => exact ⟨0, rfl, Nat.zero_le _, World.ownsRow_nil _ _ _ _, Below.refl _ _⟩
 case round =>
  obtain ⟨k, rfl, hk, hown, hbel⟩ := hrel;by_cases hlt : k < vs.length
  ·obtain ⟨b, off, rfl, hbb, c0⟩ := (hr.below hbel).at k hlt
   obtain ⟨q1, q2⟩ := HB k hlt;have HF := Lib.hid (flat_snoc vs k hlt);clear HB;generalize (vs.take k).flatMap elems = out at *;generalize hes : elems vs[k] = es at *;have HES := Lib.hid hes;clear hes;go_wp2_with (first | (at_builtin;refine wpList_appRd rfl _ _ 44 rfl w1.heap.size 9 (.string ByteArray.empty) 1 16 Tryz.underlying44 (by kernel_rfl) rfl (by decide) _ _ _ rfl (own_below hown hb2) _ _ _ _ rfl (Ss.own hve) (S_one _) (by unfold maxLen;omega) (by omega) (by have := hbel.size;have := hb2.size;omega) ?_;intro a' c' w3 hown3 hb3) | (go_at_call 81;refine (refElements_any _ _ (by omega)).mono ?_;rintro e w2 ⟨ve, rfl, hve, hb2⟩;rw [HES.out] at hve))
   go_roundw
   case rel => exact ⟨k + 1, by go_num, by omega, by rw [HF.out];simpa using hown3, (hbel.trans (hb2.mono hbel.size)).trans hb3⟩
   case measure => simp [intOf];omega
  ·have hk' : k = vs.length := by omega
   subst hk';rw [List.take_length] at *;go_wp2;go_ret;exact ⟨_, rfl, by rw [hu.out];exact own_base hown hb1.size, Bl.tr hb1 hbel⟩
end Go.Proofs.YtahapblgmehngaaGreatDoor
namespace Go.Dr
def oneV (vs : List Bytes) : Bytes := match vs with | [x] => x | _ => []
def oneB (vs : List Bytes) : Bool := decide (vs.length = 1)
def etagT : Bytes := [101, 116, 97, 103]
def lastT : Bytes := [108, 97, 115, 116, 45, 109, 111, 100, 105, 102, 105, 101, 100]
def ifNoneT : Bytes := [105, 102, 45, 110, 111, 110, 101, 45, 109, 97, 116, 99, 104]
def ifSinceT : Bytes := [105, 102, 45, 109, 111, 100, 105, 102, 105, 101, 100, 45, 115, 105, 110, 99, 101]
def askF (l : List F) (name to : Bytes) : List F := if oneB (values l name) then [⟨to, oneV (values l name), false⟩] else []
def asksF (l : List F) : List F := askF l etagT ifNoneT ++ askF l lastT ifSinceT
theorem askF_length (l : List F) (n a : Bytes) : (askF l n a).length ≤ 1 := by unfold askF;split <;> simp
def hasB (l : List F) (n : Bytes) : Bool := decide (0 < (values l n).length)
end Go.Dr
namespace Go.Proofs.YtahapblgmehngaaGreatDoor
open Go.RowKit Go.Dr
def En.cells (e : En) : Array Value := #[S e.key, e.vp, .int .i64 e.st, e.vf, S e.body, .int .i64 e.asked, .int .i64 e.came]
theorem one_any (l : List F) (name : Bytes) (v : Value) (w : World) (h : Fs w.heap.size w v l) (hl : fsum l ≤ 1099511627776) (hn : name.length ≤ 1099511627776) :
  Calls Tryz.prog 109 #[v, S name] w fun e w' => e = .returned (.tuple #[S (oneV (values l name)), .bool (oneB (values l name))]) ∧ Below w.heap.size w w' := by
 go_enter Tryz.func109, Tryz.ntmps109
 go_wp2_with fail;refine (Values_any l name v w h hl hn).mono ?_;rintro e w1 ⟨vv, rfl, hvv, hb1⟩;have hr : Ss w1.heap.size w1 vv (values l name) := Ss.own hvv;generalize hvs : values l name = vs at *;have HVS := Lib.hid hvs;clear hvv hvs;obtain ⟨pa, ca, rfl, hm⟩ := hr.form
 match vs, hr, HVS, hm with
 | [x], hr, HVS, hm =>
  obtain ⟨b, off, rfl, hbb, c0⟩ := hr.at 0 (by simp);simp at c0
  go_wp2;go_ret2;exact ⟨by rw [HVS.out];rfl, hb1⟩
 | [], hr, HVS, hm =>
  go_wp2;go_ret2;exact ⟨by rw [HVS.out];rfl, hb1⟩
 | x :: y :: r, hr, HVS, hm =>
  have g : (((x :: y :: r).length : Int) == 1) = false := (by simp;omega);have g2 : (((x :: y :: r).length : Int) != 1) = true := (by simp;omega);have HL : Hid (oneB (x :: y :: r) = false) := (by show _ = _;unfold oneB;simp);generalize hn : (x :: y :: r).length = n at *;go_wp2;go_ret2;exact ⟨by rw [HVS.out, HL.out];rfl, hb1⟩
theorem refOne_any (l : List F) (name : Bytes) (v : Value) (w : World) (h : Fs w.heap.size w v l) (hl : fsum l ≤ 1099511627776) (hn : name.length ≤ 1099511627776) :
  Calls Tryz.prog 72 #[v, S name] w fun e w' => e = .returned (.tuple #[S (oneV (values l name)), .bool (oneB (values l name))]) ∧ Below w.heap.size w w' := by
 go_enter Tryz.func72, Tryz.ntmps72
 go_wp2_with fail;refine (refValues_any l name v w h hl hn).mono ?_;rintro e w1 ⟨vv, rfl, hvv, hb1⟩;have hr : Ss w1.heap.size w1 vv (values l name) := Ss.own hvv;generalize hvs : values l name = vs at *;have HVS := Lib.hid hvs;clear hvv hvs;obtain ⟨pa, ca, rfl, hm⟩ := hr.form
 match vs, hr, HVS, hm with
 | [x], hr, HVS, hm =>
  obtain ⟨b, off, rfl, hbb, c0⟩ := hr.at 0 (by simp);simp at c0
  go_wp2;go_ret2;exact ⟨by rw [HVS.out];rfl, hb1⟩
 | [], hr, HVS, hm =>
  go_wp2;go_ret2;exact ⟨by rw [HVS.out];rfl, hb1⟩
 | x :: y :: r, hr, HVS, hm =>
  have g : (((x :: y :: r).length : Int) == 1) = false := (by simp;omega);have g2 : (((x :: y :: r).length : Int) != 1) = true := (by simp;omega);have HL : Hid (oneB (x :: y :: r) = false) := (by show _ = _;unfold oneB;simp);generalize hn : (x :: y :: r).length = n at *;go_wp2;go_ret2;exact ⟨by rw [HVS.out, HL.out];rfl, hb1⟩
theorem refHas_any (l : List F) (name : Bytes) (v : Value) (w : World) (h : Fs w.heap.size w v l) (hl : fsum l ≤ 1099511627776) (hn : name.length ≤ 1099511627776) :
  Calls Tryz.prog 52 #[v, S name] w fun e w' => e = .returned (.bool (hasB l name)) ∧ Below w.heap.size w w' := by
 go_enter Tryz.func52, Tryz.ntmps52
 go_wp2_with fail;refine (refValues_any l name v w h hl hn).mono ?_;rintro e w1 ⟨vv, rfl, hvv, hb1⟩;obtain ⟨pa, ca, rfl, hm⟩ := (Ss.own hvv).form;have HY : Hid (hasB l name = decide (0 < (values l name).length)) := rfl;generalize (values l name).length = n at *;go_wp2;go_ret;exact ⟨ret_bool (by rw [HY.out]), hb1⟩
open Go.RowKit Go.Dr
def Asked (O base : Nat) (w : World) (l : List F) (e : Ending) (w' : World) : Prop :=
 e = .returned (.tuple #[]) ∧ ∃ v, Dr.One w' O 26 v ∧ w'.ownsRow base 60 3 v l.length (fcells l) ∧ Below O w w' ∧ w.heap.size ≤ w'.heap.size
theorem ask_any (l out : List F) (n to : Bytes) (vf vo : Value) (E O base : Nat) (w : World) (hE : w.cell? ⟨E, 3, none⟩ = some vf) (h : Fs w.heap.size w vf l) (hl : fsum l ≤ 1099511627776) (hn : n.length ≤ 1099511627776)
  (hO : Dr.One w O 26 vo) (hown : w.ownsRow base 60 3 vo out.length (fcells out)) (hol : out.length ≤ 1000) (hEO : E < O) (hOb : O < base) (hbw : base ≤ w.heap.size) :
  Calls Tryz.prog 108 #[S n, S to, .pointer (some ⟨E, 0, none⟩), .pointer (some ⟨O, 0, none⟩)] w (Asked O base w (out ++ askF l n to)) := by
 have HY : Hid (askF l n to = if oneB (values l n) then [⟨to, oneV (values l n), false⟩] else []) := rfl;have hOl := hO.lt;have cO := hO.cell;have fO := hO.free;go_enter Tryz.func108, Tryz.ntmps108
 go_wp2_with fail;refine (one_any l n vf w h hl hn).mono ?_;rintro e w1 ⟨rfl, hb1⟩;have hO1 := hO.below hb1 hOl;have hown1 := own_below hown hb1;have cO1 := hO1.cell;have fO1 := hO1.free;have hz1 := hb1.size;clear hO hown cO fO;generalize oneV (values l n) = x at *
 cases hq : oneB (values l n) with
 | false =>
  rw [hq] at HY;clear hq;go_wp2;refine bodyPost_ret (results_none rfl _ _ _) rfl ?_;exact ⟨rfl, vo, hO1, by rw [HY.out];simpa using hown1, hb1.mono (by omega), hz1⟩
 | true =>
  rw [hq] at HY;clear hq;go_wp2_with (at_builtin;refine wpList_appFG rfl _ _ 26 rfl base Tryz.underlying26 (by kernel_rfl) _ _ _ rfl hown1 rfl (by omega) (by omega) rfl ?_;intro a2 c2 w2 hown2 hb2 hz2 hg2;have hO2 := hO1.below hb2 (by omega);have cO2 := hO2.cell;have fO2 := hO2.free)
  refine bodyPost_ret (results_none rfl _ _ _) rfl ?_;have hbO : Below O w w2 := (hb1.mono (by omega)).trans (hb2.mono (by omega));refine ⟨rfl, _, hO2.set _, ?_, hbO.setCell (p := ⟨O, 0, none⟩) (Nat.le_refl _) _, by simp [World.setCell];omega⟩;rw [HY.out];simp only [if_true, List.length_append, List.length_cons, List.length_nil, fcells_append];exact ownsRow_setCell_below hown2 (by show O < base;omega) _
theorem asksF_eq (l : List F) : ([] ++ askF l etagT ifNoneT) ++ askF l lastT ifSinceT = asksF l := by simp [asksF]
theorem Asks_any (q : En) (l : List F) (w : World) (h : Fs w.heap.size w q.vf l) (hl : fsum l ≤ 1099511627776) :
  Calls Tryz.prog 68 #[q.val] w (RetFs 60 w (asksF l)) := by
 obtain ⟨pf, cf, hfv, -⟩ := h.form;obtain ⟨key, vp, st, vf, body, asked, came⟩ := q;simp only at hfv h;subst hfv;have hmf : ∀ (fn : Fn) (first cap : Array Value) (w : World), (Instr.makeFunc fn first cap).run Tryz.prog w = .ok (.func fn first cap) w := fun _ _ _ _ => rfl
 have hQ := Blk.new w 36 (En.cells ⟨key, vp, st, .slice pf l.length cf, body, asked, came⟩);have hbx : Below w.heap.size w (w.alloc (.cells (En.cells ⟨key, vp, st, .slice pf l.length cf, body, asked, came⟩) 36)) := (Below.refl _ _).alloc (Nat.le_refl _) _;have h1 := (h.below hbx).mono hbx.size;have hQ1 := hQ.alloc (.cells #[.slice none 0 0] 26);have hO := Dr.One.new (w.alloc (.cells (En.cells ⟨key, vp, st, .slice pf l.length cf, body, asked, came⟩) 36)) 26 (.slice none 0 0);have hb2 := hbx.alloc hbx.size (.cells #[.slice none 0 0] 26);have h2 := (h.below hb2).mono hb2.size;have hsz : (w.alloc (.cells (En.cells ⟨key, vp, st, .slice pf l.length cf, body, asked, came⟩) 36)).heap.size = w.heap.size + 1 := (by simp);rw [hsz] at hO;have c3 : ((w.alloc (.cells (En.cells ⟨key, vp, st, .slice pf l.length cf, body, asked, came⟩) 36)).alloc (.cells #[.slice none 0 0] 26)).cell? ⟨w.heap.size, 3, none⟩ = some (.slice pf l.length cf) := hQ1.cell 3;have HA := Lib.hid (asksF_eq l);have hal := askF_length l etagT ifNoneT;unfold En.val;go_enter Tryz.func68, Tryz.ntmps68
 go_wp2_with fail;refine (ask_any l [] etagT ifNoneT _ _ w.heap.size (w.heap.size + 1) (w.heap.size + 2) _ c3 h2 hl (by decide) hO (World.ownsRow_nil _ _ _ _) (by simp) (by omega) (by omega) (by simp)).mono ?_;rintro e w3 ⟨rfl, v3, hO3, hown3, hb3, hz3⟩;have hb03 := hb2.trans (hb3.mono (by omega));have h3 := (h.below hb03).mono hb03.size;have hQ3 := hQ1.below hb3 (by omega);have c33 : w3.cell? ⟨w.heap.size, 3, none⟩ = some (.slice pf l.length cf) := hQ3.cell 3;simp only [World.size_alloc] at hz3;clear hO hQ hQ1 h2 c3 hb2 hsz h1 hbx;go_wp2_with fail;refine (ask_any l ([] ++ askF l etagT ifNoneT) lastT ifSinceT _ v3 w.heap.size (w.heap.size + 1) (w.heap.size + 2) _ c33 h3 hl (by decide) hO3 hown3 (by rw [List.nil_append];omega) (by omega) (by omega) (by omega)).mono ?_;rintro e w4 ⟨rfl, v4, hO4, hown4, hb4, hz4⟩;have cO := hO4.cell;rw [HA.out] at hown4;have hb04 := hb03.trans (hb4.mono (by omega));clear hO3 hown3;go_wp2;go_ret;exact ⟨_, rfl, own_base hown4 (by omega), hb04⟩
theorem refAsks_any (q : En) (l : List F) (w : World) (h : Fs w.heap.size w q.vf l) (hl : fsum l ≤ 1099511627776) :
  Calls Tryz.prog 41 #[q.val] w (RetFs 60 w (asksF l)) := by
 obtain ⟨pf, cf, hfv, -⟩ := h.form;obtain ⟨key, vp, st, vf, body, asked, came⟩ := q;simp only at hfv h;subst hfv;have hQ := Blk.new w 36 (En.cells ⟨key, vp, st, .slice pf l.length cf, body, asked, came⟩);have hbx : Below w.heap.size w (w.alloc (.cells (En.cells ⟨key, vp, st, .slice pf l.length cf, body, asked, came⟩) 36)) := (Below.refl _ _).alloc (Nat.le_refl _) _;have h1 := (h.below hbx).mono hbx.size;have c3 : (w.alloc (.cells (En.cells ⟨key, vp, st, .slice pf l.length cf, body, asked, came⟩) 36)).cell? ⟨w.heap.size, 3, none⟩ = some (.slice pf l.length cf) := hQ.cell 3;have HY : Hid (asksF l = (if oneB (values l etagT) then [⟨ifNoneT, oneV (values l etagT), false⟩] else []) ++ (if oneB (values l lastT) then [⟨ifSinceT, oneV (values l lastT), false⟩] else [])) := rfl;unfold En.val;go_enter Tryz.func41, Tryz.ntmps41
 go_wp2_with fail;refine (refOne_any l etagT _ _ h1 hl (by decide)).mono ?_;rintro e w2 ⟨rfl, hb2⟩;have hw2 := Bl.tr hbx hb2;have h2 := (h1.below hb2).mono hb2.size;have hQ2 := hQ.on hb2;have hz2 := hb2.size;simp only [World.size_alloc] at hz2;have c32 : w2.cell? ⟨w.heap.size, 3, none⟩ = some (.slice pf l.length cf) := hQ2.cell 3;clear hQ hbx h1 c3 hb2;generalize oneV (values l etagT) = x1 at *;generalize oneB (values l etagT) = b1 at *
 cases b1 with
 | true =>
  go_wp2_with (first
   | (at_builtin;refine wpList_appF rfl _ _ 26 rfl (w.heap.size + 1) Tryz.underlying26 (by kernel_rfl) _ _ _ rfl (World.ownsRow_nil _ _ _ _) rfl (by omega) hz2 rfl ?_;intro a3 c3' w3 hown3 hb3 hz3;have hw3 := hw2.trans (hb3.mono (by omega));have h3 := (h.below hw3).mono hw3.size;have hQ3 := hQ2.below hb3 (by omega);have c33 : w3.cell? ⟨w.heap.size, 3, none⟩ = some (.slice pf l.length cf) := hQ3.cell 3)
   | fail)
  refine (refOne_any l lastT _ _ h3 hl (by decide)).mono ?_;rintro e w4 ⟨rfl, hb4⟩;have hw4 := Bl.tr hw3 hb4;have hown4 := own_below hown3 hb4;have hz4 := hb4.size;clear h3 h2 hQ2 hQ3 c32 c33 hw3 hw2 hb4;simp only [Nat.zero_add, List.nil_append] at hown4;generalize oneV (values l lastT) = x2 at *;generalize oneB (values l lastT) = b2 at *
  cases b2 with
  | true =>
   go_wp2_with (at_builtin;refine wpList_appF rfl _ _ 26 rfl (w.heap.size + 1) Tryz.underlying26 (by kernel_rfl) _ _ _ rfl hown4 rfl (by omega) (by omega) rfl ?_;intro a5 c5 w5 hown5 hb5 hz5)
   go_ret;exact ⟨_, rfl, by rw [HY.out];exact own_base hown5 (by omega), hw4.trans (hb5.mono (by omega))⟩
  | false =>
   go_wp2;go_ret;exact ⟨_, rfl, by rw [HY.out];exact own_base hown4 (by omega), hw4⟩
 | false =>
  go_wp2_with fail;refine (refOne_any l lastT _ _ h2 hl (by decide)).mono ?_;rintro e w4 ⟨rfl, hb4⟩;have hw4 := Bl.tr hw2 hb4;have hz4 := hb4.size;clear h2 hQ2 c32 hw2 hb4;generalize oneV (values l lastT) = x2 at *;generalize oneB (values l lastT) = b2 at *
  cases b2 with
  | true =>
   go_wp2_with (at_builtin;refine wpList_appF rfl _ _ 26 rfl (w.heap.size + 1) Tryz.underlying26 (by kernel_rfl) _ _ _ rfl (World.ownsRow_nil _ _ _ _) rfl (by omega) (by omega) rfl ?_;intro a5 c5 w5 hown5 hb5 hz5)
   go_ret;exact ⟨_, rfl, by rw [HY.out];exact own_base hown5 (by omega), hw4.trans (hb5.mono (by omega))⟩
  | false =>
   go_wp2;go_ret;exact ⟨_, rfl, by rw [HY.out];exact World.ownsRow_nil _ _ _ _, hw4⟩
open Go.RowKit Go.Dr
theorem unq_length (out l : Bytes) : (unq out l).1.length ≤ out.length + l.length := by
 fun_induction unq out l <;> simp_all <;> omega
theorem directive_arg (l : Bytes) : (directive l).2.1.length ≤ l.length := by
 have h := eqArg_length l;have h2 := unq_length [] ((eqArg l).drop 1);simp only [List.length_nil, List.length_drop] at h2;unfold directive unquote
 split
 ·split
  ·split
   ·show (unq [] ((eqArg l).drop 1)).1.length ≤ _
    omega
   ·simp
  ·exact h
 ·simp
theorem set_eq {w : World} {b : Nat} {t : TypeId} {xs ys : Array Value} (h : Blk w b t xs) {k : Nat} {v : Value} (he : xs.setIfInBounds k v = ys) : Blk (w.setCell ⟨b, k, none⟩ v) b t ys := by
 rw [← he];exact h.set k v
theorem says0 (c : Ctl) (hok : c.ok) {n : Bytes} (a : Bytes) (h : (n == noStore) = true) : c.cells.setIfInBounds 0 (.bool true) = (c.join (ctlSays n a)).cells := by
 obtain rfl : n = noStore := by simpa using h
 obtain ⟨⟨h1, -⟩, ⟨h2, -⟩, ⟨h3, -⟩, h4, -⟩ := hok;rw [show ctlSays noStore a = { Ctl.none with ns := true } from rfl];simp [Ctl.cells, Ctl.join, Ctl.none, least_none' _ h1, least_none' _ h2, most_none _ h3, least_none' _ h4]
theorem says1 (c : Ctl) (hok : c.ok) {n : Bytes} (a : Bytes) (h : (n == noCache) = true) : c.cells.setIfInBounds 1 (.bool true) = (c.join (ctlSays n a)).cells := by
 obtain rfl : n = noCache := by simpa using h
 obtain ⟨⟨h1, -⟩, ⟨h2, -⟩, ⟨h3, -⟩, h4, -⟩ := hok;rw [show ctlSays noCache a = { Ctl.none with nc := true } from rfl];simp [Ctl.cells, Ctl.join, Ctl.none, least_none' _ h1, least_none' _ h2, most_none _ h3, least_none' _ h4]
theorem says2 (c : Ctl) (hok : c.ok) {n : Bytes} (a : Bytes) (h : (n == noTransform) = true) : c.cells.setIfInBounds 2 (.bool true) = (c.join (ctlSays n a)).cells := by
 obtain rfl : n = noTransform := by simpa using h
 obtain ⟨⟨h1, -⟩, ⟨h2, -⟩, ⟨h3, -⟩, h4, -⟩ := hok;rw [show ctlSays noTransform a = { Ctl.none with nt := true } from rfl];simp [Ctl.cells, Ctl.join, Ctl.none, least_none' _ h1, least_none' _ h2, most_none _ h3, least_none' _ h4]
theorem says3 (c : Ctl) (hok : c.ok) {n : Bytes} (a : Bytes) (h : (n == pubName) = true) : c.cells.setIfInBounds 3 (.bool true) = (c.join (ctlSays n a)).cells := by
 obtain rfl : n = pubName := by simpa using h
 obtain ⟨⟨h1, -⟩, ⟨h2, -⟩, ⟨h3, -⟩, h4, -⟩ := hok;rw [show ctlSays pubName a = { Ctl.none with pu := true } from rfl];simp [Ctl.cells, Ctl.join, Ctl.none, least_none' _ h1, least_none' _ h2, most_none _ h3, least_none' _ h4]
theorem says4 (c : Ctl) (hok : c.ok) {n : Bytes} (a : Bytes) (h : (n == privName) = true) : c.cells.setIfInBounds 4 (.bool true) = (c.join (ctlSays n a)).cells := by
 obtain rfl : n = privName := by simpa using h
 obtain ⟨⟨h1, -⟩, ⟨h2, -⟩, ⟨h3, -⟩, h4, -⟩ := hok;rw [show ctlSays privName a = { Ctl.none with pr := true } from rfl];simp [Ctl.cells, Ctl.join, Ctl.none, least_none' _ h1, least_none' _ h2, most_none _ h3, least_none' _ h4]
theorem says5 (c : Ctl) (hok : c.ok) {n : Bytes} (a : Bytes) (h : (n == mustRe) = true) : c.cells.setIfInBounds 5 (.bool true) = (c.join (ctlSays n a)).cells := by
 obtain rfl : n = mustRe := by simpa using h
 obtain ⟨⟨h1, -⟩, ⟨h2, -⟩, ⟨h3, -⟩, h4, -⟩ := hok;rw [show ctlSays mustRe a = { Ctl.none with mr := true } from rfl];simp [Ctl.cells, Ctl.join, Ctl.none, least_none' _ h1, least_none' _ h2, most_none _ h3, least_none' _ h4]
theorem says6 (c : Ctl) (hok : c.ok) {n : Bytes} (a : Bytes) (h : (n == proxyRe) = true) : c.cells.setIfInBounds 6 (.bool true) = (c.join (ctlSays n a)).cells := by
 obtain rfl : n = proxyRe := by simpa using h
 obtain ⟨⟨h1, -⟩, ⟨h2, -⟩, ⟨h3, -⟩, h4, -⟩ := hok;rw [show ctlSays proxyRe a = { Ctl.none with px := true } from rfl];simp [Ctl.cells, Ctl.join, Ctl.none, least_none' _ h1, least_none' _ h2, most_none _ h3, least_none' _ h4]
theorem says7 (c : Ctl) (hok : c.ok) {n : Bytes} (a : Bytes) (h : (n == onlyIf) = true) : c.cells.setIfInBounds 7 (.bool true) = (c.join (ctlSays n a)).cells := by
 obtain rfl : n = onlyIf := by simpa using h
 obtain ⟨⟨h1, -⟩, ⟨h2, -⟩, ⟨h3, -⟩, h4, -⟩ := hok;rw [show ctlSays onlyIf a = { Ctl.none with oi := true } from rfl];simp [Ctl.cells, Ctl.join, Ctl.none, least_none' _ h1, least_none' _ h2, most_none _ h3, least_none' _ h4]
theorem says8 (c : Ctl) (hok : c.ok) {n : Bytes} (a : Bytes) (h : (n == maxAge) = true) : c.cells.setIfInBounds 8 (.int .i64 (least c.ma (numArg a : Nat))) = (c.join (ctlSays n a)).cells := by
 obtain rfl : n = maxAge := by simpa using h
 obtain ⟨⟨h1, -⟩, ⟨h2, -⟩, ⟨h3, -⟩, h4, -⟩ := hok;rw [show ctlSays maxAge a = { Ctl.none with ma := numArg a } from rfl];simp [Ctl.cells, Ctl.join, Ctl.none, least_none' _ h1, least_none' _ h2, most_none _ h3, least_none' _ h4]
theorem says9 (c : Ctl) (hok : c.ok) {n : Bytes} (a : Bytes) (h : (n == sMaxage) = true) : c.cells.setIfInBounds 9 (.int .i64 (least c.sm (numArg a : Nat))) = (c.join (ctlSays n a)).cells := by
 obtain rfl : n = sMaxage := by simpa using h
 obtain ⟨⟨h1, -⟩, ⟨h2, -⟩, ⟨h3, -⟩, h4, -⟩ := hok;rw [show ctlSays sMaxage a = { Ctl.none with sm := numArg a } from rfl];simp [Ctl.cells, Ctl.join, Ctl.none, least_none' _ h1, least_none' _ h2, most_none _ h3, least_none' _ h4]
theorem says10 (c : Ctl) (hok : c.ok) {n : Bytes} (a : Bytes) (h : (n == minFresh) = true) : c.cells.setIfInBounds 10 (.int .i64 (most c.mf (numArg a : Nat))) = (c.join (ctlSays n a)).cells := by
 obtain rfl : n = minFresh := by simpa using h
 obtain ⟨⟨h1, -⟩, ⟨h2, -⟩, ⟨h3, -⟩, h4, -⟩ := hok;rw [show ctlSays minFresh a = { Ctl.none with mf := numArg a } from rfl];simp [Ctl.cells, Ctl.join, Ctl.none, least_none' _ h1, least_none' _ h2, most_none _ h3, least_none' _ h4]
theorem says11 (c : Ctl) (hok : c.ok) {n : Bytes} (a : Bytes) (h : (n == maxStale) = true) (x : Int) (hx : x = if a = [] then (greatest : Int) else (numArg a : Int)) : c.cells.setIfInBounds 11 (.int .i64 (least c.ms x)) = (c.join (ctlSays n a)).cells := by
 obtain rfl : n = maxStale := by simpa using h
 obtain ⟨⟨h1, -⟩, ⟨h2, -⟩, ⟨h3, -⟩, h4, -⟩ := hok;rw [show ctlSays maxStale a = { Ctl.none with ms := if a = [] then (greatest : Int) else (numArg a : Int) } from rfl, ← hx];simp [Ctl.cells, Ctl.join, Ctl.none, least_none' _ h1, least_none' _ h2, most_none _ h3, least_none' _ h4]
theorem says12 (c : Ctl) (hok : c.ok) {n : Bytes} (a : Bytes) (h0 : (n == noStore) = false) (h1 : (n == noCache) = false) (h2 : (n == noTransform) = false) (h3 : (n == pubName) = false) (h4 : (n == privName) = false) (h5 : (n == mustRe) = false) (h6 : (n == proxyRe) = false) (h7 : (n == onlyIf) = false) (h8 : (n == maxAge) = false) (h9 : (n == sMaxage) = false) (h10 : (n == minFresh) = false) (h11 : (n == maxStale) = false) : c = c.join (ctlSays n a) := by
 have e : ctlSays n a = Ctl.none := by
  unfold ctlSays;rw [if_neg (by simpa using h0), if_neg (by simpa using h1), if_neg (by simpa using h2), if_neg (by simpa using h3), if_neg (by simpa using h4), if_neg (by simpa using h5), if_neg (by simpa using h6), if_neg (by simpa using h7), if_neg (by simpa using h8), if_neg (by simpa using h9), if_neg (by simpa using h10), if_neg (by simpa using h11)]
 rw [e, join_none c hok]
theorem cells_all (c d : Ctl) : ((((((((((((c.cells.setIfInBounds 0 (.bool d.ns)).setIfInBounds 1 (.bool d.nc)).setIfInBounds 2 (.bool d.nt)).setIfInBounds 3 (.bool d.pu)).setIfInBounds 4 (.bool d.pr)).setIfInBounds 5 (.bool d.mr)).setIfInBounds 6 (.bool d.px)).setIfInBounds 7 (.bool d.oi)).setIfInBounds 8 (.int .i64 d.ma)).setIfInBounds 9 (.int .i64 d.sm)).setIfInBounds 10 (.int .i64 d.mf)).setIfInBounds 11 (.int .i64 d.ms)) = d.cells := by simp [Ctl.cells]
theorem ret_ctl {W : World} {tmps : Array Value} {b : Nat} {c : Ctl} {R : Ending → World → Prop} (hs : tmps[2]? = some (.pointer (some ⟨b, 0, none⟩))) (h : Blk W b 80 c.cells) (hR : R (.returned c.val) W) :
  bodyPost Tryz.prog Tryz.f84 R .ret { tmps := tmps, defers := [] } W := by
 have g0 : W.cell? ⟨b, 0, none⟩ = some (.bool c.ns) := h.cell 0;have g1 : W.cell? ⟨b, 1, none⟩ = some (.bool c.nc) := h.cell 1;have g2 : W.cell? ⟨b, 2, none⟩ = some (.bool c.nt) := h.cell 2;have g3 : W.cell? ⟨b, 3, none⟩ = some (.bool c.pu) := h.cell 3;have g4 : W.cell? ⟨b, 4, none⟩ = some (.bool c.pr) := h.cell 4;have g5 : W.cell? ⟨b, 5, none⟩ = some (.bool c.mr) := h.cell 5;have g6 : W.cell? ⟨b, 6, none⟩ = some (.bool c.px) := h.cell 6;have g7 : W.cell? ⟨b, 7, none⟩ = some (.bool c.oi) := h.cell 7;have g8 : W.cell? ⟨b, 8, none⟩ = some (.int .i64 c.ma) := h.cell 8;have g9 : W.cell? ⟨b, 9, none⟩ = some (.int .i64 c.sm) := h.cell 9;have g10 : W.cell? ⟨b, 10, none⟩ = some (.int .i64 c.mf) := h.cell 10;have g11 : W.cell? ⟨b, 11, none⟩ = some (.int .i64 c.ms) := h.cell 11;exact bodyPost_ret (v := c.val) (by simp [results, Tryz.results84, go_sem, hs, g0, g1, g2, g3, g4, g5, g6, g7, g8, g9, g10, g11]) rfl hR
theorem Read_any (l : List F) (v : Value) (w : World) (h : Fs w.heap.size w v l) (hl : fsum l ≤ 1099511627776) :
    Calls Tryz.prog 84 #[v] w fun e w' => e = .returned (readC l).val ∧ Below w.heap.size w w' := by
  have hsum := ssum_all l cacheControl;go_enter Tryz.func84, Tryz.ntmps84
  go_wp2_with fail;have hC0 := Blk.new (w.alloc (.cells Ctl.zero.cells 80)) 80 Ctl.none.cells;have hb0 : Below w.heap.size w ((w.alloc (.cells Ctl.zero.cells 80)).alloc (.cells Ctl.none.cells 80)) := ((Below.refl _ _).alloc (Nat.le_refl _) _).alloc (by simp) _;have hZ0 := (Blk.new w 80 Ctl.zero.cells).alloc (.cells Ctl.none.cells 80);refine (All_any l cacheControl v _ ((h.below hb0).mono hb0.size) hl (by decide)).mono ?_;rintro e w1 ⟨vv, rfl, hvv, hb1⟩;have hu : Hid (readC l = ctlAll (allOf l cacheControl)) := rfl;generalize allOf l cacheControl = vs at *;have hC1 := hC0.below hb1 hC0.lt;have hZ1 := hZ0.below hb1 hZ0.lt;have hw1 := Bl.tr hb0 hb1;clear hC0 hZ0 hb0 hb1;obtain ⟨pa, ca, rfl, hm⟩ := (Ss.own hvv).form;simp only [World.alloc, Array.size_push] at hC1 hvv;go_wp2
  go_loopw [16] (fun i wr => ∃ k : Nat, i = .int .i64 k ∧ k ≤ vs.length ∧ Blk wr (w.heap.size + 1) 80 (ctlAll (vs.take k)).cells ∧ Blk wr w.heap.size 80 Ctl.zero.cells ∧ wr.ownsRow (w.heap.size + 2) 9 1 (.slice pa vs.length ca) vs.length (vs.map S) ∧ Below w.heap.size w wr) (fun i _ => vs.length - (intOf i).toNat)
  case atStart => exact ⟨0, rfl, Nat.zero_le _, hC1, hZ1, hvv, hw1⟩
  case round =>
    obtain ⟨k, rfl, hk, hC, hZ, hown, hbel⟩ := hrel;by_cases hlt : k < vs.length
    · obtain ⟨b, off, rfl, hbb, c0⟩ := (Ss.own hown).at k hlt
      have hf := ssum_mem (List.getElem_mem hlt);have HS := Lib.hid (ctlAll_snoc vs k hlt);have hok := Lib.hid (ctlAll_ok (vs.take k));go_wp2_with fail;refine (Directive_any vs[k] _ (by omega)).mono ?_;rintro e w2 ⟨rfl, hb2⟩;have hC2 := hC.below hb2 hC.lt;have hZ2 := hZ.below hb2 hZ.lt;have hown2 := own_below hown hb2;have hw2 := hbel.trans (hb2.mono hbel.size);clear hC hZ hown hb2 hbel;have f2 := hC2.free;generalize ctlAll (vs.take k) = c at *;have hD := ctlOf.eq_1 vs[k];by_cases hd : (directive vs[k]).2.2 = true
      · rw [if_pos hd] at hD
        rw [hd]
        (generalize hgenn : (directive vs[k]).1 = n at *;have Hn := Lib.hid hgenn;clear hgenn)
        (generalize hgena : (directive vs[k]).2.1 = a at *;have Ha := Lib.hid hgena;clear hgena)
        have HD := Lib.hid hD;clear hD hd;have g0 : w2.cell? ⟨w.heap.size + 1, 0, none⟩ = some (.bool c.ns) := hC2.cell 0;have g1 : w2.cell? ⟨w.heap.size + 1, 1, none⟩ = some (.bool c.nc) := hC2.cell 1;have g2 : w2.cell? ⟨w.heap.size + 1, 2, none⟩ = some (.bool c.nt) := hC2.cell 2;have g3 : w2.cell? ⟨w.heap.size + 1, 3, none⟩ = some (.bool c.pu) := hC2.cell 3;have g4 : w2.cell? ⟨w.heap.size + 1, 4, none⟩ = some (.bool c.pr) := hC2.cell 4;have g5 : w2.cell? ⟨w.heap.size + 1, 5, none⟩ = some (.bool c.mr) := hC2.cell 5;have g6 : w2.cell? ⟨w.heap.size + 1, 6, none⟩ = some (.bool c.px) := hC2.cell 6;have g7 : w2.cell? ⟨w.heap.size + 1, 7, none⟩ = some (.bool c.oi) := hC2.cell 7;have g8 : w2.cell? ⟨w.heap.size + 1, 8, none⟩ = some (.int .i64 c.ma) := hC2.cell 8;have g9 : w2.cell? ⟨w.heap.size + 1, 9, none⟩ = some (.int .i64 c.sm) := hC2.cell 9;have g10 : w2.cell? ⟨w.heap.size + 1, 10, none⟩ = some (.int .i64 c.mf) := hC2.cell 10;have g11 : w2.cell? ⟨w.heap.size + 1, 11, none⟩ = some (.int .i64 c.ms) := hC2.cell 11;have ol8 : -1 ≤ c.ma := hok.out.1.1;have ou8 : c.ma ≤ 1099511627776 := hok.out.1.2;have ol9 : -1 ≤ c.sm := hok.out.2.1.1;have ou9 : c.sm ≤ 1099511627776 := hok.out.2.1.2;have ol10 : -1 ≤ c.mf := hok.out.2.2.1.1;have ou10 : c.mf ≤ 1099511627776 := hok.out.2.2.1.2;have ol11 : -1 ≤ c.ms := hok.out.2.2.2.1;have ou11 : c.ms ≤ 1099511627776 := hok.out.2.2.2.2;have hna := numArg_le a;have hal := directive_arg vs[k];rw [Ha.out] at hal;go_wp2_with (first | (go_at_call 121;refine (numArg_any a _ (by unfold maxLen;omega)).mono ?_;rintro e w' ⟨rfl, rfl⟩) | (go_at_call 118;first | ((with_reducible refine (countLeast_any c.ma _ (w.heap.size + 1) 8 _ ol8 ou8 (by omega) (by omega) g8 (f2 8)).mono ?_);rintro e w' ⟨rfl, rfl⟩) | ((with_reducible refine (countLeast_any c.sm _ (w.heap.size + 1) 9 _ ol9 ou9 (by omega) (by omega) g9 (f2 9)).mono ?_);rintro e w' ⟨rfl, rfl⟩) | ((with_reducible refine (countMost_any c.mf _ (w.heap.size + 1) 10 _ ol10 ou10 (by omega) (by omega) g10 (f2 10)).mono ?_);rintro e w' ⟨rfl, rfl⟩) | ((with_reducible refine (countLeast_any c.ms _ (w.heap.size + 1) 11 _ ol11 ou11 (by omega) (by omega) g11 (f2 11)).mono ?_);rintro e w' ⟨rfl, rfl⟩)))
        case' roundEnd => skip
        all_goals
          first
            | (refine ⟨⟨k + 1, by go_num, by omega, ?_, hZ2.other (by simp) _, ownsRow_setCell_below hown2 (by simp) _, hw2.setCell (by simp) _⟩, by simp [intOf];omega⟩
               rw [HS.out, HD.out]
               first
              | ((with_reducible refine set_eq hC2 (k := 0) (says0 c hok.out a ?_));assumption)
              | ((with_reducible refine set_eq hC2 (k := 1) (says1 c hok.out a ?_));assumption)
              | ((with_reducible refine set_eq hC2 (k := 2) (says2 c hok.out a ?_));assumption)
              | ((with_reducible refine set_eq hC2 (k := 3) (says3 c hok.out a ?_));assumption)
              | ((with_reducible refine set_eq hC2 (k := 4) (says4 c hok.out a ?_));assumption)
              | ((with_reducible refine set_eq hC2 (k := 5) (says5 c hok.out a ?_));assumption)
              | ((with_reducible refine set_eq hC2 (k := 6) (says6 c hok.out a ?_));assumption)
              | ((with_reducible refine set_eq hC2 (k := 7) (says7 c hok.out a ?_));assumption)
              | ((with_reducible refine set_eq hC2 (k := 8) (says8 c hok.out a ?_));assumption)
              | ((with_reducible refine set_eq hC2 (k := 9) (says9 c hok.out a ?_));assumption)
              | ((with_reducible refine set_eq hC2 (k := 10) (says10 c hok.out a ?_));assumption)
              | ((with_reducible refine set_eq hC2 (k := 11) (says11 c hok.out a ?_ _ ?_))
                 · assumption
                 · first
                   | (have q : a.isEmpty = true := by assumption
                      rw [if_pos (by simpa using q)];rfl)
                   | (have q : a.isEmpty = false := by assumption
                      rw [if_neg (by simpa using q)])))
            | (refine ⟨⟨k + 1, by go_num, by omega, ?_, hZ2, hown2, hw2⟩, by simp [intOf];omega⟩
               rw [HS.out, HD.out, ← says12 c hok.out a]
               · exact hC2
               all_goals assumption)
      · rw [if_neg hd] at hD
        have hd' : (directive vs[k]).2.2 = false := (by simpa using hd)
        rw [hd']
        (generalize hgenn : (directive vs[k]).1 = n at *;have Hn := Lib.hid hgenn;clear hgenn)
        (generalize hgena : (directive vs[k]).2.1 = a at *;have Ha := Lib.hid hgena;clear hgena)
        have HD := Lib.hid hD;clear hD hd hd';go_wp2
        go_roundw
        case rel => exact ⟨k + 1, by go_num, by omega, by rw [HS.out, HD.out, join_none c hok.out];exact hC2, hZ2, hown2, hw2⟩
        case measure => simp [intOf];omega
    · have hk' : k = vs.length := by omega
      subst hk';rw [List.take_length, ← hu.out] at hC
      (generalize hgenc : readC l = c at *;have Hc := Lib.hid hgenc;clear hgenc)
      have g0 : wr.cell? ⟨w.heap.size + 1, 0, none⟩ = some (.bool c.ns) := hC.cell 0;have g1 : wr.cell? ⟨w.heap.size + 1, 1, none⟩ = some (.bool c.nc) := hC.cell 1;have g2 : wr.cell? ⟨w.heap.size + 1, 2, none⟩ = some (.bool c.nt) := hC.cell 2;have g3 : wr.cell? ⟨w.heap.size + 1, 3, none⟩ = some (.bool c.pu) := hC.cell 3;have g4 : wr.cell? ⟨w.heap.size + 1, 4, none⟩ = some (.bool c.pr) := hC.cell 4;have g5 : wr.cell? ⟨w.heap.size + 1, 5, none⟩ = some (.bool c.mr) := hC.cell 5;have g6 : wr.cell? ⟨w.heap.size + 1, 6, none⟩ = some (.bool c.px) := hC.cell 6;have g7 : wr.cell? ⟨w.heap.size + 1, 7, none⟩ = some (.bool c.oi) := hC.cell 7;have g8 : wr.cell? ⟨w.heap.size + 1, 8, none⟩ = some (.int .i64 c.ma) := hC.cell 8;have g9 : wr.cell? ⟨w.heap.size + 1, 9, none⟩ = some (.int .i64 c.sm) := hC.cell 9;have g10 : wr.cell? ⟨w.heap.size + 1, 10, none⟩ = some (.int .i64 c.mf) := hC.cell 10;have g11 : wr.cell? ⟨w.heap.size + 1, 11, none⟩ = some (.int .i64 c.ms) := hC.cell 11;have z0 : wr.cell? ⟨w.heap.size, 0, none⟩ = some (.bool false) := hZ.cell 0;have z1 : wr.cell? ⟨w.heap.size, 1, none⟩ = some (.bool false) := hZ.cell 1;have z2 : wr.cell? ⟨w.heap.size, 2, none⟩ = some (.bool false) := hZ.cell 2;have z3 : wr.cell? ⟨w.heap.size, 3, none⟩ = some (.bool false) := hZ.cell 3;have z4 : wr.cell? ⟨w.heap.size, 4, none⟩ = some (.bool false) := hZ.cell 4;have z5 : wr.cell? ⟨w.heap.size, 5, none⟩ = some (.bool false) := hZ.cell 5;have z6 : wr.cell? ⟨w.heap.size, 6, none⟩ = some (.bool false) := hZ.cell 6;have z7 : wr.cell? ⟨w.heap.size, 7, none⟩ = some (.bool false) := hZ.cell 7;have z8 : wr.cell? ⟨w.heap.size, 8, none⟩ = some (.int .i64 0) := hZ.cell 8;have z9 : wr.cell? ⟨w.heap.size, 9, none⟩ = some (.int .i64 0) := hZ.cell 9;have z10 : wr.cell? ⟨w.heap.size, 10, none⟩ = some (.int .i64 0) := hZ.cell 10;have z11 : wr.cell? ⟨w.heap.size, 11, none⟩ = some (.int .i64 0) := hZ.cell 11;have f0 := hZ.free;go_wp2;have hR := ((((((((((((hZ.set 0 (.bool c.ns)).set 1 (.bool c.nc)).set 2 (.bool c.nt)).set 3 (.bool c.pu)).set 4 (.bool c.pr)).set 5 (.bool c.mr)).set 6 (.bool c.px)).set 7 (.bool c.oi)).set 8 (.int .i64 c.ma)).set 9 (.int .i64 c.sm)).set 10 (.int .i64 c.mf)).set 11 (.int .i64 c.ms));rw [cells_all] at hR;exact ret_ctl rfl hR ⟨by rw [Hc.out], ((((((((((((hbel.setCell (Nat.le_refl _) _).setCell (Nat.le_refl _) _).setCell (Nat.le_refl _) _).setCell (Nat.le_refl _) _).setCell (Nat.le_refl _) _).setCell (Nat.le_refl _) _).setCell (Nat.le_refl _) _).setCell (Nat.le_refl _) _).setCell (Nat.le_refl _) _).setCell (Nat.le_refl _) _).setCell (Nat.le_refl _) _).setCell (Nat.le_refl _) _)⟩
end Go.Proofs.YtahapblgmehngaaGreatDoor
