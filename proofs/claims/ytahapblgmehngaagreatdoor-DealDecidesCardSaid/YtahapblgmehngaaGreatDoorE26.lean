/- Parts of the proof of DealDecides_holds: the texts Var4 Stor1 Stor2 Rf18e. -/
import Derived.Test.YtahapblgmehngaaGreatDoorE25
set_option linter.unusedSimpArgs false
set_option linter.unusedVariables false
set_option linter.unnecessarySimpa false
set_option maxRecDepth 100000
set_option maxHeartbeats 64000000
namespace Go.Proofs.YtahapblgmehngaaGreatDoor
open Go.RowKit Go.Dr
def varyT : Bytes := [118, 97, 114, 121]
def namesOf (l : List F) : List Bytes := allOf l varyT
def starred (vs : List Bytes) : Bool := vs.any fun s => s == [42]
def namesR (vs : List Bytes) : List Bytes := if starred vs then [] else rising (vs.map low)
def RetN (ts : TypeId) (w : World) (vs : List Bytes) (e : Ending) (w' : World) : Prop := ∃ v, e = .returned (.tuple #[v, .bool (starred vs)]) ∧ w'.ownsRow w.heap.size ts 1 v (namesR vs).length ((namesR vs).map S) ∧ Below w.heap.size w w'
theorem starred_at {vs : List Bytes} {k : Nat} (h : k < vs.length) (e : vs[k] = [42]) : starred vs = true := by
 rw [starred, List.any_eq_true];exact ⟨vs[k], List.getElem_mem h, by simp [e]⟩
theorem not_starred {vs : List Bytes} (h : ∀ j (h : j < vs.length), vs[j] ≠ [42]) : starred vs = false := by
 rw [starred, List.any_eq_false];intro x hx;obtain ⟨k, hk, rfl⟩ := List.mem_iff_getElem.1 hx;simpa using h k hk
def NoStar (vs : List Bytes) (k : Nat) : Prop := ∀ j (h : j < vs.length), j < k → vs[j] ≠ [42]
theorem NoStar.zero (vs : List Bytes) : NoStar vs 0 := fun _ _ h => by omega
theorem NoStar.succ {vs : List Bytes} {k : Nat} (h : NoStar vs k) (hk : k < vs.length) (e : vs[k] ≠ [42]) : NoStar vs (k + 1) := fun j hj hlt => by
 by_cases e2 : j = k
 ·subst e2;exact e
 ·exact h j hj (by omega)
theorem NoStar.all {vs : List Bytes} (h : NoStar vs vs.length) : starred vs = false := not_starred fun j hj => h j hj hj
theorem Names_any (l : List F) (v : Value) (w : World) (h : Fs w.heap.size w v l) (hl : fsum l ≤ 1099511627776) :
  Calls Tryz.prog 50 #[v] w (RetN 9 w (namesOf l)) := by
 have HS := ssum_all l varyT;have HY : Hid (namesOf l = allOf l varyT) := rfl;go_enter Tryz.func50, Tryz.ntmps50
 go_wp2_with fail;refine (All_any l varyT v w h hl (by decide)).mono ?_;rintro e w1 ⟨vv, rfl, hvv, hb1⟩;have hr : Ss w1.heap.size w1 vv (allOf l varyT) := Ss.own hvv;generalize allOf l varyT = vs at *;clear hvv h;have hsl := ssum_length vs;obtain ⟨pa, ca, rfl, hm⟩ := hr.form;go_wp2
 go_loopw [4, 10] (fun v' i wr => ∃ k : Nat, i = .int .i64 k ∧ k ≤ vs.length ∧ NoStar vs k ∧ wr.ownsRow w1.heap.size 9 1 v' ((vs.take k).map low).length (((vs.take k).map low).map S) ∧ Below w1.heap.size w1 wr) (fun _ i _ => vs.length - (intOf i).toNat)
 case atStart => exact ⟨0, rfl, Nat.zero_le _, NoStar.zero _, World.ownsRow_nil _ _ _ _, Below.refl _ _⟩
 case round =>
  obtain ⟨k, rfl, hk, HN, hown, hbel⟩ := hrel;by_cases hlt : k < vs.length
  ·obtain ⟨b, off, rfl, hbb, c0⟩ := (hr.below hbel).at k hlt
   have hf := ssum_mem (List.getElem_mem hlt);by_cases hs : vs[k] = [42]
   ·have HT := Lib.hid (starred_at hlt hs)
    have g : (vs[k] == [42]) = true := (by simp [hs]);clear hs;go_wp2;go_ret2;rw [HY.out];exact ⟨.slice none 0 0, by rw [HT.out];rfl, by rw [namesR, HT.out, if_pos rfl];exact World.ownsRow_nil _ _ _ _, Bl.tr hb1 hbel⟩
   ·have g : (vs[k] == [42]) = false := by simp [hs]
    have HN' := Lib.hid (HN.succ hlt hs)
    have HV := Lib.hid (map_low_snoc' vs k hlt);have hvl : ((vs.take k).map low).length ≤ k := (by simp;omega);clear hs;generalize (vs.take k).map low = out at *;go_wp2_with (first | (at_builtin;refine wpList_app1 rfl _ _ 44 rfl w1.heap.size (.string ByteArray.empty) 16 Tryz.underlying44 (by kernel_rfl) rfl rfl _ _ _ rfl (own_below hown hb2) rfl (by omega) (by decide) (by have := hbel.size;have := hb2.size;omega) ?_;intro a' c' w3 hown3 hb3 hz3) | (go_at_call 93;refine (Lower_any _ _ (by unfold maxLen;omega)).mono ?_;rintro e w2 ⟨rfl, hb2⟩))
    go_roundw
    case rel => exact ⟨k + 1, by go_num, by omega, HN'.out, by rw [HV.out];simpa using hown3, (hbel.trans (hb2.mono hbel.size)).trans hb3⟩
    case measure => simp [intOf];omega
  ·have hk' : k = vs.length := by omega
   subst hk';rw [List.take_length] at hown;have HT := Lib.hid HN.all;go_wp2_with fail;refine (rising_any (vs.map low) w1.heap.size _ wr hown hbel.size (by rw [List.length_map];omega)).mono ?_;rintro e w2 ⟨v2, rfl, ho2, hb2⟩;go_wp2;go_ret2;rw [HY.out];exact ⟨v2, by rw [HT.out];rfl, by rw [namesR, HT.out, if_neg (by simp)];exact own_base ho2 hb1.size, Bl.tr hb1 (hbel.trans hb2)⟩
theorem refNames_any (l : List F) (v : Value) (w : World) (h : Fs w.heap.size w v l) (hl : fsum l ≤ 1099511627776) :
    Calls Tryz.prog 16 #[v] w (RetN 9 w (namesOf l)) := by
  have HS := ssum_all l varyT;have HY : Hid (namesOf l = allOf l varyT) := rfl;go_enter Tryz.func16, Tryz.ntmps16
  go_wp2_with fail;refine (refAll_any l varyT v w h hl (by decide)).mono ?_;rintro e w1 ⟨vv, rfl, hvv, hb1⟩;have hr : Ss w1.heap.size w1 vv (allOf l varyT) := Ss.own hvv;generalize allOf l varyT = vs at *;clear hvv h;have hsl := ssum_length vs;obtain ⟨pa, ca, rfl, hm⟩ := hr.form;go_wp2
  go_loopw [5, 6] (fun v' i wr => ∃ k : Nat, i = .int .i64 k ∧ k ≤ vs.length ∧ NoStar vs k ∧ wr.ownsRow w1.heap.size 9 1 v' (putAll ((vs.take k).map low)).length ((putAll ((vs.take k).map low)).map S) ∧ Below w1.heap.size w1 wr) (fun _ i _ => vs.length - (intOf i).toNat)
  case atStart => exact ⟨0, rfl, Nat.zero_le _, NoStar.zero _, World.ownsRow_nil _ _ _ _, Below.refl _ _⟩
  case round =>
    obtain ⟨k, rfl, hk, HN, hown, hbel⟩ := hrel;by_cases hlt : k < vs.length
    · obtain ⟨b, off, rfl, hbb, c0⟩ := (hr.below hbel).at k hlt
      have hf := ssum_mem (List.getElem_mem hlt);by_cases hs : vs[k] = [42]
      · have HT := Lib.hid (starred_at hlt hs)
        have g : (vs[k] == [42]) = true := (by simp [hs]);clear hs;go_wp2;go_ret2;rw [HY.out];exact ⟨.slice none 0 0, by rw [HT.out];rfl, by rw [namesR, HT.out, if_pos rfl];exact World.ownsRow_nil _ _ _ _, Bl.tr hb1 hbel⟩
      · have g : (vs[k] == [42]) = false := by simp [hs]
        have HN' := Lib.hid (HN.succ hlt hs)
        have hvl : (putAll ((vs.take k).map low)).length ≤ k := (by have := putAll_length ((vs.take k).map low);rw [List.length_map, List.length_take] at this;omega);have HV := Lib.hid (putAll_low_snoc vs k hlt);clear hs;generalize putAll ((vs.take k).map low) = out at *;go_wp2_with fail;refine (refLower_any _ _ (by omega)).mono ?_;rintro e w2 ⟨rfl, hb2⟩;have ho2 := own_below hown hb2;have hw2 := hbel.trans (hb2.mono hbel.size);have hr2 : Ss w2.heap.size w2 _ out := Ss.own ho2;generalize low vs[k] = s at *;clear hown hb2 c0;have hpl := placeOf_le s out;have HB := Lib.hid (placeOf_below s out);have HA := Lib.hid (placeOf_at s out);obtain ⟨po, co, rfl, hmo⟩ := hr2.form;go_wp2;obtain ⟨wo, rfl⟩ : ∃ wo : World, wo = w2 := ⟨_, rfl⟩
        go_loopw [8] (fun i wr' => ∃ j : Nat, i = .int .i64 j ∧ j ≤ placeOf s out ∧ wr' = wo) (fun i _ => placeOf s out - (intOf i).toNat)
        case atStart => exact ⟨0, rfl, Nat.zero_le _, rfl⟩
        case round =>
          obtain ⟨j, rfl, hj, hwe⟩ := hrel;obtain rfl : wo = wr := hwe.symm;by_cases hjp : j < placeOf s out
          · obtain ⟨bo, oo, rfl, hbo, d0⟩ := hr2.at j (by omega)
            have g1 : Op.bytesLess out[j] s = true := (by rw [bytesLess_eq];simpa using HB.out j hjp (by omega));have g0 : decide ((j : Int) < (out.length : Int)) = true := (by simp;omega);go_wp2
            go_roundw
            case rel => exact ⟨j + 1, by go_num, by omega, trivial⟩
            case measure => simp [intOf];omega
          · have hj' : j = placeOf s out := by omega
            clear hjp;have hjl : j ≤ out.length := (by omega);have HP := Lib.hid (putIn.eq_1 out s);rw [← hj'] at HP;have HJ := Lib.hid hj';clear hj' hj hpl;have HD : Hid (out[j]? ≠ some s → putAll ((vs.take (k + 1)).map low) = out.take j ++ ([s] ++ out.drop j)) := fun h => by rw [HV.out, HP.out, if_neg h];rfl
            have HE : Hid (out[j]? = some s → putAll ((vs.take (k + 1)).map low) = out) := fun h => by rw [HV.out, HP.out, if_pos h]
            clear HP HV;by_cases hA : j < out.length ∧ out[j]? = some s
            · obtain ⟨hj1, hj2⟩ := hA
              have HV := Lib.hid (HE.out hj2);obtain ⟨bo, oo, rfl, hbo, d0⟩ := hr2.at j hj1;have e : out[j] = s := (by rw [List.getElem?_eq_getElem hj1] at hj2;exact Option.some.inj hj2);have g1 : Op.bytesLess out[j] s = false := (by rw [bytesLess_eq, e, decide_eq_false_iff_not];exact b_lt_irrefl s);have g2 : (out[j] == s) = true := (by simp [e]);have g0 : decide ((j : Int) < (out.length : Int)) = true := (by simp;omega);clear e hj2;go_wp2
              go_roundw
              case rel => exact ⟨k + 1, by go_num, by omega, HN'.out, by rw [HV.out];exact ho2, hw2⟩
              case measure => simp [intOf];omega
            · have hne : out[j]? ≠ some s := fun h => hA ⟨(List.getElem?_eq_some_iff.1 h).1, h⟩
              have HV := Lib.hid (HD.out hne);have HNn := Lib.hid hne;clear hA hne;have hD : Rd wo.heap.size wo 1 (sliced po j out.length co 1) (out.length - j) ((out.drop j).map S) := (by have := Rd.sliced hr2 hjl;rwa [Nat.mul_one, ← List.map_drop] at this);have hT : Rd wo.heap.size wo 1 (.slice po j co) j ((out.take j).map S) := (by have := Rd.upto hr2 hjl;rwa [Nat.mul_one, ← List.map_take] at this);have hco : out.length ≤ co := (by obtain ⟨_, cc, e1, e2, _⟩ := hr2;simp only [Value.slice.injEq] at e1;omega);have hal1 : Below wo.heap.size wo (wo.alloc (.cells #[S s] 9)) := (Below.refl _ _).alloc (Nat.le_refl _) _;have hw1s := hw2.size;have hal1s : wo.heap.size + 1 ≤ wo.heap.size + 1 := Nat.le_refl _;have hlo := hvl
              rcases (by rcases Nat.lt_or_ge j out.length with h1 | h1;exact .inl h1;exact .inr (by rw [decide_eq_false_iff_not];omega) : j < out.length ∨ decide ((j : Int) < (out.length : Int)) = false) with hj1 | g0
              all_goals
                first
                | have hj0 := hj1
                  obtain ⟨bo, oo, rfl, hbo, d0⟩ := hr2.at j hj1;have g1 : Op.bytesLess out[j] s = false := (by rw [bytesLess_eq, decide_eq_false_iff_not];have := HA.out (by rw [← HJ.out];exact hj1);simpa only [← HJ.out] using this);have g2 : (out[j] == s) = false := (by rw [beq_eq_false_iff_ne];exact fun e => HNn.out (by rw [List.getElem?_eq_getElem hj1, e]));have g0 : decide ((j : Int) < (out.length : Int)) = true := by simp;omega
                | have g3 : decide (j < out.length) = false := by simpa using g0
                  rcases ho2.2 with ⟨hn0, hl0⟩ | ⟨gb, gcap, gcur, hv0, -, hgb, -⟩
                  all_goals
                    first
                    | simp only [Value.slice.injEq] at hn0
                      obtain ⟨rfl, -, rfl⟩ := hn0;have g4 : out = [] := List.eq_nil_of_length_eq_zero hl0;subst g4;have g5 : j = 0 := (by simpa using hjl);subst g5;clear hl0
                    | simp only [Value.slice.injEq] at hv0
                      obtain ⟨rfl, -, -⟩ := hv0;clear hgb
              all_goals
                have HN2 := HN';clear HA HB HN' HJ HE HD;unfold sliced at hD
                first | ((have hcn0 : co = co := rfl);by_cases hcn : co = j) | have hq := hjl
              all_goals
                try (exfalso;omega;done)
              all_goals
                first | (have hcn' := hcn.symm;clear hcn;subst hcn';rw [if_pos rfl, Nat.sub_self] at hD;have HCo := Lib.hid hco;clear hco) | rw [if_neg hcn] at hD | rw [if_pos rfl] at hD
                try simp only [Option.map_some, Addr.add_lit, Nat.mul_one, Nat.zero_add] at hD
                first
                | have hcase := hq
                  have hn1 : Rd (wo.heap.size + 2) ((wo.alloc (.cells #[S s] 9)).alloc (.cells #[] 9)) 1 (.slice (some ⟨wo.heap.size, 0, none⟩) 1 1) 1 ([s].map S) :=
                    ((Rd.lit_at wo wo.heap.size rfl 9 #[S s] 1 1 rfl (by decide)).below (w' := (wo.alloc (.cells #[S s] 9)).alloc (.cells #[] 9)) ((Below.refl _ _).alloc (by simp) _)).mono (by omega)
                  go_wp2_with (at_builtin;refine wpList_appRd rfl _ _ 44 rfl (wo.heap.size + 1) 9 (.string ByteArray.empty) 1 16 Tryz.underlying44 (by kernel_rfl) rfl (by decide) _ _ _ rfl (own_lit (wo.alloc (.cells #[S s] 9)) (wo.heap.size + 1) (by simp) (wo.heap.size + 1) (Nat.le_refl _) 9 1) _ _ _ _ rfl hn1 (S_one _) (by unfold maxLen;omega) (by omega) (by simp) ?_;intro a5 c5 w5 hown5 hb5;simp only [Nat.zero_add, List.nil_append] at hown5)
                  have hlen : (putAll ((vs.take (k + 1)).map low)).length = 1 := (by rw [HV.out];simp)
                  go_roundw
                  case rel => exact ⟨k + 1, by go_num, by omega, HN2.out, by rw [hlen, HV.out];exact own_base hown5 (by omega), hw2.trans ((((Below.refl _ _).alloc hw1s _).alloc (by simp;omega) _).trans (hb5.mono (by omega)))⟩
                  case measure => simp [intOf];omega
                | have hcase := hcn0
                  go_wp2_with (first
                    | (at_builtin;refine wpList_appRd rfl _ _ 44 rfl w3.heap.size 9 (.string ByteArray.empty) 1 16 Tryz.underlying44 (by kernel_rfl) rfl (by decide) _ _ _ rfl hown4 _ _ _ _ rfl (Rd.below hs3 hb34) (S_one _) (by unfold maxLen;omega) (by omega) (by have := hb34.size;omega) ?_;intro a5 c5 w5 hown5 hb5)
                    | (at_builtin;refine wpList_appRd rfl _ _ 44 rfl w3.heap.size 9 (.string ByteArray.empty) 1 16 Tryz.underlying44 (by kernel_rfl) rfl (by decide) _ _ _ rfl (own_lit w3 w3.heap.size rfl w3.heap.size (Nat.le_refl _) 9 1) _ _ _ _ rfl ((Rd.below hT hb03).below ((Below.refl _ _).alloc (Nat.le_of_lt (Nat.lt_of_lt_of_le (Nat.lt_succ_self _) hz03)) _)) (S_one _) (by unfold maxLen;omega) (by omega) (by simp) ?_;intro a4 c4 w4 hown4 hb4;simp only [Nat.zero_add, List.nil_append] at hown4;have hb34 : Below w3.heap.size w3 w4 := ((Below.refl _ _).alloc (Nat.le_refl _) _).trans hb4)
                    | (at_builtin;refine wpList_appRd rfl _ _ 44 rfl wo.heap.size 9 (.string ByteArray.empty) 1 16 Tryz.underlying44 (by kernel_rfl) rfl (by decide) _ _ _ rfl (World.ownsRow_lit (base := wo.heap.size) (e := 9) (size := 1) wo #[S s] 1 (Nat.le_refl _) (by decide) rfl) _ _ _ _ rfl (Rd.below hD hal1) (S_one _) (by unfold maxLen;omega) (by omega) (by simp) ?_;intro a3 c3 w3 hown3 hb3;have hb03 : Below wo.heap.size wo w3 := hal1.trans hb3;have hz03 : wo.heap.size < w3.heap.size := (by have := hb3.size;simp at this;omega);have hs3 : Rd w3.heap.size w3 1 _ (1 + (out.length - j)) (([s] ++ out.drop j).map S) := (by rw [List.map_append];exact Rd.own hown3)))
                  have hz34 := hb34.size;have hlen : (putAll ((vs.take (k + 1)).map low)).length = j + (1 + (out.length - j)) := (by rw [HV.out];simp;omega)
                  go_roundw
                  case rel => exact ⟨k + 1, by go_num, by omega, HN2.out, by rw [hlen, HV.out, List.map_append];exact own_base hown5 (by omega), hw2.trans (((hb03.mono hw1s).trans (hb34.mono (by omega))).trans (hb5.mono (by omega)))⟩
                  case measure => simp [intOf];omega
    · have hk' : k = vs.length := by omega
      subst hk';rw [List.take_length] at hown;have HT := Lib.hid HN.all;go_wp2;go_ret2;rw [HY.out];exact ⟨_, by rw [HT.out];rfl, by rw [namesR, HT.out, if_neg (by simp), rising_eq];exact own_base hown hb1.size, Bl.tr hb1 hbel⟩
end Go.Proofs.YtahapblgmehngaaGreatDoor
namespace Go.Dr
def ask2 (st : Int) : Bool := decide (200 ≤ st) && decide (st ≤ 599) && !(st == 206) && !(st == 304)
def ask3 (a b : Ctl) : Bool := !a.ns && !b.ns && !b.pr
def ask4 (lr : List F) (b : Ctl) : Bool := !hasN lr authT || b.mr || b.pu || decide (0 ≤ b.sm)
def toldB18 (b : Ctl) (lf : List F) : Bool := decide (0 ≤ b.ma) || decide (0 ≤ b.sm) || b.pu || hasN lf expiresN
def ask6 (t : Bool) (st : Int) (lf : List F) : Bool := t || knownB st && (hasN lf etagT || hasN lf lastN)
end Go.Dr
namespace Go.Proofs.YtahapblgmehngaaGreatDoor
open Go.RowKit Go.Dr
def ask5 (lf : List F) : Bool := !starred (namesOf lf)
def storF (m : Bytes) (st : Int) (lr lf : List F) : Bool := (m == [71, 69, 84]) && ask2 st && ask3 (readC lr) (readC lf) && ask4 lr (readC lf) && ask5 lf && ask6 (toldB18 (readC lf) lf) st lf
theorem keep1_any (R : Nat) (m : Bytes) (w : World) (h : w.cell? ⟨R, 0, none⟩ = some (S m)) :
  Calls Tryz.prog 86 #[.pointer (some ⟨R, 0, none⟩)] w fun e w' => e = .returned (.bool (m == [71, 69, 84])) ∧ Below w.heap.size w w' := by
 go_enter Tryz.func86, Tryz.ntmps86
 go_wp2;go_ret;exact ⟨rfl, Below.refl _ _⟩
theorem keep2_any (T : Nat) (st : Int) (w : World) (h : w.cell? ⟨T, 0, none⟩ = some (.int .i64 st)) :
  Calls Tryz.prog 87 #[.pointer (some ⟨T, 0, none⟩)] w fun e w' => e = .returned (.bool (ask2 st)) ∧ Below w.heap.size w w' := by
 have HA : Hid (ask2 st = (decide (200 ≤ st) && decide (st ≤ 599) && !(st == 206) && !(st == 304))) := rfl;generalize ask2 st = r at *
 cases h1 : decide (200 ≤ st) <;> cases h2 : decide (st ≤ 599)
 all_goals
  go_enter Tryz.func87, Tryz.ntmps87
  go_wp2
  all_goals go_ret
  all_goals exact ⟨ret_bool (by rw [HA.out, h1, h2];first | rfl | (simp [bne];done) | (simp [bne, *];done) | (simp_all [bne];done)), Below.refl _ _⟩
theorem keep3_any (A B : Nat) (x y z : Bool) (w : World) (h : w.cell? ⟨A, 0, none⟩ = some (.bool x)) (h1 : w.cell? ⟨B, 0, none⟩ = some (.bool y)) (h2 : w.cell? ⟨B, 4, none⟩ = some (.bool z)) :
  Calls Tryz.prog 88 #[.pointer (some ⟨A, 0, none⟩), .pointer (some ⟨B, 0, none⟩)] w fun e w' => e = .returned (.bool (!x && !y && !z)) ∧ Below w.heap.size w w' := by
 cases x <;> cases y <;> cases z
 all_goals
  go_enter Tryz.func88, Tryz.ntmps88
  go_wp2;go_ret;exact ⟨rfl, Below.refl _ _⟩
theorem keep4_any (R B : Nat) (c : Ctl) (lr : List F) (v : Value) (w : World) (h : w.cell? ⟨R, 4, none⟩ = some v) (hf : Fs w.heap.size w v lr) (hl : fsum lr ≤ 1099511627776) (hB : Blk w B 80 c.cells) :
  Calls Tryz.prog 89 #[.pointer (some ⟨R, 0, none⟩), .pointer (some ⟨B, 0, none⟩)] w fun e w' => e = .returned (.bool (ask4 lr c)) ∧ Below w.heap.size w w' := by
 have HA : Hid (ask4 lr c = (!hasN lr authT || c.mr || c.pu || decide (0 ≤ c.sm))) := rfl;have HC := Lib.hid (fun w h => frHas_any lr authT v w h hl (by decide));obtain ⟨p, cp, rfl, -⟩ := hf.form;obtain ⟨ns, nc, nt, pu, pr, mr, px, oi, ma, sm, mf, ms⟩ := c;simp only at HA;generalize ask4 lr ⟨ns, nc, nt, pu, pr, mr, px, oi, ma, sm, mf, ms⟩ = r at *;generalize hasN lr authT = hn at *;go_enter Tryz.func89, Tryz.ntmps89
 go_wp2_with fail;refine (HC.out w hf).mono ?_;rintro e w1 ⟨rfl, hb1⟩;have hB1 := hB.on hb1;have x5 := hB1.k5;have x3 := hB1.k3;have x9 := hB1.k9;clear h hB hB1 hf HC
 cases hn <;> cases mr <;> cases pu
 all_goals
  go_wp2;go_ret;exact ⟨ret_bool (by rw [HA.out];simp), hb1⟩
theorem keep5_any (L : Nat) (lf : List F) (v : Value) (w : World) (h : w.cell? ⟨L, 0, none⟩ = some v) (hf : Fs w.heap.size w v lf) (hl : fsum lf ≤ 1099511627776) :
  Calls Tryz.prog 90 #[.pointer (some ⟨L, 0, none⟩)] w fun e w' => e = .returned (.bool (ask5 lf)) ∧ Below w.heap.size w w' := by
 have HC := Lib.hid (fun w h => Names_any lf v w h hl);obtain ⟨p, cp, rfl, -⟩ := hf.form;have HA : Hid (ask5 lf = !starred (namesOf lf)) := rfl;generalize ask5 lf = r at *;go_enter Tryz.func90, Tryz.ntmps90
 go_wp2_with fail;refine (HC.out w hf).mono ?_;rintro e w1 ⟨vn, rfl, hvn, hb1⟩;generalize starred (namesOf lf) = st at *;go_wp2;go_ret;exact ⟨ret_bool HA.out.symm, hb1⟩
theorem keep6_any (C T L : Nat) (t : Bool) (st : Int) (lf : List F) (v : Value) (w : World) (hC : w.cell? ⟨C, 0, none⟩ = some (.bool t)) (hT : w.cell? ⟨T, 0, none⟩ = some (.int .i64 st)) (hL : One w L 26 v) (hf : Fs w.heap.size w v lf) (hl : fsum lf ≤ 1099511627776) :
  Calls Tryz.prog 91 #[.pointer (some ⟨C, 0, none⟩), .pointer (some ⟨T, 0, none⟩), .pointer (some ⟨L, 0, none⟩)] w fun e w' => e = .returned (.bool (ask6 t st lf)) ∧ Below w.heap.size w w' := by
 have HA : Hid (ask6 t st lf = (t || knownB st && (hasN lf etagT || hasN lf lastN))) := rfl;have HE := Lib.hid (fun w h => frHas_any lf etagT v w h hl (by decide));have HL := Lib.hid (fun w h => frHas_any lf lastN v w h hl (by decide));have HK := Lib.hid (fun w => known_any st w);obtain ⟨p, cp, rfl, -⟩ := hf.form;have hc : w.cell? ⟨L, 0, none⟩ = some (.slice p lf.length cp) := hL.cell;generalize ask6 t st lf = r at *;generalize hasN lf etagT = he at *;generalize hasN lf lastN = hm at *;generalize knownB st = kn at *
 cases t with
 | true =>
  go_enter Tryz.func91, Tryz.ntmps91
  go_wp2;go_ret;exact ⟨ret_bool (by rw [HA.out];rfl), Below.refl _ _⟩
 | false =>
 go_enter Tryz.func91, Tryz.ntmps91
 go_wp2_with fail;refine (HK.out w).mono ?_;rintro e w1 ⟨rfl, rfl⟩
 cases kn with
 | false =>
  go_wp2;go_ret;exact ⟨ret_bool (by rw [HA.out];rfl), Below.refl _ _⟩
 | true =>
 go_wp2_with fail;refine (HE.out _ hf).mono ?_;rintro e w2 ⟨rfl, hb2⟩
 cases he with
 | true =>
  go_wp2;go_ret;exact ⟨ret_bool (by rw [HA.out];rfl), hb2⟩
 | false =>
 have hf2 := (hf.below hb2).mono hb2.size;have hc2 : w2.cell? ⟨L, 0, none⟩ = some (.slice p lf.length cp) := (hL.below hb2 hL.lt).cell;clear hC hT hL hc hf;go_wp2_with fail;refine (HL.out _ hf2).mono ?_;rintro e w3 ⟨rfl, hb3⟩;go_wp2;go_ret;exact ⟨ret_bool (by rw [HA.out];cases hm <;> rfl), Bl.tr hb2 hb3⟩
open Go.RowKit Go.Dr
theorem req_box {wx : World} {w : Nat} {rm rs ra rp : Bytes} {vr vf : Value} (hQ : Blk wx w 28 #[S rm, S rs, S ra, S rp, vr]) (hE : Blk wx (w + 2) 26 #[vf]) :
  (wx.cell? ⟨w, 0, none⟩ = some (S rm) ∧ wx.cell? ⟨w, 1, none⟩ = some (S rs) ∧ wx.cell? ⟨w, 2, none⟩ = some (S ra) ∧ wx.cell? ⟨w, 3, none⟩ = some (S rp) ∧ wx.cell? ⟨w, 4, none⟩ = some (vr)) ∧ wx.cell? ⟨w + 2, 0, none⟩ = some vf :=
 ⟨hQ.c5, hE.cell 0⟩
abbrev Zb : Obj := .cells #[.bool false] 4
theorem Storable_any (r : Rq) (st : Int) (v : Value) (lr lf : List F) (w : World) (hr : Fs w.heap.size w r.v lr) (hf : Fs w.heap.size w v lf) (hl : fsum lr ≤ 1099511627776) (hl2 : fsum lf ≤ 1099511627776) :
  Calls Tryz.prog 49 #[r.val, .int .i64 st, v] w fun e w' => e = .returned (.bool (storF r.m st lr lf)) ∧ Below w.heap.size w w' := by
 obtain ⟨pr, cr, hrv, -⟩ := hr.form;obtain ⟨pf, cf, rfl, -⟩ := hf.form;obtain ⟨rm, rs, ra, rp, rv⟩ := r;simp only at hrv hr;subst hrv;simp only [Rq.val];have hmf : ∀ (fn : Fn) (first cap : Array Value) (w : World), (Instr.makeFunc fn first cap).run Tryz.prog w = .ok (.func fn first cap) w := fun _ _ _ _ => rfl
 have HR := Lib.hid (fun w h => Read_any lf (.slice pf lf.length cf) w h hl2);have HS := Lib.hid (fun w h => Read_any lr (.slice pr lr.length cr) w h hl);have HX := Lib.hid (fun w h => frHas_any lf expiresN (.slice pf lf.length cf) w h hl2 (by decide));have K3 : Hid ((!(readC lr).ns && !(readC lf).ns && !(readC lf).pr) = ask3 (readC lr) (readC lf)) := rfl;have K4 := Lib.hid (fun R B w h hf hB => keep4_any R B (readC lf) lr (.slice pr lr.length cr) w h hf hl hB);have K5 := Lib.hid (fun L w h hf => keep5_any L lf (.slice pf lf.length cf) w h hf hl2);have K6 := Lib.hid (fun C T L w hC hT hL hf => keep6_any C T L (toldB18 (readC lf) lf) st lf (.slice pf lf.length cf) w hC hT hL hf hl2);have K2 := Lib.hid (fun T w h => keep2_any T st w h);have HT : Hid (toldB18 (readC lf) lf = (decide (0 ≤ (readC lf).ma) || decide (0 ≤ (readC lf).sm) || (readC lf).pu || hasN lf expiresN)) := rfl;have HG : Hid (storF rm st lr lf = ((rm == [71, 69, 84]) && ask2 st && ask3 (readC lr) (readC lf) && ask4 lr (readC lf) && ask5 lf && ask6 (toldB18 (readC lf) lf) st lf)) := rfl;have K1 := Lib.hid (fun R w h => keep1_any R rm w h);generalize (rm == [71, 69, 84]) = r1 at *;generalize storF rm st lr lf = G at *;generalize ask6 (toldB18 (readC lf) lf) st lf = r6 at *;generalize toldB18 (readC lf) lf = told at *;generalize hasN lf expiresN = he at *;generalize ask5 lf = r5 at *;generalize ask4 lr (readC lf) = r4 at *;generalize ask3 (readC lr) (readC lf) = r3 at *;generalize ask2 st = r2 at *;generalize readC lr = a at *;generalize readC lf = b at *;obtain ⟨u1, eu1⟩ : ∃ u1 : World, u1 = w.alloc (.cells #[S rm, S rs, S ra, S rp, .slice pr lr.length cr] 28) := ⟨_, rfl⟩;have hu1 : u1.heap.size = w.heap.size + 1 := (by rw [eu1];simp);obtain ⟨u2, eu2⟩ : ∃ u2 : World, u2 = u1.alloc (.cells #[.int .i64 st] 3) := ⟨_, rfl⟩;have hu2 : u2.heap.size = w.heap.size + 2 := (by rw [eu2];simp [hu1]);obtain ⟨w0, ew⟩ : ∃ w0 : World, w0 = u2.alloc (.cells #[.slice pf lf.length cf] 26) := ⟨_, rfl⟩;have hQ0 : Blk w0 w.heap.size 28 #[S rm, S rs, S ra, S rp, .slice pr lr.length cr] := (by rw [ew, eu2, eu1];exact ((Blk.new _ _ _).alloc _).alloc _)
 have hT0 : Blk w0 (w.heap.size + 1) 3 #[.int .i64 st] := by
  rw [ew];have := Blk.new u1 3 #[.int .i64 st]
  rw [hu1, ← eu2] at this;exact this.alloc _
 have hE0 : Blk w0 (w.heap.size + 2) 26 #[.slice pf lf.length cf] := by
  rw [ew];have := Blk.new u2 26 #[.slice pf lf.length cf]
  rwa [hu2] at this
 have hb0 : Below w.heap.size w w0 := (by rw [ew];exact Below.alloc (by rw [eu2];exact Below.alloc (by rw [eu1];exact (Below.refl _ _).alloc (Nat.le_refl _) _) (by omega) _) (by omega) _);have hr0 := (hr.below hb0).mono hb0.size;have hf0 := (hf.below hb0).mono hb0.size;have hz0 := hE0.lt;rw [eu2, eu1] at ew;clear eu2 eu1 hu1 hu2 u2 u1;go_enter Tryz.func49, Tryz.ntmps49
 go_upto_region 1 with fail;rw [← ew];clear ew hr hf;obtain ⟨x0, x1, x2, x3, x4⟩ := hQ0.c5;have y0 : w0.cell? ⟨w.heap.size + 2, 0, none⟩ = some (.slice pf lf.length cf) := hE0.cell 0
 go_cut [7, 8] (fun s7 s8 wx => ∃ b7 b8 : Nat, s7 = .pointer (some ⟨b7, 0, none⟩) ∧ s8 = .pointer (some ⟨b8, 0, none⟩) ∧ Blk wx b7 80 a.cells ∧ Blk wx b8 80 b.cells ∧ Below w0.heap.size w0 wx)
 case first =>
  have hs0 : Fs (w0.drew).heap.size (w0.drew) (.slice pr lr.length cr) lr := (hr0.below (Below.refl w0.heap.size w0).drew).mono (by show w0.heap.size ≤ w0.heap.size;simp;try omega);have hs1 : Fs ((w0.alloc Zc).drew).heap.size ((w0.alloc Zc).drew) (.slice pr lr.length cr) lr := (hr0.below ((Below.refl w0.heap.size w0).alloc (by simp) Zc).drew).mono (by show w0.heap.size ≤ (w0.alloc Zc).heap.size;simp;try omega);have hs2 : Fs (((w0.alloc Zc).alloc Zc).drew).heap.size (((w0.alloc Zc).alloc Zc).drew) (.slice pr lr.length cr) lr := (hr0.below (((Below.refl w0.heap.size w0).alloc (by simp) Zc).alloc (by simp) Zc).drew).mono (by show w0.heap.size ≤ ((w0.alloc Zc).alloc Zc).heap.size;simp;try omega)
  go_region_held3 (fun w' => (w'.cell? ⟨w.heap.size, 0, none⟩ = some (S rm) ∧ w'.cell? ⟨w.heap.size, 1, none⟩ = some (S rs) ∧ w'.cell? ⟨w.heap.size, 2, none⟩ = some (S ra) ∧ w'.cell? ⟨w.heap.size, 3, none⟩ = some (S rp) ∧ w'.cell? ⟨w.heap.size, 4, none⟩ = some (.slice pr lr.length cr)) ∧ w'.cell? ⟨w.heap.size + 2, 0, none⟩ = some (.slice pf lf.length cf))
   (first | (with_reducible exact req_box (w := w.heap.size) hQ hE) | (have tk := hlt2;exact req_box (w := w.heap.size) (by repeat (first | (with_reducible exact hQ) | (with_reducible refine Blk.alloc ?_ _) | ((with_reducible refine Blk.other ?_ ?_ _);rotate_left;(dsimp only;omega)))) (by repeat (first | (with_reducible exact hE) | (with_reducible refine Blk.alloc ?_ _) | ((with_reducible refine Blk.other ?_ ?_ _);rotate_left;(dsimp only;omega))))) | (have tk := hlt1;with_reducible exact req_box (w := w.heap.size) (hQ.alloc _) (hE.alloc _)) | (have tk := hlt1;with_reducible exact req_box (w := w.heap.size) ((hQ.alloc _).alloc _) ((hE.alloc _).alloc _)) | go_keep)
   (first
    | (go_at_call 84;(with_reducible refine (HS.out w0.drew hs0).mono ?_);rintro e w1 ⟨rfl, hb1⟩;have hw1 : Below w0.heap.size w0 w1 := (Below.refl w0.heap.size w0).drew.trans (hb1.mono (by show w0.heap.size ≤ w0.heap.size;simp;try omega));have hf1 := (hf0.below hw1).mono hw1.size;have hlt1 : w0.heap.size + 0 ≤ w1.heap.size := (by have q : w0.heap.size ≤ w1.heap.size := hb1.size;(try simp at q);omega);have hq0 : Fs (w1).heap.size (w1) (.slice pf lf.length cf) lf := (hf1.below (Below.refl w1.heap.size w1)).mono (by simp;try omega);have hq1 : Fs ((w1.alloc Zc)).heap.size ((w1.alloc Zc)) (.slice pf lf.length cf) lf := (hf1.below ((Below.refl w1.heap.size w1).alloc (by simp) Zc)).mono (by simp;try omega);have hq2 : Fs (((w1.alloc Zc).alloc Zc)).heap.size (((w1.alloc Zc).alloc Zc)) (.slice pf lf.length cf) lf := (hf1.below (((Below.refl w1.heap.size w1).alloc (by simp) Zc).alloc (by simp) Zc)).mono (by simp;try omega);have tok0 := True.intro;have hQ := hQ0.on hw1;have hE := hE0.on hw1;have hzz := hw1.size)
    | (go_at_call 84;(with_reducible refine (HS.out (w0.alloc Zc).drew hs1).mono ?_);rintro e w1 ⟨rfl, hb1⟩;have hw1 : Below w0.heap.size w0 w1 := ((Below.refl w0.heap.size w0).alloc (by simp) Zc).drew.trans (hb1.mono (by show w0.heap.size ≤ (w0.alloc Zc).heap.size;simp;try omega));have hf1 := (hf0.below hw1).mono hw1.size;have hlt1 : w0.heap.size + 1 ≤ w1.heap.size := (by have q : (w0.alloc Zc).heap.size ≤ w1.heap.size := hb1.size;(try simp at q);omega);have hA1 : Blk w1 w0.heap.size 80 Zv := ((Blk.new w0 _ _).drew).on hb1;have hq0 : Fs (w1).heap.size (w1) (.slice pf lf.length cf) lf := (hf1.below (Below.refl w1.heap.size w1)).mono (by simp;try omega);have hq1 : Fs ((w1.alloc Zc)).heap.size ((w1.alloc Zc)) (.slice pf lf.length cf) lf := (hf1.below ((Below.refl w1.heap.size w1).alloc (by simp) Zc)).mono (by simp;try omega);have tok1 := True.intro;have hQ := hQ0.on hw1;have hE := hE0.on hw1;have hzz := hw1.size;obtain ⟨z0_0, z0_1, z0_2, z0_3, z0_4, z0_5, z0_6, z0_7, z0_8, z0_9, z0_10, z0_11⟩ := z12 hA1;have fz0 := hA1.free;have lz0 := hA1.lt)
    | (go_at_call 84;(with_reducible refine (HS.out ((w0.alloc Zc).alloc Zc).drew hs2).mono ?_);rintro e w1 ⟨rfl, hb1⟩;have hw1 : Below w0.heap.size w0 w1 := (((Below.refl w0.heap.size w0).alloc (by simp) Zc).alloc (by simp) Zc).drew.trans (hb1.mono (by show w0.heap.size ≤ ((w0.alloc Zc).alloc Zc).heap.size;simp;try omega));have hf1 := (hf0.below hw1).mono hw1.size;have hlt1 : w0.heap.size + 2 ≤ w1.heap.size := (by have q : ((w0.alloc Zc).alloc Zc).heap.size ≤ w1.heap.size := hb1.size;(try simp at q);omega);have hA1 : Blk w1 w0.heap.size 80 Zv := (((Blk.new w0 _ _).alloc _).drew).on hb1;have hB1 : Blk w1 (w0.heap.size + 1) 80 Zv := (show Blk ((w0.alloc Zc).alloc Zc).drew (w0.heap.size + 1) 80 Zv from (by have q := Blk.new (w0.alloc Zc) 80 Zv;rw [show (w0.alloc Zc).heap.size = w0.heap.size + 1 by simp] at q;exact q.drew)).on hb1;have hq0 : Fs (w1).heap.size (w1) (.slice pf lf.length cf) lf := (hf1.below (Below.refl w1.heap.size w1)).mono (by simp;try omega);have tok2 := True.intro;have hQ := hQ0.on hw1;have hE := hE0.on hw1;have hzz := hw1.size;obtain ⟨z0_0, z0_1, z0_2, z0_3, z0_4, z0_5, z0_6, z0_7, z0_8, z0_9, z0_10, z0_11⟩ := z12 hA1;have fz0 := hA1.free;have lz0 := hA1.lt;obtain ⟨z1_0, z1_1, z1_2, z1_3, z1_4, z1_5, z1_6, z1_7, z1_8, z1_9, z1_10, z1_11⟩ := z12 hB1;have fz1 := hB1.free;have lz1 := hB1.lt)
    | (go_at_call 84;have tk := tok0;(with_reducible refine (HR.out w1 hq0).mono ?_);rintro e w2 ⟨rfl, hb2⟩;have hw12 : Below w1.heap.size w1 w2 := (Below.refl w1.heap.size w1).trans (hb2.mono (by simp;try omega));have hw2 := Bl.tr hw1 hw12;have hlt2 : w1.heap.size + 0 ≤ w2.heap.size := (by have := hb2.size;(try simp at this);omega);have tik00 := True.intro;have hQ := hQ0.on hw2;have hE := hE0.on hw2;have hzz := hw2.size)
    | (go_at_call 84;have tk := tok0;(with_reducible refine (HR.out (w1.alloc Zc) hq1).mono ?_);rintro e w2 ⟨rfl, hb2⟩;have hw12 : Below w1.heap.size w1 w2 := ((Below.refl w1.heap.size w1).alloc (by simp) Zc).trans (hb2.mono (by simp;try omega));have hw2 := Bl.tr hw1 hw12;have hlt2 : w1.heap.size + 1 ≤ w2.heap.size := (by have := hb2.size;(try simp at this);omega);have hA2 : Blk w2 w1.heap.size 80 Zv := ((Blk.new w1 _ _)).on hb2;have tik01 := True.intro;have hQ := hQ0.on hw2;have hE := hE0.on hw2;have hzz := hw2.size;obtain ⟨z0_0, z0_1, z0_2, z0_3, z0_4, z0_5, z0_6, z0_7, z0_8, z0_9, z0_10, z0_11⟩ := z12 hA2;have fz0 := hA2.free;have lz0 := hA2.lt)
    | (go_at_call 84;have tk := tok0;(with_reducible refine (HR.out ((w1.alloc Zc).alloc Zc) hq2).mono ?_);rintro e w2 ⟨rfl, hb2⟩;have hw12 : Below w1.heap.size w1 w2 := (((Below.refl w1.heap.size w1).alloc (by simp) Zc).alloc (by simp) Zc).trans (hb2.mono (by simp;try omega));have hw2 := Bl.tr hw1 hw12;have hlt2 : w1.heap.size + 2 ≤ w2.heap.size := (by have := hb2.size;(try simp at this);omega);have hA2 : Blk w2 w1.heap.size 80 Zv := ((Blk.new w1 _ _).alloc _).on hb2;have hB2 : Blk w2 (w1.heap.size + 1) 80 Zv := (show Blk ((w1.alloc Zc).alloc Zc) (w1.heap.size + 1) 80 Zv from (by have q := Blk.new (w1.alloc Zc) 80 Zv;rwa [show (w1.alloc Zc).heap.size = w1.heap.size + 1 by simp] at q)).on hb2;have tik02 := True.intro;have hQ := hQ0.on hw2;have hE := hE0.on hw2;have hzz := hw2.size;obtain ⟨z0_0, z0_1, z0_2, z0_3, z0_4, z0_5, z0_6, z0_7, z0_8, z0_9, z0_10, z0_11⟩ := z12 hA2;have fz0 := hA2.free;have lz0 := hA2.lt;obtain ⟨z1_0, z1_1, z1_2, z1_3, z1_4, z1_5, z1_6, z1_7, z1_8, z1_9, z1_10, z1_11⟩ := z12 hB2;have fz1 := hB2.free;have lz1 := hB2.lt)
    | (go_at_call 84;have tk := tok1;(with_reducible refine (HR.out w1 hq0).mono ?_);rintro e w2 ⟨rfl, hb2⟩;have hw12 : Below w1.heap.size w1 w2 := (Below.refl w1.heap.size w1).trans (hb2.mono (by simp;try omega));have hw2 := Bl.tr hw1 hw12;have hlt2 : w1.heap.size + 0 ≤ w2.heap.size := (by have := hb2.size;(try simp at this);omega);have hA2 := hA1.on hw12;have tik10 := True.intro;have hQ := hQ0.on hw2;have hE := hE0.on hw2;have hzz := hw2.size;obtain ⟨z0_0, z0_1, z0_2, z0_3, z0_4, z0_5, z0_6, z0_7, z0_8, z0_9, z0_10, z0_11⟩ := z12 hA2;have fz0 := hA2.free;have lz0 := hA2.lt)
    | (go_at_call 84;have tk := tok1;(with_reducible refine (HR.out (w1.alloc Zc) hq1).mono ?_);rintro e w2 ⟨rfl, hb2⟩;have hw12 : Below w1.heap.size w1 w2 := ((Below.refl w1.heap.size w1).alloc (by simp) Zc).trans (hb2.mono (by simp;try omega));have hw2 := Bl.tr hw1 hw12;have hlt2 : w1.heap.size + 1 ≤ w2.heap.size := (by have := hb2.size;(try simp at this);omega);have hA2 := hA1.on hw12;have hB2 : Blk w2 w1.heap.size 80 Zv := ((Blk.new w1 _ _)).on hb2;have tik11 := True.intro;have hQ := hQ0.on hw2;have hE := hE0.on hw2;have hzz := hw2.size;obtain ⟨z0_0, z0_1, z0_2, z0_3, z0_4, z0_5, z0_6, z0_7, z0_8, z0_9, z0_10, z0_11⟩ := z12 hA2;have fz0 := hA2.free;have lz0 := hA2.lt;obtain ⟨z1_0, z1_1, z1_2, z1_3, z1_4, z1_5, z1_6, z1_7, z1_8, z1_9, z1_10, z1_11⟩ := z12 hB2;have fz1 := hB2.free;have lz1 := hB2.lt)
    | (go_at_call 84;have tk := tok2;(with_reducible refine (HR.out w1 hq0).mono ?_);rintro e w2 ⟨rfl, hb2⟩;have hw12 : Below w1.heap.size w1 w2 := (Below.refl w1.heap.size w1).trans (hb2.mono (by simp;try omega));have hw2 := Bl.tr hw1 hw12;have hlt2 : w1.heap.size + 0 ≤ w2.heap.size := (by have := hb2.size;(try simp at this);omega);have hA2 := hA1.on hw12;have hB2 := hB1.on hw12;have tik20 := True.intro;have hQ := hQ0.on hw2;have hE := hE0.on hw2;have hzz := hw2.size;obtain ⟨z0_0, z0_1, z0_2, z0_3, z0_4, z0_5, z0_6, z0_7, z0_8, z0_9, z0_10, z0_11⟩ := z12 hA2;have fz0 := hA2.free;have lz0 := hA2.lt;obtain ⟨z1_0, z1_1, z1_2, z1_3, z1_4, z1_5, z1_6, z1_7, z1_8, z1_9, z1_10, z1_11⟩ := z12 hB2;have fz1 := hB2.free;have lz1 := hB2.lt))
  all_goals
   go_wp2_with fail;go_meet
   refine ⟨_, _, rfl, rfl, ?_, ?_, ?_⟩
   ·unfold Ctl.cells;repeat (first | (with_reducible exact hA2) | (with_reducible exact hB2) | (with_reducible exact Blk.new _ _ _) | ((with_reducible refine Blk.new_at _ _ _ _ ?_);simp;done) | (with_reducible refine Blk.alloc ?_ _) | (with_reducible refine set12z ?_ _ _ _ _ _ _ _ _ _ _ _ _) | ((with_reducible refine Blk.other ?_ ?_ _);rotate_left;(dsimp only;omega)))
   ·unfold Ctl.cells;repeat (first | (with_reducible exact hA2) | (with_reducible exact hB2) | (with_reducible exact Blk.new _ _ _) | ((with_reducible refine Blk.new_at _ _ _ _ ?_);simp;done) | (with_reducible refine Blk.alloc ?_ _) | (with_reducible refine set12z ?_ _ _ _ _ _ _ _ _ _ _ _ _) | ((with_reducible refine Blk.other ?_ ?_ _);rotate_left;(dsimp only;omega)))
   ·repeat (first | (with_reducible exact hw2) | ((with_reducible refine Below.alloc ?_ ?_ _);rotate_left;(first | omega | (simp;done) | (simp;omega))) | ((with_reducible refine Below.setCell ?_ ?_ _);rotate_left;(dsimp only;omega)))
 case rest =>
  obtain ⟨b7, b8, rfl, rfl, hA, hB, hw1⟩ := hcut;obtain ⟨wq, rfl⟩ : ∃ wq : World, wq = wc := ⟨_, rfl⟩;have hwq := Bl.tr hb0 hw1;have hQc := hQ0.on hw1;have hTc := hT0.on hw1;have hEc := hE0.on hw1;have hrc := (hr0.below hw1).mono hw1.size;have hfc := (hf0.below hw1).mono hw1.size;clear x0 x1 x2 x3 x4 y0 hQ0 hT0 hE0 hr0 hf0 hw1 hb0 hz0 HS HR;obtain ⟨ans, anc, ant, apu, apr, amr, apx, aoi, ama, asm', amf, ams⟩ := a;obtain ⟨bns, bnc, bnt, bpu, bpr, bmr, bpx, boi, bma, bsm, bmf, bms⟩ := b;simp only at K3 HT;have z8 := hB.k8;have z9 := hB.k9;have z3 := hB.k3;have y0 : wq.cell? ⟨w.heap.size + 2, 0, none⟩ = some (.slice pf lf.length cf) := hEc.cell 0;go_upto_region 2 with fail
  go_cut [9] (fun s9 wx => ∃ b9 : Nat, s9 = .pointer (some ⟨b9, 0, none⟩) ∧ Blk wx b9 4 #[.bool told] ∧ Below wq.heap.size wq wx)
  case first =>
   by_cases h1 : 0 ≤ bma
   ·have HX1 : Hid (told = true) := by show _ = _;rw [HT.out];simp [h1]
    clear HT HX;go_wp2;go_meet
    refine ⟨_, rfl, ?_, ?_⟩
    ·rw [HX1.out];first | exact Blk.new _ _ _ | exact (Blk.new _ _ _).set 0 (.bool true)
    ·first | exact (Below.refl wq.heap.size wq).alloc (Nat.le_refl _) _ | exact ((Below.refl wq.heap.size wq).alloc (Nat.le_refl _) Zb).setCell (p := ⟨wq.heap.size, 0, none⟩) (Nat.le_refl _) _
   ·by_cases h2 : 0 ≤ bsm
    ·have HX1 : Hid (told = true) := by show _ = _;rw [HT.out];simp [h2]
     clear HT HX;go_wp2;go_meet
     refine ⟨_, rfl, ?_, ?_⟩
     ·rw [HX1.out];first | exact Blk.new _ _ _ | exact (Blk.new _ _ _).set 0 (.bool true)
     ·first | exact (Below.refl wq.heap.size wq).alloc (Nat.le_refl _) _ | exact ((Below.refl wq.heap.size wq).alloc (Nat.le_refl _) Zb).setCell (p := ⟨wq.heap.size, 0, none⟩) (Nat.le_refl _) _
    ·cases bpu with
     | true =>
      have HX1 : Hid (told = true) := (by show _ = _;rw [HT.out];simp);clear HT HX;go_wp2;go_meet
      refine ⟨_, rfl, ?_, ?_⟩
      ·rw [HX1.out];first | exact Blk.new _ _ _ | exact (Blk.new _ _ _).set 0 (.bool true)
      ·first | exact (Below.refl wq.heap.size wq).alloc (Nat.le_refl _) _ | exact ((Below.refl wq.heap.size wq).alloc (Nat.le_refl _) Zb).setCell (p := ⟨wq.heap.size, 0, none⟩) (Nat.le_refl _) _
     | false =>
      have HX1 : Hid (told = he) := (by show _ = _;rw [HT.out];simp [h1, h2]);clear HT;go_wp2_with fail;refine (HX.out wq hfc).mono ?_;rintro e w3 ⟨rfl, hb3⟩;go_wp2;go_meet
      refine ⟨_, rfl, ?_, ?_⟩
      ·rw [HX1.out];first | exact Blk.new _ _ _ | exact (Blk.new _ _ _).set 0 (.bool he)
      ·first | exact hb3.alloc hb3.size _ | exact (hb3.alloc hb3.size Zb).setCell (p := ⟨w3.heap.size, 0, none⟩) hb3.size _
  case rest =>
   obtain ⟨b9, rfl, hC, hwd⟩ := hcut;have hwE := Bl.tr hwq hwd;have hQ := hQc.on hwd;have hT := hTc.on hwd;have hE := hEc.on hwd;have hA2 := hA.on hwd;have hB2 := hB.on hwd;have hr := (hrc.below hwd).mono hwd.size;have hf := (hfc.below hwd).mono hwd.size;clear hwq hQc hTc hEc hA hB hrc hfc hwd HX HT z8 z9 z3 y0;obtain ⟨wl, ewl⟩ : ∃ wl : World, wl = wc.alloc (.cells #[(.func (.func 86) #[] #[.pointer (some ⟨w.heap.size, 0, none⟩)]), (.func (.func 87) #[] #[.pointer (some ⟨w.heap.size + 1, 0, none⟩)]), (.func (.func 88) #[] #[.pointer (some ⟨b7, 0, none⟩), .pointer (some ⟨b8, 0, none⟩)]), (.func (.func 89) #[] #[.pointer (some ⟨w.heap.size, 0, none⟩), .pointer (some ⟨b8, 0, none⟩)]), (.func (.func 90) #[] #[.pointer (some ⟨w.heap.size + 2, 0, none⟩)]), (.func (.func 91) #[] #[.pointer (some ⟨b9, 0, none⟩), .pointer (some ⟨w.heap.size + 1, 0, none⟩), .pointer (some ⟨w.heap.size + 2, 0, none⟩)])] 24) := ⟨_, rfl⟩;have hRow : Blk wl wc.heap.size 24 #[(.func (.func 86) #[] #[.pointer (some ⟨w.heap.size, 0, none⟩)]), (.func (.func 87) #[] #[.pointer (some ⟨w.heap.size + 1, 0, none⟩)]), (.func (.func 88) #[] #[.pointer (some ⟨b7, 0, none⟩), .pointer (some ⟨b8, 0, none⟩)]), (.func (.func 89) #[] #[.pointer (some ⟨w.heap.size, 0, none⟩), .pointer (some ⟨b8, 0, none⟩)]), (.func (.func 90) #[] #[.pointer (some ⟨w.heap.size + 2, 0, none⟩)]), (.func (.func 91) #[] #[.pointer (some ⟨b9, 0, none⟩), .pointer (some ⟨w.heap.size + 1, 0, none⟩), .pointer (some ⟨w.heap.size + 2, 0, none⟩)])] := (by rw [ewl];exact Blk.new _ _ _);have hbl : Below wc.heap.size wc wl := (by rw [ewl];exact (Below.refl _ _).alloc (Nat.le_refl _) _);have hwl := Bl.tr hwE hbl;have hQl := hQ.on hbl;have hTl := hT.on hbl;have hEl := hE.on hbl;have hAl := hA2.on hbl;have hBl := hB2.on hbl;have hCl := hC.on hbl;have hrl := (hr.below hbl).mono hbl.size;have hfl := (hf.below hbl).mono hbl.size;clear hwE hQ hT hE hA2 hB2 hC hr hf hbl;go_upto_region 4 with fail;rw [← ewl];clear ewl hmf;go_wp2
   go_loopw [43] (fun i wr => ∃ k : Nat, i = .int .i64 k ∧ k ≤ 6 ∧ Hid ((1 ≤ k → r1 = true) ∧ (2 ≤ k → r2 = true) ∧ (3 ≤ k → r3 = true) ∧ (4 ≤ k → r4 = true) ∧ (5 ≤ k → r5 = true) ∧ (6 ≤ k → r6 = true)) ∧ Below wl.heap.size wl wr) (fun i _ => 6 - (intOf i).toNat)
   case atStart => exact ⟨0, rfl, by omega, Lib.hid ⟨fun h => by omega, fun h => by omega, fun h => by omega, fun h => by omega, fun h => by omega, fun h => by omega⟩, Below.refl _ _⟩
   case round =>
    obtain ⟨k, rfl, hk, HK, hbel⟩ := hrel;obtain ⟨wo, rfl⟩ : ∃ wo : World, wo = wr := ⟨_, rfl⟩;have hwo := Bl.tr hwl hbel;have hRr := hRow.on hbel;have hQr := hQl.on hbel;have hTr := hTl.on hbel;have hEr := hEl.on hbel;have hAr := hAl.on hbel;have hBr := hBl.on hbel;have hCr := hCl.on hbel;have hrr := (hrl.below hbel).mono hbel.size;have hfr := (hfl.below hbel).mono hbel.size;obtain hk | rfl : k ≤ 5 ∨ k = 6 := by omega
    ·obtain rfl | rfl | rfl | rfl | rfl | rfl : k = 0 ∨ k = 1 ∨ k = 2 ∨ k = 3 ∨ k = 4 ∨ k = 5 := by omega
     ·have cF : wo.cell? ⟨wc.heap.size, 0, none⟩ = some (.func (.func 86) #[] #[.pointer (some ⟨w.heap.size, 0, none⟩)]) := hRr.cell 0
      have KK := Lib.hid HK.out;go_wp2_with fail;refine (K1.out w.heap.size wo (hQr.cell 0)).mono ?_;rintro e w5 ⟨rfl, hb5⟩
      cases r1 with
      | false =>
       go_wp2;go_ret;exact ⟨ret_bool (by rw [HG.out];simp), Bl.tr hwo hb5⟩
      | true =>
       go_wp2
       go_roundw
       case rel => exact ⟨1, by go_num, by omega, Lib.hid ⟨fun _ => by trivial, fun h => by omega, fun h => by omega, fun h => by omega, fun h => by omega, fun h => by omega⟩, Bl.tr hbel hb5⟩
       case measure => simp [intOf]
     ·have cF : wo.cell? ⟨wc.heap.size, 1, none⟩ = some (.func (.func 87) #[] #[.pointer (some ⟨w.heap.size + 1, 0, none⟩)]) := hRr.cell 1
      have KK := Lib.hid HK.out;go_wp2_with fail;refine (K2.out (w.heap.size + 1) wo (hTr.cell 0)).mono ?_;rintro e w5 ⟨rfl, hb5⟩
      cases r2 with
      | false =>
       go_wp2;go_ret;exact ⟨ret_bool (by rw [HG.out];simp), Bl.tr hwo hb5⟩
      | true =>
       go_wp2
       go_roundw
       case rel => exact ⟨2, by go_num, by omega, Lib.hid ⟨fun _ => KK.out.1 (by omega), fun _ => by trivial, fun h => by omega, fun h => by omega, fun h => by omega, fun h => by omega⟩, Bl.tr hbel hb5⟩
       case measure => simp [intOf]
     ·have cF : wo.cell? ⟨wc.heap.size, 2, none⟩ = some (.func (.func 88) #[] #[.pointer (some ⟨b7, 0, none⟩), .pointer (some ⟨b8, 0, none⟩)]) := hRr.cell 2
      have K3' := keep3_any b7 b8 ans bns bpr wo (hAr.cell 0) (hBr.cell 0) (hBr.cell 4)
      rw [K3.out] at K3';have KK := Lib.hid HK.out;go_wp2_with fail;refine (K3').mono ?_;rintro e w5 ⟨rfl, hb5⟩
      cases r3 with
      | false =>
       go_wp2;go_ret;exact ⟨ret_bool (by rw [HG.out];simp), Bl.tr hwo hb5⟩
      | true =>
       go_wp2
       go_roundw
       case rel => exact ⟨3, by go_num, by omega, Lib.hid ⟨fun _ => KK.out.1 (by omega), fun _ => KK.out.2.1 (by omega), fun _ => by trivial, fun h => by omega, fun h => by omega, fun h => by omega⟩, Bl.tr hbel hb5⟩
       case measure => simp [intOf]
     ·have cF : wo.cell? ⟨wc.heap.size, 3, none⟩ = some (.func (.func 89) #[] #[.pointer (some ⟨w.heap.size, 0, none⟩), .pointer (some ⟨b8, 0, none⟩)]) := hRr.cell 3
      have KK := Lib.hid HK.out;go_wp2_with fail;refine (K4.out w.heap.size b8 wo (hQr.cell 4) hrr hBr).mono ?_;rintro e w5 ⟨rfl, hb5⟩
      cases r4 with
      | false =>
       go_wp2;go_ret;exact ⟨ret_bool (by rw [HG.out];simp), Bl.tr hwo hb5⟩
      | true =>
       go_wp2
       go_roundw
       case rel => exact ⟨4, by go_num, by omega, Lib.hid ⟨fun _ => KK.out.1 (by omega), fun _ => KK.out.2.1 (by omega), fun _ => KK.out.2.2.1 (by omega), fun _ => by trivial, fun h => by omega, fun h => by omega⟩, Bl.tr hbel hb5⟩
       case measure => simp [intOf]
     ·have cF : wo.cell? ⟨wc.heap.size, 4, none⟩ = some (.func (.func 90) #[] #[.pointer (some ⟨w.heap.size + 2, 0, none⟩)]) := hRr.cell 4
      have KK := Lib.hid HK.out;go_wp2_with fail;refine (K5.out (w.heap.size + 2) wo (hEr.cell 0) hfr).mono ?_;rintro e w5 ⟨rfl, hb5⟩
      cases r5 with
      | false =>
       go_wp2;go_ret;exact ⟨ret_bool (by rw [HG.out];simp), Bl.tr hwo hb5⟩
      | true =>
       go_wp2
       go_roundw
       case rel => exact ⟨5, by go_num, by omega, Lib.hid ⟨fun _ => KK.out.1 (by omega), fun _ => KK.out.2.1 (by omega), fun _ => KK.out.2.2.1 (by omega), fun _ => KK.out.2.2.2.1 (by omega), fun _ => by trivial, fun h => by omega⟩, Bl.tr hbel hb5⟩
       case measure => simp [intOf]
     ·have cF : wo.cell? ⟨wc.heap.size, 5, none⟩ = some (.func (.func 91) #[] #[.pointer (some ⟨b9, 0, none⟩), .pointer (some ⟨w.heap.size + 1, 0, none⟩), .pointer (some ⟨w.heap.size + 2, 0, none⟩)]) := hRr.cell 5
      have KK := Lib.hid HK.out;go_wp2_with fail;refine (K6.out b9 (w.heap.size + 1) (w.heap.size + 2) wo (hCr.cell 0) (hTr.cell 0) hEr hfr).mono ?_;rintro e w5 ⟨rfl, hb5⟩
      cases r6 with
      | false =>
       go_wp2;go_ret;exact ⟨ret_bool (by rw [HG.out];simp), Bl.tr hwo hb5⟩
      | true =>
       go_wp2
       go_roundw
       case rel => exact ⟨6, by go_num, by omega, Lib.hid ⟨fun _ => KK.out.1 (by omega), fun _ => KK.out.2.1 (by omega), fun _ => KK.out.2.2.1 (by omega), fun _ => KK.out.2.2.2.1 (by omega), fun _ => KK.out.2.2.2.2.1 (by omega), fun _ => by trivial⟩, Bl.tr hbel hb5⟩
       case measure => simp [intOf]
    ·obtain ⟨e1, e2, e3, e4, e5, e6⟩ := HK.out
     have HGt : Hid (G = true) := (by show _ = _;rw [HG.out, e1 (by omega), e2 (by omega), e3 (by omega), e4 (by omega), e5 (by omega), e6 (by omega)];rfl);clear e1 e2 e3 e4 e5 e6;go_wp2;go_ret;exact ⟨ret_bool HGt.out.symm, hwo⟩
end Go.Proofs.YtahapblgmehngaaGreatDoor
namespace Go.Dr
theorem and6 (r1 r2 r3 r4 r5 r6 : Bool) (h : (r1 && r2 && r3 && r5) = false) : (r1 && r2 && r3 && r4 && r5 && r6) = false := by
 revert h;cases r1 <;> cases r2 <;> cases r3 <;> cases r4 <;> cases r5 <;> cases r6 <;> simp
theorem and6t (r1 r2 r3 r4 r5 r6 : Bool) (h : (r1 && r2 && r3 && r5) = true) : (r1 && r2 && r3 && r4 && r5 && r6) = (r4 && r6) := by
 revert h;cases r1 <;> cases r2 <;> cases r3 <;> cases r4 <;> cases r5 <;> cases r6 <;> simp
end Go.Dr
namespace Go.Proofs.YtahapblgmehngaaGreatDoor
open Go.RowKit Go.Dr
theorem refStorable_any (r : Rq) (st : Int) (v : Value) (lr lf : List F) (w : World) (hr : Fs w.heap.size w r.v lr) (hf : Fs w.heap.size w v lf) (hl : fsum lr ≤ 1099511627776) (hl2 : fsum lf ≤ 1099511627776) :
  Calls Tryz.prog 61 #[r.val, .int .i64 st, v] w fun e w' => e = .returned (.bool (storF r.m st lr lf)) ∧ Below w.heap.size w w' := by
 obtain ⟨pr, cr, hrv, -⟩ := hr.form;obtain ⟨pf, cf, rfl, -⟩ := hf.form;obtain ⟨rm, rs, ra, rp, rv⟩ := r;simp only at hrv hr;subst hrv;simp only [Rq.val];have HR := Lib.hid (fun w h => refRead_any lf (.slice pf lf.length cf) w h hl2);have HS := Lib.hid (fun w h => refRead_any lr (.slice pr lr.length cr) w h hl);have HN := Lib.hid (fun w h => refNames_any lf (.slice pf lf.length cf) w h hl2);have HXa := Lib.hid (fun w h => refHas_any lr authT (.slice pr lr.length cr) w h hl (by decide));have HXe := Lib.hid (fun w h => refHas_any lf expiresN (.slice pf lf.length cf) w h hl2 (by decide));have HXt := Lib.hid (fun w h => refHas_any lf etagT (.slice pf lf.length cf) w h hl2 (by decide));have HXl := Lib.hid (fun w h => refHas_any lf lastN (.slice pf lf.length cf) w h hl2 (by decide));have HKn := Lib.hid (fun w => refKnown_any st w);have E3 : Hid (ask3 (readC lr) (readC lf) = (!(readC lr).ns && !(readC lf).ns && !(readC lf).pr)) := rfl;have E4 : Hid (ask4 lr (readC lf) = (!hasB lr authT || (readC lf).mr || (readC lf).pu || decide (0 ≤ (readC lf).sm))) := rfl;have E5 : Hid (ask5 lf = !starred (namesOf lf)) := rfl;have E6 : Hid (ask6 (toldB18 (readC lf) lf) st lf = (toldB18 (readC lf) lf || knownB st && (hasB lf etagT || hasB lf lastN))) := rfl;have E2 : Hid (ask2 st = (decide (200 ≤ st) && decide (st ≤ 599) && !(st == 206) && !(st == 304))) := rfl;have ET : Hid (toldB18 (readC lf) lf = (decide (0 ≤ (readC lf).ma) || decide (0 ≤ (readC lf).sm) || (readC lf).pu || hasB lf expiresN)) := rfl;have HG : Hid (storF rm st lr lf = ((rm == [71, 69, 84]) && ask2 st && ask3 (readC lr) (readC lf) && ask4 lr (readC lf) && ask5 lf && ask6 (toldB18 (readC lf) lf) st lf)) := rfl;have E1 : ∃ r1 : Bool, Hid (r1 = (rm == [71, 69, 84])) := ⟨_, rfl⟩;obtain ⟨r1, E1⟩ := E1;rw [← E1.out] at HG;generalize storF rm st lr lf = G at *;generalize ask6 (toldB18 (readC lf) lf) st lf = r6 at *;generalize toldB18 (readC lf) lf = told at *;generalize ask5 lf = r5 at *;generalize ask4 lr (readC lf) = r4 at *;generalize ask3 (readC lr) (readC lf) = r3 at *;generalize ask2 st = r2 at *;generalize readC lr = a at *;generalize readC lf = b at *;generalize hasB lr authT = ha at *;generalize hasB lf expiresN = he at *;generalize hasB lf etagT = ht at *;generalize hasB lf lastN = hla at *;generalize knownB st = kn at *;obtain ⟨w0, ew⟩ : ∃ w0 : World, w0 = w.alloc (.cells #[S rm, S rs, S ra, S rp, .slice pr lr.length cr] 28) := ⟨_, rfl⟩;have hQ0 : Blk w0 w.heap.size 28 #[S rm, S rs, S ra, S rp, .slice pr lr.length cr] := (by rw [ew];exact Blk.new _ _ _);have hb0 : Below w.heap.size w w0 := (by rw [ew];exact (Below.refl _ _).alloc (Nat.le_refl _) _);have hr0 := (hr.below hb0).mono hb0.size;have hf0 := (hf.below hb0).mono hb0.size;go_enter Tryz.func61, Tryz.ntmps61
 go_wp2_with fail;rw [← ew];clear ew hr hf;refine (HS.out w0 hr0).mono ?_;rintro e w1 ⟨rfl, hb1⟩;have hal1 : Below w1.heap.size w1 (w1.alloc (.cells a.cells 80)) := (Below.refl _ _).alloc (Nat.le_refl _) _;have hA2 := Blk.new w1 80 a.cells;have hQ2 := (hQ0.on hb1).on hal1;have hr2 := (((hr0.below hb1).mono hb1.size).below hal1).mono hal1.size;have hf2 := (((hf0.below hb1).mono hb1.size).below hal1).mono hal1.size;have hw2 := Bl.tr (Bl.tr hb0 hb1) hal1;clear hQ0 hr0 hf0 hb0 hb1 HS;go_wp2_with fail
 change Calls _ _ _ (w1.alloc (.cells a.cells 80)) _
 clear hal1;generalize w1.alloc (.cells a.cells 80) = w2 at *;generalize w1.heap.size = b7 at *;refine (HR.out w2 hf2).mono ?_;rintro e w3 ⟨rfl, hb3⟩;have hal3 : Below w3.heap.size w3 (w3.alloc (.cells b.cells 80)) := (Below.refl _ _).alloc (Nat.le_refl _) _;have hB4 := Blk.new w3 80 b.cells;have hA4 := (hA2.on hb3).on hal3;have hQ4 := (hQ2.on hb3).on hal3;have hr4 := (((hr2.below hb3).mono hb3.size).below hal3).mono hal3.size;have hf4 := (((hf2.below hb3).mono hb3.size).below hal3).mono hal3.size;have hw4 := Bl.tr (Bl.tr hw2 hb3) hal3;clear hA2 hQ2 hr2 hf2 hw2 hb3 HR;go_wp2_with fail
 change Calls _ _ _ (w3.alloc (.cells b.cells 80)) _
 clear hal3;generalize w3.alloc (.cells b.cells 80) = w4 at *;generalize w3.heap.size = b8 at *;refine (HN.out w4 hf4).mono ?_;rintro e w5 ⟨vn, rfl, hvn, hb5⟩;have hA5 := hA4.on hb5;have hB5 := hB4.on hb5;have hQ5 := hQ4.on hb5;have hr5 := (hr4.below hb5).mono hb5.size;have hf5 := (hf4.below hb5).mono hb5.size;have hw5 := Bl.tr hw4 hb5;clear hA4 hB4 hQ4 hr4 hf4 hw4 hb5 hvn HN;generalize starred (namesOf lf) = nb at *;obtain ⟨ans, anc, ant, apu, apr, amr, apx, aoi, ama, asm', amf, ams⟩ := a;obtain ⟨bns, bnc, bnt, bpu, bpr, bmr, bpx, boi, bma, bsm, bmf, bms⟩ := b;simp only at E3 E4 ET;have x0 := hA5.k0;have z0 := hB5.k0;have z4 := hB5.k4;have q0 : w5.cell? ⟨w.heap.size, 0, none⟩ = some (S rm) := hQ5.cell 0;go_upto_region 4 with fail
 go_cut [54] (fun s wx => s = .bool (!(r1 && r2 && r3 && r5)) ∧ w5 = wx)
 case first =>
  cases h1 : (rm == [71, 69, 84]) with
  | false => (go_wp2;go_meet;exact ⟨congrArg Value.bool (by rw [E1.out, E2.out, E3.out, E5.out];simp [*]), rfl⟩)
  | true =>
  by_cases c1 : (200 : Int) ≤ st
  ·have g1 : decide (st < 200) = false := by rw [decide_eq_false_iff_not];omega
   by_cases c2 : st ≤ 599
   ·have g2 : decide ((599 : Int) < st) = false := by rw [decide_eq_false_iff_not];omega
    cases c3 : (st == 206) with
    | true => (go_wp2;go_meet;exact ⟨congrArg Value.bool (by rw [E1.out, E2.out, E3.out, E5.out];simp [*]), rfl⟩)
    | false =>
    cases c4 : (st == 304) with
    | true => (go_wp2;go_meet;exact ⟨congrArg Value.bool (by rw [E1.out, E2.out, E3.out, E5.out];simp [*]), rfl⟩)
    | false =>
    cases ans with
    | true => (go_wp2;go_meet;exact ⟨congrArg Value.bool (by rw [E1.out, E2.out, E3.out, E5.out];simp [*]), rfl⟩)
    | false =>
    cases bns with
    | true => (go_wp2;go_meet;exact ⟨congrArg Value.bool (by rw [E1.out, E2.out, E3.out, E5.out];simp [*]), rfl⟩)
    | false =>
    cases bpr with
    | true => (go_wp2;go_meet;exact ⟨congrArg Value.bool (by rw [E1.out, E2.out, E3.out, E5.out];simp [*]), rfl⟩)
    | false => (go_wp2;go_meet;exact ⟨congrArg Value.bool (by rw [E1.out, E2.out, E3.out, E5.out];simp [*]), rfl⟩)
   ·have g2 : decide ((599 : Int) < st) = true := by rw [decide_eq_true_iff];omega
    (go_wp2;go_meet;exact ⟨congrArg Value.bool (by rw [E1.out, E2.out, E3.out, E5.out];simp [*]), rfl⟩)
  ·have g1 : decide (st < 200) = true := by rw [decide_eq_true_iff];omega
   (go_wp2;go_meet;exact ⟨congrArg Value.bool (by rw [E1.out, E2.out, E3.out, E5.out];simp [*]), rfl⟩)
 case rest =>
  obtain ⟨rfl, rfl⟩ := hcut;clear x0 z0 z4 q0
  cases hall : (r1 && r2 && r3 && r5) with
  | false =>
   have HF : Hid (G = false) := (by show _ = _;rw [HG.out];exact and6 _ _ _ _ _ _ hall);clear hall;go_wp2;go_ret;exact ⟨ret_bool HF.out.symm, hw5⟩
  | true =>
  have HF : Hid (G = (r4 && r6)) := (by show _ = _;rw [HG.out];exact and6t _ _ _ _ _ _ hall);clear hall HG E1 E2 E3 E5;have q4 : w5.cell? ⟨w.heap.size, 4, none⟩ = some (.slice pr lr.length cr) := hQ5.cell 4;go_upto_region 6 with fail
  go_cut [72] (fun s wx => s = .bool (!r4) ∧ Below w5.heap.size w5 wx)
  case first =>
   go_wp2_with fail;refine (HXa.out w5 hr5).mono ?_;rintro e w6 ⟨rfl, hb6⟩;have hB6 := hB5.on hb6;have z5 := hB6.k5;have z3 := hB6.k3;have z9 := hB6.k9;clear q4 hQ5 hA5 hB5 hr5 hf5 hB6;by_cases h9 : 0 ≤ bsm
   ·have g9 : decide (bsm < 0) = false := by rw [decide_eq_false_iff_not];omega
    cases ha <;> cases bmr <;> cases bpu
    all_goals (go_wp2;go_meet;exact ⟨congrArg Value.bool (by rw [E4.out];simp [h9]), hb6⟩)
   ·have g9 : decide (bsm < 0) = true := by rw [decide_eq_true_iff];omega
    cases ha <;> cases bmr <;> cases bpu
    all_goals (go_wp2;go_meet;exact ⟨congrArg Value.bool (by rw [E4.out];simp [h9]), hb6⟩)
  case rest =>
   obtain ⟨rfl, hb6⟩ := hcut;obtain ⟨w6, rfl⟩ : ∃ w6 : World, w6 = wc := ⟨_, rfl⟩;have hw6 := Bl.tr hw5 hb6;have hB6 := hB5.on hb6;have hf6 := (hf5.below hb6).mono hb6.size;clear q4 hQ5 hA5 hB5 hr5 hf5 hw5 hb6 HXa E4
   cases r4 with
   | false =>
    go_wp2;go_ret;exact ⟨ret_bool (by rw [HF.out];rfl), hw6⟩
   | true =>
   have z8 := hB6.k8;have z3 := hB6.k3;have z9 := hB6.k9;go_upto_region 8 with fail
   go_cut [88] (fun s wx => s = .bool told ∧ Below w6.heap.size w6 wx)
   case first =>
    by_cases h8 : 0 ≤ bma
    ·(go_wp2;go_meet;exact ⟨congrArg Value.bool (by rw [ET.out];simp [*]), Below.refl _ _⟩)
    ·by_cases h9 : 0 ≤ bsm
     ·(go_wp2;go_meet;exact ⟨congrArg Value.bool (by rw [ET.out];simp [*]), Below.refl _ _⟩)
     ·cases bpu with
      | true => (go_wp2;go_meet;exact ⟨congrArg Value.bool (by rw [ET.out];simp [*]), Below.refl _ _⟩)
      | false =>
       have HE8 : Hid (told = he) := (by show _ = _;rw [ET.out];simp [h8, h9]);go_wp2_with fail;refine (HXe.out w6 hf6).mono ?_;rintro e w7 ⟨rfl, hb7⟩;go_wp2;go_meet
       exact ⟨congrArg Value.bool HE8.out.symm, hb7⟩
   case rest =>
    obtain ⟨rfl, hb7⟩ := hcut;obtain ⟨w7, rfl⟩ : ∃ w7 : World, w7 = wc := ⟨_, rfl⟩;have hw7 := Bl.tr hw6 hb7;have hf7 := (hf6.below hb7).mono hb7.size;clear z8 z3 z9 hB6 hf6 hw6 hb7 HXe ET
    cases told with
    | true =>
     go_wp2;go_ret;exact ⟨ret_bool (by rw [HF.out, E6.out];rfl), hw7⟩
    | false =>
    go_wp2_with fail;refine (HKn.out w7).mono ?_;rintro e w8 ⟨rfl, hb8⟩;have hw8 := Bl.tr hw7 hb8;have hf8 := (hf7.below hb8).mono hb8.size
    cases kn with
    | false =>
     go_wp2;go_ret;exact ⟨ret_bool (by rw [HF.out, E6.out];rfl), hw8⟩
    | true =>
    go_wp2_with fail;refine (HXt.out w8 hf8).mono ?_;rintro e w9 ⟨rfl, hb9⟩;have hw9 := Bl.tr hw8 hb9;have hf9 := (hf8.below hb9).mono hb9.size
    cases ht with
    | true =>
     go_wp2;go_ret;exact ⟨ret_bool (by rw [HF.out, E6.out];rfl), hw9⟩
    | false =>
    go_wp2_with fail;refine (HXl.out w9 hf9).mono ?_;rintro e w10 ⟨rfl, hb10⟩;go_wp2;go_ret;exact ⟨ret_bool (by rw [HF.out, E6.out];cases hla <;> rfl), Bl.tr hw9 hb10⟩
end Go.Proofs.YtahapblgmehngaaGreatDoor
