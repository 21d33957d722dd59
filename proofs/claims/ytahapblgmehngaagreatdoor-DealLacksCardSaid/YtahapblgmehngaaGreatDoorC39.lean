/- Parts of the proof of DealLacks_holds: the texts Var4 Stor1. -/
import Derived.Deep.RegionHeld3
import Derived.Test.YtahapblgmehngaaGreatDoorC37
import Derived.Test.YtahapblgmehngaaGreatDoorC16
set_option linter.unusedSimpArgs false
set_option linter.unusedVariables false
set_option linter.unnecessarySimpa false
namespace Go.Proofs.YtahapblgmehngaaGreatDoor
open Go.RowKit Go.Dr

def varyT : Bytes := [118, 97, 114, 121]
def namesOf (l : List F) : List Bytes := allOf l varyT
def starred (vs : List Bytes) : Bool := vs.any fun s => s == [42]
def namesR (vs : List Bytes) : List Bytes := if starred vs then [] else rising (vs.map low)

/-- What a call answers that gives names, or that there are none. -/
def RetN (ts : TypeId) (w : World) (vs : List Bytes) (e : Ending) (w' : World) : Prop := ∃ v, e = .returned (.tuple #[v, .bool (starred vs)]) ∧ w'.ownsRow w.heap.size ts 1 v (namesR vs).length ((namesR vs).map S) ∧ Below w.heap.size w w'

theorem starred_at {vs : List Bytes} {k : Nat} (h : k < vs.length) (e : vs[k] = [42]) : starred vs = true := by
  rw [starred, List.any_eq_true]
  exact ⟨vs[k], List.getElem_mem h, by simp [e]⟩
theorem not_starred {vs : List Bytes} (h : ∀ j (h : j < vs.length), vs[j] ≠ [42]) : starred vs = false := by
  rw [starred, List.any_eq_false]
  intro x hx
  obtain ⟨k, hk, rfl⟩ := List.mem_iff_getElem.1 hx
  simpa using h k hk
def NoStar (vs : List Bytes) (k : Nat) : Prop := ∀ j (h : j < vs.length), j < k → vs[j] ≠ [42]
theorem NoStar.zero (vs : List Bytes) : NoStar vs 0 := fun _ _ h => by omega
theorem NoStar.succ {vs : List Bytes} {k : Nat} (h : NoStar vs k) (hk : k < vs.length) (e : vs[k] ≠ [42]) : NoStar vs (k + 1) := fun j hj hlt => by
  by_cases e2 : j = k
  · subst e2; exact e
  · exact h j hj (by omega)
theorem NoStar.all {vs : List Bytes} (h : NoStar vs vs.length) : starred vs = false := not_starred fun j hj => h j hj hj

set_option maxRecDepth 100000 in
set_option maxHeartbeats 2000000 in
theorem Names_any (l : List F) (v : Value) (w : World) (h : Fs w.heap.size w v l) (hl : fsum l ≤ 1099511627776) :
    Calls Tryz.prog 50 #[v] w (RetN 9 w (namesOf l)) := by
  have HS := ssum_all l varyT
  have HY : Hid (namesOf l = allOf l varyT) := rfl
  go_enter Tryz.func50, Tryz.ntmps50
  go_wp2_with fail
  refine (All_any l varyT v w h hl (by decide)).mono ?_
  rintro e w1 ⟨vv, rfl, hvv, hb1⟩
  have hr : Ss w1.heap.size w1 vv (allOf l varyT) := Ss.own hvv
  generalize allOf l varyT = vs at *
  clear hvv h
  have hsl := ssum_length vs
  obtain ⟨pa, ca, rfl, hm⟩ := hr.form
  go_wp2
  go_loopw [4, 10] (fun v' i wr => ∃ k : Nat, i = .int .i64 k ∧ k ≤ vs.length ∧ NoStar vs k ∧ wr.ownsRow w1.heap.size 9 1 v' ((vs.take k).map low).length (((vs.take k).map low).map S) ∧ Below w1.heap.size w1 wr) (fun _ i _ => vs.length - (intOf i).toNat)
  case atStart => exact ⟨0, rfl, Nat.zero_le _, NoStar.zero _, World.ownsRow_nil _ _ _ _, Below.refl _ _⟩
  case round =>
    obtain ⟨k, rfl, hk, HN, hown, hbel⟩ := hrel
    by_cases hlt : k < vs.length
    · obtain ⟨b, off, rfl, hbb, c0⟩ := (hr.below hbel).at k hlt
      have hf := ssum_mem (List.getElem_mem hlt)
      by_cases hs : vs[k] = [42]
      · have HT := Lib.hid (starred_at hlt hs)
        have g : (vs[k] == [42]) = true := by simp [hs]
        clear hs
        go_wp2
        go_ret2
        rw [HY.out]
        exact ⟨.slice none 0 0, by rw [HT.out]; rfl, by rw [namesR, HT.out, if_pos rfl]; exact World.ownsRow_nil _ _ _ _, Bl.tr hb1 hbel⟩
      · have g : (vs[k] == [42]) = false := by simp [hs]
        have HN' := Lib.hid (HN.succ hlt hs)
        have HV := Lib.hid (map_low_snoc' vs k hlt)
        have hvl : ((vs.take k).map low).length ≤ k := by simp; omega
        clear hs
        generalize (vs.take k).map low = out at *
        go_wp2_with (first | (at_builtin; refine wpList_app1 rfl _ _ 44 rfl w1.heap.size (.string ByteArray.empty) 16 Tryz.underlying44 (by kernel_rfl) rfl rfl _ _ _ rfl (own_below hown hb2) rfl (by omega) (by decide) (by have := hbel.size; have := hb2.size; omega) ?_; intro a' c' w3 hown3 hb3 hz3) | (go_at_call 93; refine (Lower_any _ _ (by unfold maxLen; omega)).mono ?_; rintro e w2 ⟨rfl, hb2⟩))
        go_roundw
        case rel => exact ⟨k + 1, by go_num, by omega, HN'.out, by rw [HV.out]; simpa using hown3, (hbel.trans (hb2.mono hbel.size)).trans hb3⟩
        case measure => simp [intOf]; omega
    · have hk' : k = vs.length := by omega
      subst hk'
      rw [List.take_length] at hown
      have HT := Lib.hid HN.all
      go_wp2_with fail
      refine (rising_any (vs.map low) w1.heap.size _ wr hown hbel.size (by rw [List.length_map]; omega)).mono ?_
      rintro e w2 ⟨v2, rfl, ho2, hb2⟩
      go_wp2
      go_ret2
      rw [HY.out]
      exact ⟨v2, by rw [HT.out]; rfl, by rw [namesR, HT.out, if_neg (by simp)]; exact own_base ho2 hb1.size, Bl.tr hb1 (hbel.trans hb2)⟩

set_option maxRecDepth 100000 in
set_option maxHeartbeats 4000000 in
theorem refNames_any (l : List F) (v : Value) (w : World) (h : Fs w.heap.size w v l) (hl : fsum l ≤ 1099511627776) :
    Calls Tryz.prog 16 #[v] w (RetN 9 w (namesOf l)) := by
  have HS := ssum_all l varyT
  have HY : Hid (namesOf l = allOf l varyT) := rfl
  go_enter Tryz.func16, Tryz.ntmps16
  go_wp2_with fail
  refine (refAll_any l varyT v w h hl (by decide)).mono ?_
  rintro e w1 ⟨vv, rfl, hvv, hb1⟩
  have hr : Ss w1.heap.size w1 vv (allOf l varyT) := Ss.own hvv
  generalize allOf l varyT = vs at *
  clear hvv h
  have hsl := ssum_length vs
  obtain ⟨pa, ca, rfl, hm⟩ := hr.form
  go_wp2
  go_loopw [5, 6] (fun v' i wr => ∃ k : Nat, i = .int .i64 k ∧ k ≤ vs.length ∧ NoStar vs k ∧ wr.ownsRow w1.heap.size 9 1 v' (putAll ((vs.take k).map low)).length ((putAll ((vs.take k).map low)).map S) ∧ Below w1.heap.size w1 wr) (fun _ i _ => vs.length - (intOf i).toNat)
  case atStart => exact ⟨0, rfl, Nat.zero_le _, NoStar.zero _, World.ownsRow_nil _ _ _ _, Below.refl _ _⟩
  case round =>
    obtain ⟨k, rfl, hk, HN, hown, hbel⟩ := hrel
    by_cases hlt : k < vs.length
    · obtain ⟨b, off, rfl, hbb, c0⟩ := (hr.below hbel).at k hlt
      have hf := ssum_mem (List.getElem_mem hlt)
      by_cases hs : vs[k] = [42]
      · have HT := Lib.hid (starred_at hlt hs)
        have g : (vs[k] == [42]) = true := by simp [hs]
        clear hs
        go_wp2
        go_ret2
        rw [HY.out]
        exact ⟨.slice none 0 0, by rw [HT.out]; rfl, by rw [namesR, HT.out, if_pos rfl]; exact World.ownsRow_nil _ _ _ _, Bl.tr hb1 hbel⟩
      · have g : (vs[k] == [42]) = false := by simp [hs]
        have HN' := Lib.hid (HN.succ hlt hs)
        have hvl : (putAll ((vs.take k).map low)).length ≤ k := by have := putAll_length ((vs.take k).map low); rw [List.length_map, List.length_take] at this; omega
        have HV := Lib.hid (putAll_low_snoc vs k hlt)
        clear hs
        generalize putAll ((vs.take k).map low) = out at *
        go_wp2_with fail
        refine (refLower_any _ _ (by omega)).mono ?_
        rintro e w2 ⟨rfl, hb2⟩
        have ho2 := own_below hown hb2
        have hw2 := hbel.trans (hb2.mono hbel.size)
        have hr2 : Ss w2.heap.size w2 _ out := Ss.own ho2
        generalize low vs[k] = s at *
        clear hown hb2 c0
        have hpl := placeOf_le s out
        have HB := Lib.hid (placeOf_below s out)
        have HA := Lib.hid (placeOf_at s out)
        obtain ⟨po, co, rfl, hmo⟩ := hr2.form
        go_wp2
        obtain ⟨wo, rfl⟩ : ∃ wo : World, wo = w2 := ⟨_, rfl⟩
        go_loopw [8] (fun i wr' => ∃ j : Nat, i = .int .i64 j ∧ j ≤ placeOf s out ∧ wr' = wo) (fun i _ => placeOf s out - (intOf i).toNat)
        case atStart => exact ⟨0, rfl, Nat.zero_le _, rfl⟩
        case round =>
          obtain ⟨j, rfl, hj, hwe⟩ := hrel
          obtain rfl : wo = wr := hwe.symm
          by_cases hjp : j < placeOf s out
          · obtain ⟨bo, oo, rfl, hbo, d0⟩ := hr2.at j (by omega)
            have g1 : Op.bytesLess out[j] s = true := by rw [bytesLess_eq]; simpa using HB.out j hjp (by omega)
            have g0 : decide ((j : Int) < (out.length : Int)) = true := by simp; omega
            go_wp2
            go_roundw
            case rel => exact ⟨j + 1, by go_num, by omega, trivial⟩
            case measure => simp [intOf]; omega
          · have hj' : j = placeOf s out := by omega
            clear hjp
            have hjl : j ≤ out.length := by omega
            have HP := Lib.hid (putIn.eq_1 out s)
            rw [← hj'] at HP
            have HJ := Lib.hid hj'
            clear hj' hj hpl
            have HD : Hid (out[j]? ≠ some s → putAll ((vs.take (k + 1)).map low) = out.take j ++ ([s] ++ out.drop j)) := fun h => by rw [HV.out, HP.out, if_neg h]; rfl
            have HE : Hid (out[j]? = some s → putAll ((vs.take (k + 1)).map low) = out) := fun h => by rw [HV.out, HP.out, if_pos h]
            clear HP HV
            by_cases hA : j < out.length ∧ out[j]? = some s
            · obtain ⟨hj1, hj2⟩ := hA
              have HV := Lib.hid (HE.out hj2)
              obtain ⟨bo, oo, rfl, hbo, d0⟩ := hr2.at j hj1
              have e : out[j] = s := by rw [List.getElem?_eq_getElem hj1] at hj2; exact Option.some.inj hj2
              have g1 : Op.bytesLess out[j] s = false := by rw [bytesLess_eq, e, decide_eq_false_iff_not]; exact b_lt_irrefl s
              have g2 : (out[j] == s) = true := by simp [e]
              have g0 : decide ((j : Int) < (out.length : Int)) = true := by simp; omega
              clear e hj2
              go_wp2
              go_roundw
              case rel => exact ⟨k + 1, by go_num, by omega, HN'.out, by rw [HV.out]; exact ho2, hw2⟩
              case measure => simp [intOf]; omega
            · have hne : out[j]? ≠ some s := fun h => hA ⟨(List.getElem?_eq_some_iff.1 h).1, h⟩
              have HV := Lib.hid (HD.out hne)
              have HNn := Lib.hid hne
              clear hA hne
              have hD : Rd wo.heap.size wo 1 (sliced po j out.length co 1) (out.length - j) ((out.drop j).map S) := by have := Rd.sliced hr2 hjl; rwa [Nat.mul_one, ← List.map_drop] at this
              have hT : Rd wo.heap.size wo 1 (.slice po j co) j ((out.take j).map S) := by have := Rd.upto hr2 hjl; rwa [Nat.mul_one, ← List.map_take] at this
              have hco : out.length ≤ co := by obtain ⟨_, cc, e1, e2, _⟩ := hr2; simp only [Value.slice.injEq] at e1; omega
              have hal1 : Below wo.heap.size wo (wo.alloc (.cells #[S s] 9)) := (Below.refl _ _).alloc (Nat.le_refl _) _
              have hw1s := hw2.size
              have hal1s : wo.heap.size + 1 ≤ wo.heap.size + 1 := Nat.le_refl _
              have hlo := hvl
              rcases (by rcases Nat.lt_or_ge j out.length with h1 | h1; exact .inl h1; exact .inr (by rw [decide_eq_false_iff_not]; omega) : j < out.length ∨ decide ((j : Int) < (out.length : Int)) = false) with hj1 | g0
              all_goals
                first
                | have hj0 := hj1
                  obtain ⟨bo, oo, rfl, hbo, d0⟩ := hr2.at j hj1
                  have g1 : Op.bytesLess out[j] s = false := by rw [bytesLess_eq, decide_eq_false_iff_not]; have := HA.out (by rw [← HJ.out]; exact hj1); simpa only [← HJ.out] using this
                  have g2 : (out[j] == s) = false := by rw [beq_eq_false_iff_ne]; exact fun e => HNn.out (by rw [List.getElem?_eq_getElem hj1, e])
                  have g0 : decide ((j : Int) < (out.length : Int)) = true := by simp; omega
                | have g3 : decide (j < out.length) = false := by simpa using g0
                  rcases ho2.2 with ⟨hn0, hl0⟩ | ⟨gb, gcap, gcur, hv0, -, hgb, -⟩
                  all_goals
                    first
                    | simp only [Value.slice.injEq] at hn0
                      obtain ⟨rfl, -, rfl⟩ := hn0
                      have g4 : out = [] := List.eq_nil_of_length_eq_zero hl0
                      subst g4
                      have g5 : j = 0 := by simpa using hjl
                      subst g5
                      clear hl0
                    | simp only [Value.slice.injEq] at hv0
                      obtain ⟨rfl, -, -⟩ := hv0
                      clear hgb
              all_goals
                have HN2 := HN'
                clear HA HB HN' HJ HE HD
                unfold sliced at hD
                first | ((have hcn0 : co = co := rfl); by_cases hcn : co = j) | have hq := hjl
              all_goals
                try (exfalso; omega; done)
              all_goals
                first | (have hcn' := hcn.symm; clear hcn; subst hcn'; rw [if_pos rfl, Nat.sub_self] at hD; have HCo := Lib.hid hco; clear hco) | rw [if_neg hcn] at hD | rw [if_pos rfl] at hD
                try simp only [Option.map_some, Addr.add_lit, Nat.mul_one, Nat.zero_add] at hD
                first
                | have hcase := hq
                  have hn1 : Rd (wo.heap.size + 2) ((wo.alloc (.cells #[S s] 9)).alloc (.cells #[] 9)) 1 (.slice (some ⟨wo.heap.size, 0, none⟩) 1 1) 1 ([s].map S) :=
                    ((Rd.lit_at wo wo.heap.size rfl 9 #[S s] 1 1 rfl (by decide)).below (w' := (wo.alloc (.cells #[S s] 9)).alloc (.cells #[] 9)) ((Below.refl _ _).alloc (by simp) _)).mono (by omega)
                  go_wp2_with (at_builtin; refine wpList_appRd rfl _ _ 44 rfl (wo.heap.size + 1) 9 (.string ByteArray.empty) 1 16 Tryz.underlying44 (by kernel_rfl) rfl (by decide) _ _ _ rfl (own_lit (wo.alloc (.cells #[S s] 9)) (wo.heap.size + 1) (by simp) (wo.heap.size + 1) (Nat.le_refl _) 9 1) _ _ _ _ rfl hn1 (S_one _) (by unfold maxLen; omega) (by omega) (by simp) ?_; intro a5 c5 w5 hown5 hb5; simp only [Nat.zero_add, List.nil_append] at hown5)
                  have hlen : (putAll ((vs.take (k + 1)).map low)).length = 1 := by rw [HV.out]; simp
                  go_roundw
                  case rel => exact ⟨k + 1, by go_num, by omega, HN2.out, by rw [hlen, HV.out]; exact own_base hown5 (by omega), hw2.trans ((((Below.refl _ _).alloc hw1s _).alloc (by simp; omega) _).trans (hb5.mono (by omega)))⟩
                  case measure => simp [intOf]; omega
                | have hcase := hcn0
                  go_wp2_with (first
                    | (at_builtin; refine wpList_appRd rfl _ _ 44 rfl w3.heap.size 9 (.string ByteArray.empty) 1 16 Tryz.underlying44 (by kernel_rfl) rfl (by decide) _ _ _ rfl hown4 _ _ _ _ rfl (Rd.below hs3 hb34) (S_one _) (by unfold maxLen; omega) (by omega) (by have := hb34.size; omega) ?_; intro a5 c5 w5 hown5 hb5)
                    | (at_builtin; refine wpList_appRd rfl _ _ 44 rfl w3.heap.size 9 (.string ByteArray.empty) 1 16 Tryz.underlying44 (by kernel_rfl) rfl (by decide) _ _ _ rfl (own_lit w3 w3.heap.size rfl w3.heap.size (Nat.le_refl _) 9 1) _ _ _ _ rfl ((Rd.below hT hb03).below ((Below.refl _ _).alloc (Nat.le_of_lt (Nat.lt_of_lt_of_le (Nat.lt_succ_self _) hz03)) _)) (S_one _) (by unfold maxLen; omega) (by omega) (by simp) ?_; intro a4 c4 w4 hown4 hb4; simp only [Nat.zero_add, List.nil_append] at hown4; have hb34 : Below w3.heap.size w3 w4 := ((Below.refl _ _).alloc (Nat.le_refl _) _).trans hb4)
                    | (at_builtin; refine wpList_appRd rfl _ _ 44 rfl wo.heap.size 9 (.string ByteArray.empty) 1 16 Tryz.underlying44 (by kernel_rfl) rfl (by decide) _ _ _ rfl (World.ownsRow_lit (base := wo.heap.size) (e := 9) (size := 1) wo #[S s] 1 (Nat.le_refl _) (by decide) rfl) _ _ _ _ rfl (Rd.below hD hal1) (S_one _) (by unfold maxLen; omega) (by omega) (by simp) ?_; intro a3 c3 w3 hown3 hb3; have hb03 : Below wo.heap.size wo w3 := hal1.trans hb3; have hz03 : wo.heap.size < w3.heap.size := (by have := hb3.size; simp at this; omega); have hs3 : Rd w3.heap.size w3 1 _ (1 + (out.length - j)) (([s] ++ out.drop j).map S) := (by rw [List.map_append]; exact Rd.own hown3)))
                  have hz34 := hb34.size
                  have hlen : (putAll ((vs.take (k + 1)).map low)).length = j + (1 + (out.length - j)) := by rw [HV.out]; simp; omega
                  go_roundw
                  case rel => exact ⟨k + 1, by go_num, by omega, HN2.out, by rw [hlen, HV.out, List.map_append]; exact own_base hown5 (by omega), hw2.trans (((hb03.mono hw1s).trans (hb34.mono (by omega))).trans (hb5.mono (by omega)))⟩
                  case measure => simp [intOf]; omega
    · have hk' : k = vs.length := by omega
      subst hk'
      rw [List.take_length] at hown
      have HT := Lib.hid HN.all
      go_wp2
      go_ret2
      rw [HY.out]
      exact ⟨_, by rw [HT.out]; rfl, by rw [namesR, HT.out, if_neg (by simp), rising_eq]; exact own_base hown hb1.size, Bl.tr hb1 hbel⟩
end Go.Proofs.YtahapblgmehngaaGreatDoor

namespace Go.Dr
def ask2 (st : Int) : Bool := decide (200 ≤ st) && decide (st ≤ 599) && !(st == 206) && !(st == 304)
def ask3 (a b : Ctl) : Bool := !a.ns && !b.ns && !b.pr
def ask4 (lr : List F) (b : Ctl) : Bool := !hasN lr authT || b.mr || b.pu || decide (0 ≤ b.sm)
def toldB18 (b : Ctl) (lf : List F) : Bool := decide (0 ≤ b.ma) || decide (0 ≤ b.sm) || b.pu || hasN lf expiresN
def ask6 (t : Bool) (st : Int) (lf : List F) : Bool := t || knownB st && (hasN lf etagT || hasN lf lastN)
end Go.Dr
namespace Go.Proofs.YtahapblgmehngaaGreatDoor
open Go.RowKit Go.Dr
def ask5 (lf : List F) : Bool := !starred (namesOf lf)
def storF (m : Bytes) (st : Int) (lr lf : List F) : Bool := (m == [71, 69, 84]) && ask2 st && ask3 (readC lr) (readC lf) && ask4 lr (readC lf) && ask5 lf && ask6 (toldB18 (readC lf) lf) st lf

theorem keep1_any (R : Nat) (m : Bytes) (w : World) (h : w.cell? ⟨R, 0, none⟩ = some (S m)) :
    Calls Tryz.prog 86 #[.pointer (some ⟨R, 0, none⟩)] w fun e w' => e = .returned (.bool (m == [71, 69, 84])) ∧ Below w.heap.size w w' := by
  go_enter Tryz.func86, Tryz.ntmps86
  go_wp2
  go_ret
  exact ⟨rfl, Below.refl _ _⟩

theorem keep2_any (T : Nat) (st : Int) (w : World) (h : w.cell? ⟨T, 0, none⟩ = some (.int .i64 st)) :
    Calls Tryz.prog 87 #[.pointer (some ⟨T, 0, none⟩)] w fun e w' => e = .returned (.bool (ask2 st)) ∧ Below w.heap.size w w' := by
  have HA : Hid (ask2 st = (decide (200 ≤ st) && decide (st ≤ 599) && !(st == 206) && !(st == 304))) := rfl
  generalize ask2 st = r at *
  cases h1 : decide (200 ≤ st) <;> cases h2 : decide (st ≤ 599)
  all_goals
    go_enter Tryz.func87, Tryz.ntmps87
    go_wp2
    all_goals go_ret
    all_goals exact ⟨ret_bool (by rw [HA.out, h1, h2]; first | rfl | (simp [bne]; done) | (simp [bne, *]; done) | (simp_all [bne]; done)), Below.refl _ _⟩

theorem keep3_any (A B : Nat) (x y z : Bool) (w : World) (h : w.cell? ⟨A, 0, none⟩ = some (.bool x)) (h1 : w.cell? ⟨B, 0, none⟩ = some (.bool y)) (h2 : w.cell? ⟨B, 4, none⟩ = some (.bool z)) :
    Calls Tryz.prog 88 #[.pointer (some ⟨A, 0, none⟩), .pointer (some ⟨B, 0, none⟩)] w fun e w' => e = .returned (.bool (!x && !y && !z)) ∧ Below w.heap.size w w' := by
  cases x <;> cases y <;> cases z
  all_goals
    go_enter Tryz.func88, Tryz.ntmps88
    go_wp2
    go_ret
    exact ⟨rfl, Below.refl _ _⟩

theorem keep4_any (R B : Nat) (c : Ctl) (lr : List F) (v : Value) (w : World) (h : w.cell? ⟨R, 4, none⟩ = some v) (hf : Fs w.heap.size w v lr) (hl : fsum lr ≤ 1099511627776) (hB : Blk w B 80 c.cells) :
    Calls Tryz.prog 89 #[.pointer (some ⟨R, 0, none⟩), .pointer (some ⟨B, 0, none⟩)] w fun e w' => e = .returned (.bool (ask4 lr c)) ∧ Below w.heap.size w w' := by
  have HA : Hid (ask4 lr c = (!hasN lr authT || c.mr || c.pu || decide (0 ≤ c.sm))) := rfl
  have HC := Lib.hid (fun w h => frHas_any lr authT v w h hl (by decide))
  obtain ⟨p, cp, rfl, -⟩ := hf.form
  obtain ⟨ns, nc, nt, pu, pr, mr, px, oi, ma, sm, mf, ms⟩ := c
  simp only at HA
  generalize ask4 lr ⟨ns, nc, nt, pu, pr, mr, px, oi, ma, sm, mf, ms⟩ = r at *
  generalize hasN lr authT = hn at *
  go_enter Tryz.func89, Tryz.ntmps89
  go_wp2_with fail
  refine (HC.out w hf).mono ?_
  rintro e w1 ⟨rfl, hb1⟩
  have hB1 := hB.on hb1
  have x5 : w1.cell? ⟨B, 5, none⟩ = some (.bool mr) := hB1.cell 5
  have x3 : w1.cell? ⟨B, 3, none⟩ = some (.bool pu) := hB1.cell 3
  have x9 : w1.cell? ⟨B, 9, none⟩ = some (.int .i64 sm) := hB1.cell 9
  clear h hB hB1 hf HC
  cases hn <;> cases mr <;> cases pu
  all_goals
    go_wp2
    go_ret
    exact ⟨ret_bool (by rw [HA.out]; simp), hb1⟩

theorem keep5_any (L : Nat) (lf : List F) (v : Value) (w : World) (h : w.cell? ⟨L, 0, none⟩ = some v) (hf : Fs w.heap.size w v lf) (hl : fsum lf ≤ 1099511627776) :
    Calls Tryz.prog 90 #[.pointer (some ⟨L, 0, none⟩)] w fun e w' => e = .returned (.bool (ask5 lf)) ∧ Below w.heap.size w w' := by
  have HC := Lib.hid (fun w h => Names_any lf v w h hl)
  obtain ⟨p, cp, rfl, -⟩ := hf.form
  have HA : Hid (ask5 lf = !starred (namesOf lf)) := rfl
  generalize ask5 lf = r at *
  go_enter Tryz.func90, Tryz.ntmps90
  go_wp2_with fail
  refine (HC.out w hf).mono ?_
  rintro e w1 ⟨vn, rfl, hvn, hb1⟩
  generalize starred (namesOf lf) = st at *
  go_wp2
  go_ret
  exact ⟨ret_bool HA.out.symm, hb1⟩

theorem keep6_any (C T L : Nat) (t : Bool) (st : Int) (lf : List F) (v : Value) (w : World) (hC : w.cell? ⟨C, 0, none⟩ = some (.bool t)) (hT : w.cell? ⟨T, 0, none⟩ = some (.int .i64 st)) (hL : One w L 26 v) (hf : Fs w.heap.size w v lf) (hl : fsum lf ≤ 1099511627776) :
    Calls Tryz.prog 91 #[.pointer (some ⟨C, 0, none⟩), .pointer (some ⟨T, 0, none⟩), .pointer (some ⟨L, 0, none⟩)] w fun e w' => e = .returned (.bool (ask6 t st lf)) ∧ Below w.heap.size w w' := by
  have HA : Hid (ask6 t st lf = (t || knownB st && (hasN lf etagT || hasN lf lastN))) := rfl
  have HE := Lib.hid (fun w h => frHas_any lf etagT v w h hl (by decide))
  have HL := Lib.hid (fun w h => frHas_any lf lastN v w h hl (by decide))
  have HK := Lib.hid (fun w => known_any st w)
  obtain ⟨p, cp, rfl, -⟩ := hf.form
  have hc : w.cell? ⟨L, 0, none⟩ = some (.slice p lf.length cp) := hL.cell
  generalize ask6 t st lf = r at *
  generalize hasN lf etagT = he at *
  generalize hasN lf lastN = hm at *
  generalize knownB st = kn at *
  cases t with
  | true =>
    go_enter Tryz.func91, Tryz.ntmps91
    go_wp2
    go_ret
    exact ⟨ret_bool (by rw [HA.out]; rfl), Below.refl _ _⟩
  | false =>
  go_enter Tryz.func91, Tryz.ntmps91
  go_wp2_with fail
  refine (HK.out w).mono ?_
  rintro e w1 ⟨rfl, rfl⟩
  cases kn with
  | false =>
    go_wp2
    go_ret
    exact ⟨ret_bool (by rw [HA.out]; rfl), Below.refl _ _⟩
  | true =>
  go_wp2_with fail
  refine (HE.out _ hf).mono ?_
  rintro e w2 ⟨rfl, hb2⟩
  cases he with
  | true =>
    go_wp2
    go_ret
    exact ⟨ret_bool (by rw [HA.out]; rfl), hb2⟩
  | false =>
  have hf2 := (hf.below hb2).mono hb2.size
  have hc2 : w2.cell? ⟨L, 0, none⟩ = some (.slice p lf.length cp) := (hL.below hb2 hL.lt).cell
  clear hC hT hL hc hf
  go_wp2_with fail
  refine (HL.out _ hf2).mono ?_
  rintro e w3 ⟨rfl, hb3⟩
  go_wp2
  go_ret
  exact ⟨ret_bool (by rw [HA.out]; cases hm <;> rfl), Bl.tr hb2 hb3⟩
end Go.Proofs.YtahapblgmehngaaGreatDoor

