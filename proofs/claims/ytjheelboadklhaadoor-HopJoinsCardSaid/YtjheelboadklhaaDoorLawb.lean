/- The walk of the statement HopElements. -/
import Derived.Test.YtjheelboadklhaaDoorLawa
import Derived.Test.YtjheelboadklhaaDoorElaw
namespace Go.Proofs.YtjheelboadklhaaDoor
open Go.RowKit Go.Dr

theorem refTrim_quiet {w : World} {n : Nat} (l : Bytes) (hl : l.length ≤ maxLen) :
    Calls Tryd.prog 12 #[S l] (w.drewN n) fun e w' => e = .returned (S (trim l)) ∧ w' = w.drewN n :=
  (refTrim_any l _ hl).mono fun _ _ ⟨h1, h2⟩ => ⟨h1, h2.symm⟩

set_option maxRecDepth 100000 in
set_option maxHeartbeats 2000000 in
theorem HopElements_any (l : Bytes) (w : World) (hl : l.length ≤ maxLen) : Calls Tryd.prog 3 #[S l] w fun e w' => e = .returned (.bool true) ∧ Below w.heap.size w w' := by
  unfold maxLen at hl
  by_cases hbig : 16384 < l.length
  · have hq : decide (16384 < (l.length : Int)) = true := by rw [decide_eq_true_iff]; omega
    clear hbig
    go_enter Tryd.func3, Tryd.ntmps3
    go_wp2_with (go_at_call 8; refine (awake_any _).mono ?_; rintro e w1 ⟨rfl, hb1⟩)
    go_ret
    exact ⟨rfl, hb1⟩
  · have hq : decide (16384 < (l.length : Int)) = false := by rw [decide_eq_false_iff_not]; omega
    have hl : l.length ≤ 16384 := by omega
    clear hbig
    have hss := ssum_elems l
    have hsl := ssum_length (elems l)
    have hel : Hid (∀ e ∈ elems l, trim e = e ∧ e ≠ []) := fun e he => elems_el he
    go_enter Tryd.func3, Tryd.ntmps3
    go_wp2_with fail
    refine (awake_any _).mono ?_
    rintro e w1 ⟨rfl, hb1⟩
    go_wp2_with fail
    refine (Elements_any l _ (by omega)).mono ?_
    rintro e w2 ⟨v2, rfl, hv2, hb2⟩
    have hr2 : Ss w2.heap.size w2 v2 (elems l) := Ss.own hv2
    go_wp2_with fail
    refine (refElements_any l _ (by omega)).mono ?_
    rintro e w3 ⟨v3, rfl, hv3, hb3⟩
    have hr3 : Ss w3.heap.size w3 v3 (elems l) := Ss.own hv3
    have hr23 := (hr2.below hb3).mono hb3.size
    go_wp2_with fail
    refine (Texts_any _ _ _ _ _ hr23 hr3).mono ?_
    rintro e w4 ⟨rfl, hb4⟩
    have hbb : ((elems l == elems l) = true) := by simp
    have hr4 := (hr23.below hb4).mono hb4.size
    have hbw : Below w.heap.size w w4 := Bl.tr (Bl.tr (Bl.tr hb1 hb2) hb3) hb4
    clear hv2 hv3 hr2 hr3 hr23 hb1 hb2 hb3 hb4
    obtain ⟨p2, c2, rfl, hm2⟩ := hr4.form
    generalize hE : elems l = es at *
    have HE := Lib.hid hE
    clear hE
    go_wp2
    go_loopw [4, 5] (fun va i wr => ∃ k : Nat, i = .int .i64 k ∧ k ≤ es.length ∧ va = S (allJ (es.take k)) ∧ Below w4.heap.size w4 wr) (fun _ i _ => es.length - (intOf i).toNat)
    case atStart => exact ⟨0, rfl, Nat.zero_le _, rfl, Below.refl _ _⟩
    case round =>
      obtain ⟨k, rfl, hk, rfl, hbel⟩ := hrel
      by_cases hlt : k < es.length
      · obtain ⟨b, off, rfl, hbl, c0⟩ := (hr4.below hbel).at k hlt
        obtain ⟨ht, hne⟩ := hel.out _ (List.getElem_mem hlt)
        have hq1 : (!es[k] == trim es[k]) = false := by rw [ht]; simp
        have hq2 : (es[k]).isEmpty = false := by simpa using hne
        have hf := ssum_mem (List.getElem_mem hlt)
        have hal := allJ_length (es.take k)
        have htk := ssum_take es k
        have HA := Lib.hid (allJ_snoc es k hlt)
        clear ht hne
        generalize allJ (es.take k) = al at *
        go_wp2_with fail
        go_quiet ((go_at_call 12; exact Calls.quiet_of_same (refTrim_quiet _ (by unfold maxLen; omega))))
        go_wp2
        go_roundw
        case rel => exact ⟨k + 1, by go_num, by omega, by rw [HA.out, List.append_assoc], below_drewN hbel _⟩
        case measure => simp [intOf]; omega
      · have hk' : k = es.length := by omega
        subst hk'
        rw [List.take_length]
        obtain ⟨wo, rfl⟩ : ∃ wo : World, wo = wr := ⟨_, rfl⟩
        have hal := allJ_length es
        have hno : Hid ((∀ c ∈ l, c ≠ 34) → elems (allJ es) = es) := by
          intro h
          rw [← HE.out]
          exact elems_twice l h
        have hr5 := (hr4.below hbel).mono hbel.size
        go_wp2_with fail
        refine (Elements_any (allJ es) _ (by omega)).mono ?_
        rintro e w5 ⟨v5, rfl, hv5, hb5⟩
        have hr6 : Ss w5.heap.size w5 v5 (elems (allJ es)) := Ss.own hv5
        have hr5 := (hr5.below hb5).mono hb5.size
        have hbw5 : Below w.heap.size w w5 := Bl.tr (Bl.tr hbw hbel) hb5
        clear hv5 hr4
        go_wp2
        go_loopw [7] (fun i wr => ∃ k : Nat, i = .int .i64 k ∧ k ≤ l.length ∧ Hid (∀ c ∈ l.take k, c ≠ 34) ∧ Below w5.heap.size w5 wr) (fun i _ => l.length - (intOf i).toNat)
        case atStart => exact ⟨0, rfl, Nat.zero_le _, by intro c hc; simp at hc, Below.refl _ _⟩
        case round =>
          obtain ⟨k, rfl, hk, HQ, hbel6⟩ := hrel
          have hr6' := (hr6.below hbel6).mono hbel6.size
          have hr5' := (hr5.below hbel6).mono hbel6.size
          by_cases hlt : k < l.length
          · by_cases h34 : l[k] = 34
            · have h34' : ((l[k].toNat : Int) == 34) = true := u8_eq h34
              clear h34
              go_wp2_with fail
              refine (refElements_any (allJ es) _ (by omega)).mono ?_
              rintro e w6 ⟨v6, rfl, hv6, hb6⟩
              have hr7 : Ss w6.heap.size w6 v6 (elems (allJ es)) := Ss.own hv6
              go_wp2_with fail
              refine (Texts_any _ _ _ _ _ ((hr6'.below hb6).mono hb6.size) hr7).mono ?_
              rintro e w7 ⟨rfl, hb7⟩
              go_wp2
              go_ret
              exact ⟨ret_bool (by simp), Bl.tr (Bl.tr (Bl.tr hbw5 hbel6) hb6) hb7⟩
            · have h34' : ((l[k].toNat : Int) == 34) = false := u8_ne h34
              have HQ2 : Hid (∀ c ∈ l.take (k + 1), c ≠ 34) := by
                intro c hc
                rw [take_snoc l k hlt] at hc
                rcases List.mem_append.1 hc with hc | hc
                · exact HQ.out c hc
                · obtain rfl := List.mem_singleton.1 hc
                  exact h34
              clear h34
              go_wp2
              go_roundw
              case rel => exact ⟨k + 1, by go_num, by omega, HQ2, hbel6⟩
              case measure => simp [intOf]; omega
          · have hag : elems (allJ es) = es := hno.out (by have := HQ.out; rwa [List.take_of_length_le (by omega)] at this)
            rw [hag] at hr6'
            clear hag
            go_wp2_with fail
            refine (Texts_any _ _ _ _ _ hr6' hr5').mono ?_
            rintro e w7 ⟨rfl, hb7⟩
            go_wp2
            go_ret
            exact ⟨ret_bool (by simp), Bl.tr (Bl.tr hbw5 hbel6) hb7⟩

end Go.Proofs.YtjheelboadklhaaDoor
