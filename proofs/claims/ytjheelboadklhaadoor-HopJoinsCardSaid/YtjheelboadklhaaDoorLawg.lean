/- HopJoins: the walk. -/
import Derived.Test.YtjheelboadklhaaDoorLawd
import Derived.Test.YtjheelboadklhaaDoorLawf
namespace Go.Proofs.YtjheelboadklhaaDoor
open Go.RowKit Go.Dr

set_option linter.unusedSimpArgs false in
set_option maxRecDepth 100000 in
set_option maxHeartbeats 8000000 in
theorem HopJoins_any (names : List Bytes) (v : Value) (w : World) (h' : Ss w.heap.size w v names) (hnb : ∀ s ∈ names, s.length ≤ 140737488355328) :
    Calls Tryd.prog 6 #[v] w fun e w' => e = .returned (.bool true) ∧ Below w.heap.size w w' := by
  have HNB := Lib.hid hnb
  clear hnb
  obtain ⟨pn, cn, rfl, hmn⟩ := h'.form
  go_enter Tryd.func6, Tryd.ntmps6
  go_wp2_with fail
  refine (awake_any _).mono ?_
  rintro e w1 ⟨rfl, hw1⟩
  have n1 := (h'.below hw1).mono hw1.size
  clear h'
  go_wp2
  go_loopw [3, 4] (fun vl i wr => ∃ k : Nat, k ≤ names.length ∧ k ≤ 100 ∧ i = .int .i64 k ∧ wr.ownsRow w1.heap.size 35 3 vl (pairs (names.take k)).length (fcells (pairs (names.take k))) ∧ (∀ x ∈ names.take k, x.length ≤ 100 ∧ ∀ c ∈ x, c ≠ 34) ∧ Below w1.heap.size w1 wr) (fun _ i _ => 100 - (intOf i).toNat)
  case atStart => exact ⟨0, Nat.zero_le _, by omega, rfl, World.ownsRow_nil _ _ _ _, by simp, Below.refl _ _⟩
  case round =>
    obtain ⟨k, hk, hk2, rfl, hown, hall, hbel⟩ := hrel
    have HA := Lib.hid hall
    clear hall
    by_cases hlt : k < names.length ∧ k < 100
    · obtain ⟨hlt, hlt2⟩ := hlt
      have hq1 : decide ((k : Int) < (names.length : Int)) = true := by rw [decide_eq_true_iff]; omega
      have hq2 : decide ((k : Int) < 100) = true := by rw [decide_eq_true_iff]; omega
      obtain ⟨b, off, rfl, hbb, c0⟩ := (n1.below hbel).at k hlt
      by_cases hs : 100 < names[k].length
      · have hq : decide (100 < (names[k].length : Int)) = true := by rw [decide_eq_true_iff]; omega
        clear hs
        go_wp2
        go_ret
        exact ⟨rfl, hw1.trans (hbel.mono hw1.size)⟩
      have hq : decide (100 < (names[k].length : Int)) = false := by rw [decide_eq_false_iff_not]; omega
      have HS := Lib.hid (pairs_snoc names k hlt)
      have hpl : (pairs (names.take k)).length = 2 * k := by rw [pairs_length, List.length_take]; omega
      obtain ⟨wo, rfl⟩ : ∃ wo : World, wo = wr := ⟨_, rfl⟩
      have hs100 : names[k].length ≤ 100 := by omega
      clear hs
      go_wp2
      go_loopw [5] (fun i wr => ∃ j : Nat, j ≤ names[k].length ∧ i = .int .i64 j ∧ Hid (∀ c ∈ names[k].take j, c ≠ 34) ∧ wr = wo) (fun i _ => names[k].length - (intOf i).toNat)
      case atStart => exact ⟨0, Nat.zero_le _, rfl, (by show ∀ c ∈ _, _; simp), rfl⟩
      case round =>
        obtain ⟨j, hj, rfl, HJ, hwe⟩ := hrel
        obtain rfl : wo = wr := hwe.symm
        by_cases hlj : j < names[k].length
        · have hj0 : (0 : Int) ≤ (j : Int) := Int.natCast_nonneg _
          have hj1 : (j : Int) < (names[k].length : Int) := by omega
          by_cases h34 : names[k][j] = 34
          · have h34' : ((names[k][j].toNat : Int) == 34) = true := u8_eq h34
            clear h34
            go_wp2
            go_ret
            exact ⟨rfl, hw1.trans (hbel.mono hw1.size)⟩
          · have h34' : ((names[k][j].toNat : Int) == 34) = false := u8_ne h34
            have HN : Hid (∀ c ∈ names[k].take (j + 1), c ≠ 34) := by
              show ∀ c ∈ _, _
              intro c hc
              rcases mem_take_succ hlj hc with hc | hc
              · exact HJ.out c hc
              · rw [hc]; exact h34
            clear h34
            go_wp2
            go_roundw
            case rel => exact ⟨j + 1, by omega, by go_num, HN, trivial⟩
            case measure => simp [intOf]; omega
        · have hj' : j = names[k].length := by omega
          have HJ' : Hid (∀ c ∈ names[k], c ≠ 34) := by
            show ∀ c ∈ _, _
            have := HJ.out
            rwa [List.take_of_length_le (by omega)] at this
          subst hj'
          clear HJ
          have hal : Below wo.heap.size wo (wo.alloc (.cells #[.string ⟨#[97]⟩, S names[k], .bool false, .string ⟨#[98]⟩, .string ⟨#[120, 44, 121]⟩, .bool false] 35)) := (Below.refl _ _).alloc (Nat.le_refl _) _
          have hsrc : Fs (wo.heap.size + 1) (wo.alloc (.cells #[.string ⟨#[97]⟩, S names[k], .bool false, .string ⟨#[98]⟩, .string ⟨#[120, 44, 121]⟩, .bool false] 35)) (.slice (some ⟨wo.heap.size, 0, none⟩) 2 2) (pairF names[k]) := by
            have := Fs.own (l := pairF names[k]) (World.ownsRow_lit (base := wo.heap.size) (e := 35) (size := 3) wo #[.string ⟨#[97]⟩, S names[k], .bool false, .string ⟨#[98]⟩, .string ⟨#[120, 44, 121]⟩, .bool false] 2 (Nat.le_refl _) (by decide) rfl)
            simpa using this
          have hpf : (pairF names[k]).length = 2 := rfl
          go_wp2_with (at_builtin; refine wpList_appRd rfl _ _ 28 rfl w1.heap.size 35 (.agg #[.string ByteArray.empty, .string ByteArray.empty, .bool false]) 3 40 Tryd.underlying28 (by kernel_rfl) rfl (by decide) _ _ _ rfl (hown.alloc _) _ _ _ _ rfl hsrc (fcells_one _) (by unfold maxLen; omega) (by omega) (by have := hbel.size; simp; omega) ?_; intro a' c' w3 hown3 hb3)
          have HA' : Hid (∀ x ∈ names.take (k + 1), x.length ≤ 100 ∧ ∀ c ∈ x, c ≠ 34) := by
            show ∀ x ∈ _, _
            intro x hx
            rcases mem_take_succ hlt hx with hx | hx
            · exact HA.out x hx
            · rw [hx]; exact ⟨hs100, HJ'.out⟩
          have hown4 : w3.ownsRow w1.heap.size 35 3 (.slice a' ((pairs (names.take k)).length + (pairF names[k]).length) c') (pairs (names.take (k + 1))).length (fcells (pairs (names.take (k + 1)))) := by
            rw [HS.out, List.length_append, fcells_append]; exact hown3
          rw [hpl, hpf] at hown4
          go_roundw
          case rel => exact ⟨k + 1, by omega, by omega, by go_num, hown4, HA'.out, (hbel.trans (hal.mono hbel.size)).trans hb3⟩
          case measure => simp [intOf]; omega
    · have hkm : (names.take k).length = k := by rw [List.length_take]; omega
      have hs1 := fsum_pairs (names.take k) fun x hx => (HA.out x hx).1
      have hs2 := ssum_small (names.take k) fun x hx => (HA.out x hx).1
      have hv := values_pairs (names.take k)
      have hej := elems_join (names.take k) fun x hx => (HA.out x hx).2
      have hjl := joinS_length (names.take k)
      have hall : allOf (pairs (names.take k)) [65] = (names.take k).flatMap elems := by rw [allOf, hv]
      have hd : decide ((0 : Int) < (names.length : Int)) = decide (0 < (names.take k).length) := by
        rw [hkm]; congr 1; apply propext; constructor <;> intro <;> omega
      have hq : (decide ((k : Int) < (names.length : Int)) && decide ((k : Int) < 100)) = false := by
        rw [← Bool.not_eq_true, Bool.and_eq_true, decide_eq_true_iff, decide_eq_true_iff]; omega
      have r0 : Fs wr.heap.size wr _ (pairs (names.take k)) := Fs.own hown
      have hwr : Below w.heap.size w wr := hw1.trans (hbel.mono hw1.size)
      rw [hkm] at hs1 hs2
      clear hkm n1 HNB HA hown hbel hw1
      generalize names.take k = vs at *
      obtain ⟨wo, rfl⟩ : ∃ wo : World, wo = wr := ⟨_, rfl⟩
      have HV := Lib.hid hv
      have HEJ := Lib.hid hej
      have HALL := Lib.hid hall
      clear hv hej hall
      obtain ⟨q, HD⟩ : ∃ q, Hid (decide (0 < vs.length) = q) := ⟨_, rfl⟩
      rw [HD.out] at hd
      by_cases hc1 : k < names.length
      · have hc2 : k = 100 := by omega
        subst hc2
        clear hlt hq
        cases q with
        | false => exfalso; rw [decide_eq_false_iff_not] at hd; omega
        | true =>
          go_wp2_with fail
          refine (Join_any (pairs vs) [65] _ _ r0 (by omega) (by decide)).mono ?_
          rintro e w3 ⟨rfl, hb3⟩
          rw [HV.out, HD.out]
          have hw3 := Bl.tr hwr hb3
          have r3 := (r0.below hb3).mono hb3.size
          clear r0 hwr hb3
          go_wp2_with fail
          refine (Elements_any (joinS vs) _ (by omega)).mono ?_
          rintro e w4 ⟨ve, rfl, hve, hb4⟩
          have hw4 := Bl.tr hw3 hb4
          have r4 := (r3.below hb4).mono hb4.size
          rw [HEJ.out] at hve
          have e4 : Ss w4.heap.size w4 ve (vs.flatMap elems) := Ss.own hve
          clear hve r3 hw3 hb4
          go_wp2_with fail
          refine (All_any (pairs vs) [65] _ _ r4 (by omega) (by decide)).mono ?_
          rintro e w5 ⟨va, rfl, hva, hb5⟩
          rw [HALL.out] at hva
          have hw5 := Bl.tr hw4 hb5
          have e5 := (e4.below hb5).mono hb5.size
          have a5 : Ss w5.heap.size w5 va (vs.flatMap elems) := Ss.own hva
          clear hva e4 r4 hw4 hb5
          go_wp2_with fail
          refine (Texts_at _ _ _ _ e5 a5).mono ?_
          rintro e w6 ⟨rfl, hb6⟩
          go_wp2
          go_ret
          exact ⟨rfl, Bl.tr hw5 hb6⟩
      · clear hlt hq
        cases q with
        | false =>
          have hd2 : ¬ 0 < names.length := by rw [decide_eq_false_iff_not] at hd; omega
          go_wp2_with fail
          refine (Join_any (pairs vs) [65] _ _ r0 (by omega) (by decide)).mono ?_
          rintro e w3 ⟨rfl, hb3⟩
          rw [HV.out, HD.out]
          have hw3 := Bl.tr hwr hb3
          have r3 := (r0.below hb3).mono hb3.size
          clear r0 hwr hb3
          go_wp2_with fail
          refine (Elements_any (joinS vs) _ (by omega)).mono ?_
          rintro e w4 ⟨ve, rfl, hve, hb4⟩
          have hw4 := Bl.tr hw3 hb4
          have r4 := (r3.below hb4).mono hb4.size
          rw [HEJ.out] at hve
          have e4 : Ss w4.heap.size w4 ve (vs.flatMap elems) := Ss.own hve
          clear hve r3 hw3 hb4
          go_wp2_with fail
          refine (All_any (pairs vs) [65] _ _ r4 (by omega) (by decide)).mono ?_
          rintro e w5 ⟨va, rfl, hva, hb5⟩
          rw [HALL.out] at hva
          have hw5 := Bl.tr hw4 hb5
          have e5 := (e4.below hb5).mono hb5.size
          have a5 : Ss w5.heap.size w5 va (vs.flatMap elems) := Ss.own hva
          clear hva e4 r4 hw4 hb5
          go_wp2_with fail
          refine (Texts_at _ _ _ _ e5 a5).mono ?_
          rintro e w6 ⟨rfl, hb6⟩
          go_wp2
          go_ret
          exact ⟨rfl, Bl.tr hw5 hb6⟩
        | true =>
          have hd2 : 0 < names.length := by rw [decide_eq_true_iff] at hd; omega
          go_wp2_with fail
          refine (Join_any (pairs vs) [65] _ _ r0 (by omega) (by decide)).mono ?_
          rintro e w3 ⟨rfl, hb3⟩
          rw [HV.out, HD.out]
          have hw3 := Bl.tr hwr hb3
          have r3 := (r0.below hb3).mono hb3.size
          clear r0 hwr hb3
          go_wp2_with fail
          refine (Elements_any (joinS vs) _ (by omega)).mono ?_
          rintro e w4 ⟨ve, rfl, hve, hb4⟩
          have hw4 := Bl.tr hw3 hb4
          have r4 := (r3.below hb4).mono hb4.size
          rw [HEJ.out] at hve
          have e4 : Ss w4.heap.size w4 ve (vs.flatMap elems) := Ss.own hve
          clear hve r3 hw3 hb4
          go_wp2_with fail
          refine (All_any (pairs vs) [65] _ _ r4 (by omega) (by decide)).mono ?_
          rintro e w5 ⟨va, rfl, hva, hb5⟩
          rw [HALL.out] at hva
          have hw5 := Bl.tr hw4 hb5
          have e5 := (e4.below hb5).mono hb5.size
          have a5 : Ss w5.heap.size w5 va (vs.flatMap elems) := Ss.own hva
          clear hva e4 r4 hw4 hb5
          go_wp2_with fail
          refine (Texts_at _ _ _ _ e5 a5).mono ?_
          rintro e w6 ⟨rfl, hb6⟩
          go_wp2
          go_ret
          exact ⟨rfl, Bl.tr hw5 hb6⟩
end Go.Proofs.YtjheelboadklhaaDoor
