
/- VaryStars. -/
import Derived.Test.YtpbmmkonlboegaaDoorLaw17b
namespace Go.Dr
def starF : F := ⟨[86, 97, 114, 121], [120, 45, 98, 44, 32, 42], false⟩
end Go.Dr
namespace Go.Proofs.YtpbmmkonlboegaaDoor
open Go.RowKit Go.Dr
theorem all_append (a b : List F) (n : Bytes) : allOf (a ++ b) n = allOf a n ++ allOf b n := by simp [allOf, values]
theorem starred_insert (l : List F) (n : Nat) : starred (namesOf (l.take n ++ [starF] ++ l.drop n)) = true := by
  unfold namesOf
  rw [all_append, all_append]
  unfold starred
  rw [List.any_append, List.any_append]
  have : (allOf [starF] varyT).any (fun s => s == [42]) = true := by decide +kernel
  rw [this]
  simp
theorem namesR_star {vs : List Bytes} (h : starred vs = true) : namesR vs = [] := by rw [namesR, h, if_pos rfl]
theorem namesR_rises (vs : List Bytes) : Rises (namesR vs) := by
  unfold namesR
  split
  · exact List.Pairwise.nil
  · exact rising_rises _
theorem Names_star (l : List F) (hs : starred (namesOf l) = true) (v : Value) (w : World) (h : Fs w.heap.size w v l) (hl : fsum l ≤ 1099511627776) :
    Calls Tryd.prog 22 #[v] w fun e w' => ∃ v, e = .returned (.tuple #[v, .bool true]) ∧ Ss w'.heap.size w' v [] ∧ Below w.heap.size w w' :=
  Names_at l _ _ _ rfl hs (namesR_star hs) v w h hl

/-- The end of VaryStars: the names rise. -/
def Pairs (nr : List Bytes) : Prop := ∀ m (h : m + 1 < nr.length), Op.bytesLess nr[m] nr[m + 1] = true
theorem pairs_of {nr : List Bytes} (h : Rises nr) : Pairs nr := fun m hm => by
  rw [bytesLess_eq]
  simpa using List.pairwise_iff_getElem.1 h m (m + 1) (by omega) hm (by omega)

set_option linter.unusedSimpArgs false in
set_option maxRecDepth 100000 in
set_option maxHeartbeats 8000000 in
theorem VaryStars_any (l : List F) (at' : Int) (v : Value) (w : World) (h : Fs w.heap.size w v l) (hb : FOk l) (ha : -9223372036854775808 ≤ at' ∧ at' ≤ 9223372036854775807) :
    Calls Tryd.prog 6 #[v, .int .i64 at'] w fun e w' => e = .returned (.bool true) ∧ Below w.heap.size w w' := by
  have HB := Lib.hid hb
  clear hb
  obtain ⟨pa, ca, rfl, hm⟩ := h.form
  cases hs : smallB l with
  | false =>
    have HS := Lib.hid hs
    clear hs
    go_enter Tryd.func6, Tryd.ntmps6
    go_wp2_with fail
    refine (awake17_any _).mono ?_
    rintro e w1 ⟨rfl, hb1⟩
    go_wp2_with fail
    refine (small17_any l _ HS.out _ _ ((h.below hb1).mono hb1.size) HB.out).mono ?_
    rintro e w2 ⟨rfl, hb2⟩
    go_wp2
    go_ret
    exact ⟨rfl, Bl.tr hb1 hb2⟩
  | true =>
  have hsum := smallB_sum hs
  have HS := Lib.hid hs
  clear hs
  generalize hnr : namesR (namesOf l) = nr
  generalize hst : starred (namesOf l) = b
  have HP := Lib.hid (pairs_of (namesR_rises (namesOf l)))
  rw [hnr] at HP
  have Hnr := Lib.hid hnr
  have Hst := Lib.hid hst
  clear hnr hst
  go_enter Tryd.func6, Tryd.ntmps6
  go_wp2_with fail
  refine (awake17_any _).mono ?_
  rintro e w1 ⟨rfl, hb1⟩
  have h1 := (h.below hb1).mono hb1.size
  clear h
  go_wp2_with fail
  refine (small17_any l _ HS.out _ _ h1 HB.out).mono ?_
  rintro e w2 ⟨rfl, hb2⟩
  have hw2 := Bl.tr hb1 hb2
  have h2 := (h1.below hb2).mono hb2.size
  clear h1 hb1 hb2
  by_cases hp : 0 < at'
  · obtain ⟨n, hn, hnl⟩ : ∃ n : Nat, at' % ((l.length : Int) + 1) = n ∧ n ≤ l.length := ⟨(at' % ((l.length : Int) + 1)).toNat, by have := Int.emod_nonneg at' (b := (l.length : Int) + 1) (by omega); omega, by have := Int.emod_lt_of_pos at' (b := (l.length : Int) + 1) (by omega); omega⟩
    have hnc : n ≤ ca := by obtain ⟨_, cc, e1, e2, _⟩ := h2; simp only [Value.slice.injEq] at e1; omega
    have hT : Rd w2.heap.size w2 3 (.slice pa n ca) n (fcells (l.take n)) := by have := Rd.upto h2 hnl; rwa [fcells_take] at this
    have hal : Below w2.heap.size w2 (w2.alloc (.cells #[] 31)) := (Below.refl _ _).alloc (Nat.le_refl _) _
    have HSt := Lib.hid (starred_insert l n)
    have HN : Hid ((l.take n ++ [starF] ++ l.drop n).length = n + 1 + (l.length - n)) := by show _ = _; simp; omega
    have HB9 : Hid (fsum (l.take n ++ [starF] ++ l.drop n) ≤ 1099511627776) := by
      show _ ≤ _
      have e : fsum l = fsum (l.take n) + fsum (l.drop n) := by rw [← fsum_append, List.take_append_drop]
      rw [fsum_append, fsum_append, show fsum [starF] = 42 by decide]
      omega
    have hfn := fsum_take l n
    have hfl := fsum_length (l.take n)
    have hfl2 := fsum_length l
    have hD : Rd w2.heap.size w2 3 (sliced pa n l.length ca 3) (l.length - n) (fcells (l.drop n)) := by have := Rd.sliced h2 hnl; rwa [fcells_drop] at this
    unfold sliced at hD
    by_cases hcn : ca = n
    all_goals
      first | (have hcn' := hcn.symm; clear hcn; subst hcn'; rw [if_pos rfl, Nat.sub_self] at hD) | rw [if_neg hcn] at hD
      go_wp2_with (first
        | (at_builtin; refine wpList_appRd rfl _ _ 23 rfl w2.heap.size 31 (.agg #[.string ByteArray.empty, .string ByteArray.empty, .bool false]) 3 40 Tryd.underlying23 (by kernel_rfl) rfl (by decide) _ _ _ rfl hown3 _ _ _ _ rfl (Rd.below hD h24) (fcells_one _) (by unfold maxLen; omega) (by omega) (by omega) ?_; intro a5 c5 w5 hown5 hb5)
        | (at_builtin; refine wpList_appF rfl _ _ 23 rfl w2.heap.size Tryd.underlying23 (by kernel_rfl) _ _ _ rfl hown2 rfl (by omega) (by have := hb3.size; simp at this; omega) rfl ?_; intro a'' c'' w4 hown3 hb4 hz3; have h24 : Below w2.heap.size w2 w4 := (hal.trans hb3).trans hb4; have hz4 := h24.size)
        | (at_builtin; refine wpList_appRd rfl _ _ 23 rfl w2.heap.size 31 (.agg #[.string ByteArray.empty, .string ByteArray.empty, .bool false]) 3 40 Tryd.underlying23 (by kernel_rfl) rfl (by decide) _ _ _ rfl (World.ownsRow_lit (base := w2.heap.size) (e := 31) (size := 3) w2 #[] 0 (Nat.le_refl _) (by decide) rfl) _ _ _ _ rfl (hT.below hal) (fcells_one _) (by unfold maxLen; omega) (by omega) (by simp) ?_; intro a' c' w3 hown2 hb3; simp only [Nat.zero_add, List.nil_append, List.toList_toArray] at hown2))
      have h25 := h24.trans hb5
      have hF5 : Fs w5.heap.size w5 (.slice a5 (n + 1 + (l.length - n)) c5) (l.take n ++ [starF] ++ l.drop n) := by have := Rd.own hown5; unfold Fs; rw [HN.out, fcells_append, fcells_append]; exact this
      have hw5 := Bl.tr hw2 h25
      have h5 := (h2.below h25).mono h25.size
      clear hT hal hb3 hb4 hown2 h2 hw2 h24 hD hown3 hown5 hb5 h25
      generalize l.take n ++ [starF] ++ l.drop n = ll at *
      refine (Names_star ll HSt.out _ _ hF5 HB9.out).mono ?_
      rintro e w6 ⟨v6, rfl, r6, hb6⟩
      have hw6 := Bl.tr hw5 hb6
      have h6 := (h5.below hb6).mono hb6.size
      obtain ⟨p6, c6, rfl, -⟩ := r6.form
      clear hw5 h5 hb6 hF5
      go_wp2_with fail
      refine (Names_at l _ _ _ rfl Hst.out Hnr.out _ _ h6 (by omega)).mono ?_
      rintro e w7 ⟨v7, rfl, r7, hb7⟩
      have hw7 := Bl.tr hw6 hb7
      clear hw6 hb7 h6 r6
      obtain ⟨p7, c7, rfl, hm7⟩ := r7.form
      go_wp2
      go_loopw [11] (fun i wr => ∃ m : Nat, i = .int .i64 ((m : Int) + 1) ∧ m ≤ nr.length ∧ wr.heap = w7.heap ∧ Below w7.heap.size w7 wr) (fun i _ => nr.length + 1 - (intOf i).toNat)
      case atStart => exact ⟨0, rfl, Nat.zero_le _, rfl, Below.refl _ _⟩
      case round =>
        obtain ⟨m, rfl, hmm, hwe, hbel⟩ := hrel
        by_cases hlt : m + 1 < nr.length
        · obtain ⟨bb, ob, rfl, hbb, d0⟩ := (r7.below hbel).at m (by omega)
          obtain ⟨b2, o2, e2, -, d1⟩ := (r7.below hbel).at (m + 1) hlt
          simp only [Option.some.injEq, Addr.mk.injEq, and_true] at e2
          obtain ⟨rfl, rfl⟩ := e2
          have g := HP.out m hlt
          have i0 : (0 : Int) ≤ (m : Int) := by omega
          have i1 : (m : Int) + 1 < (nr.length : Int) := by omega
          have i2 : (m : Int) < (nr.length : Int) := by omega
          go_wp2_with fail
          go_quiet (fail)
          go_wp2
          go_roundw
          case rel => exact ⟨m + 1, by go_num, by omega, hwe, below_drewN hbel _⟩
          case measure => simp [intOf]; omega
        · go_wp2
          go_ret
          exact ⟨rfl, Bl.tr hw7 hbel⟩
  · have hp' : decide (0 < at') = false := by rw [decide_eq_false_iff_not]; exact hp
    clear hp
    have hT : Rd w2.heap.size w2 3 (.slice pa 0 ca) 0 (fcells []) := by have := Rd.upto h2 (Nat.zero_le _); simpa [fcells] using this
    have hal : Below w2.heap.size w2 (w2.alloc (.cells #[] 31)) := (Below.refl _ _).alloc (Nat.le_refl _) _
    have HSt := Lib.hid (starred_insert l 0)
    rw [List.take_zero, List.nil_append, List.drop_zero] at HSt
    have HN : Hid (([starF] ++ l).length = 1 + l.length) := by show _ = _; simp; omega
    have HB9 : Hid (fsum ([starF] ++ l) ≤ 1099511627776) := by
      show _ ≤ _
      rw [fsum_append, show fsum [starF] = 42 by decide]
      omega
    have hfl2 := fsum_length l
    go_wp2_with (first
      | (at_builtin; refine wpList_appRd rfl _ _ 23 rfl w2.heap.size 31 (.agg #[.string ByteArray.empty, .string ByteArray.empty, .bool false]) 3 40 Tryd.underlying23 (by kernel_rfl) rfl (by decide) _ _ _ rfl hown3 _ _ _ _ rfl (Rd.below h2 h24) (fcells_one _) (by unfold maxLen; omega) (by omega) (by omega) ?_; intro a5 c5 w5 hown5 hb5)
      | (at_builtin; refine wpList_appF rfl _ _ 23 rfl w2.heap.size Tryd.underlying23 (by kernel_rfl) _ _ _ rfl hown2 rfl (by omega) (by have := hb3.size; simp at this; omega) rfl ?_; intro a'' c'' w4 hown3 hb4 hz3; simp only [Nat.zero_add, List.nil_append] at hown3; have h24 : Below w2.heap.size w2 w4 := (hal.trans hb3).trans hb4; have hz4 := h24.size)
      | (at_builtin; refine wpList_appRd rfl _ _ 23 rfl w2.heap.size 31 (.agg #[.string ByteArray.empty, .string ByteArray.empty, .bool false]) 3 40 Tryd.underlying23 (by kernel_rfl) rfl (by decide) _ _ _ rfl (World.ownsRow_lit (base := w2.heap.size) (e := 31) (size := 3) w2 #[] 0 (Nat.le_refl _) (by decide) rfl) _ _ _ _ rfl (hT.below hal) (fcells_one _) (by unfold maxLen; omega) (by omega) (by simp) ?_; intro a' c' w3 hown2 hb3; simp only [Nat.zero_add, List.nil_append, List.toList_toArray, show fcells [] = [] from rfl] at hown2))
    have h25 := h24.trans hb5
    have hF5 : Fs w5.heap.size w5 (.slice a5 (1 + l.length) c5) ([starF] ++ l) := by have := Rd.own hown5; unfold Fs; rw [HN.out, fcells_append]; exact this
    have hw5 := Bl.tr hw2 h25
    have h5 := (h2.below h25).mono h25.size
    clear hT hal hb3 hb4 hown2 h2 hw2 h24 hown3 hown5 hb5 h25
    generalize [starF] ++ l = ll at *
    refine (Names_star ll HSt.out _ _ hF5 HB9.out).mono ?_
    rintro e w6 ⟨v6, rfl, r6, hb6⟩
    have hw6 := Bl.tr hw5 hb6
    have h6 := (h5.below hb6).mono hb6.size
    obtain ⟨p6, c6, rfl, -⟩ := r6.form
    clear hw5 h5 hb6 hF5
    go_wp2_with fail
    refine (Names_at l _ _ _ rfl Hst.out Hnr.out _ _ h6 (by omega)).mono ?_
    rintro e w7 ⟨v7, rfl, r7, hb7⟩
    have hw7 := Bl.tr hw6 hb7
    clear hw6 hb7 h6 r6
    obtain ⟨p7, c7, rfl, hm7⟩ := r7.form
    go_wp2
    go_loopw [11] (fun i wr => ∃ m : Nat, i = .int .i64 ((m : Int) + 1) ∧ m ≤ nr.length ∧ wr.heap = w7.heap ∧ Below w7.heap.size w7 wr) (fun i _ => nr.length + 1 - (intOf i).toNat)
    case atStart => exact ⟨0, rfl, Nat.zero_le _, rfl, Below.refl _ _⟩
    case round =>
      obtain ⟨m, rfl, hmm, hwe, hbel⟩ := hrel
      by_cases hlt : m + 1 < nr.length
      · obtain ⟨bb, ob, rfl, hbb, d0⟩ := (r7.below hbel).at m (by omega)
        obtain ⟨b2, o2, e2, -, d1⟩ := (r7.below hbel).at (m + 1) hlt
        simp only [Option.some.injEq, Addr.mk.injEq, and_true] at e2
        obtain ⟨rfl, rfl⟩ := e2
        have g := HP.out m hlt
        have i0 : (0 : Int) ≤ (m : Int) := by omega
        have i1 : (m : Int) + 1 < (nr.length : Int) := by omega
        have i2 : (m : Int) < (nr.length : Int) := by omega
        go_wp2_with fail
        go_quiet (fail)
        go_wp2
        go_roundw
        case rel => exact ⟨m + 1, by go_num, by omega, hwe, below_drewN hbel _⟩
        case measure => simp [intOf]; omega
      · go_wp2
        go_ret
        exact ⟨rfl, Bl.tr hw7 hbel⟩
end Go.Proofs.YtpbmmkonlboegaaDoor
