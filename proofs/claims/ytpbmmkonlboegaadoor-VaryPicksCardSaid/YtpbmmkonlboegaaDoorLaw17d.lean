
/- VaryPicks. -/
import Derived.Test.YtpbmmkonlboegaaDoorLaw17c
namespace Go.Dr
theorem lowB_lowB (c : UInt8) : lowB (lowB c) = lowB c := by
  unfold lowB
  split
  · rename_i h
    rw [if_neg]
    intro h2
    have : (c + 32).toNat = c.toNat + 32 := by
      rw [UInt8.toNat_add]
      have : (32 : UInt8).toNat = 32 := rfl
      omega
    omega
  · rfl
theorem low_low (l : Bytes) : low (low l) = low l := by
  unfold low
  rw [List.map_map]
  congr 1
  funext c
  exact lowB_lowB c
theorem same_lowed (a n : Bytes) : same a (low n) = same a n := by unfold same; rw [low_low]
theorem values_low (l : List F) (n : Bytes) : values l (low n) = values l n := by
  unfold values
  congr 2
  funext f
  exact same_lowed f.n n
theorem allOf_low (l : List F) (n : Bytes) : allOf l (low n) = allOf l n := by unfold allOf; rw [values_low]
end Go.Dr
namespace Go.Proofs.YtpbmmkonlboegaaDoor
open Go.RowKit Go.Dr

theorem saysF_low (n : Bytes) (l : List F) : saysF (low n) l = saysF n l := by unfold saysF; rw [low_low, values_low, allOf_low]
theorem match_pick (ns : List Bytes) (l : List F) : matchP (pickP ns l) l = true := by
  unfold matchP pickP
  rw [List.all_eq_true]
  intro p hp
  obtain ⟨n, _, rfl⟩ := List.mem_map.1 hp
  have e : saysF (saysF n l).n l = saysF n l := saysF_low n l
  unfold saysOk
  rw [e]
  simp

def BsLe (ns : List Bytes) (k : Nat) : Prop := ∀ j (h : j < ns.length), j < k → ns[j].length ≤ 1000
theorem BsLe.zero (ns : List Bytes) : BsLe ns 0 := fun _ _ h => by omega
theorem BsLe.succ {ns : List Bytes} {k : Nat} (h : BsLe ns k) (hk : k < ns.length) (e : ns[k].length ≤ 1000) : BsLe ns (k + 1) := fun j hj hlt => by
  by_cases e2 : j = k
  · subst e2; exact e
  · exact h j hj (by omega)
theorem BsLe.sum {ns : List Bytes} (h : BsLe ns ns.length) : ssum ns ≤ ns.length * 1001 := by
  induction ns with
  | nil => simp [ssum]
  | cons a r ih =>
    rw [ssum_cons, List.length_cons]
    have h0 := h 0 (by simp) (by simp)
    simp at h0
    have := ih fun j hj hlt => by have := h (j + 1) (by simpa using hj) (by simpa using hlt); simpa using this
    omega
theorem BsLe.picked {ns : List Bytes} (h : BsLe ns ns.length) (l : List F) : ∀ p ∈ pickP ns l, p.n.length ≤ 549755813888 := by
  intro p hp
  obtain ⟨n, hn, rfl⟩ := List.mem_map.1 hp
  obtain ⟨k, hk, rfl⟩ := List.mem_iff_getElem.1 hn
  have := h k hk hk
  show (low _).length ≤ _
  rw [low_length]
  omega
theorem PSame_at (a : List F) (va vb : Value) (w : World) (ha : Fs w.heap.size w va a) (hb : Fs w.heap.size w vb a) :
    Calls Tryd.prog 32 #[va, vb] w fun e w' => e = .returned (.bool true) ∧ Below w.heap.size w w' :=
  (PSame_any a a va vb w ha hb).mono fun _ _ ⟨h1, h2⟩ => ⟨by rw [h1, beq_self_eq_true], h2⟩
theorem Match_at (ps l : List F) (b : Bool) (hm : matchP ps l = b) (vp v : Value) (w : World) (hp : Fs w.heap.size w vp ps) (h : Fs w.heap.size w v l) (hl : fsum l ≤ 1099511627776) (hs : ∀ p ∈ ps, p.n.length ≤ 549755813888) :
    Calls Tryd.prog 33 #[vp, v] w fun e w' => e = .returned (.bool b) ∧ Below w.heap.size w w' := by rw [← hm]; exact Match_any ps l vp v w hp h hl hs

set_option maxRecDepth 100000 in
set_option maxHeartbeats 4000000 in
theorem VaryPicks_any (ns : List Bytes) (la lb : List F) (vn va vb : Value) (w : World) (hn : Ss w.heap.size w vn ns) (ha : Fs w.heap.size w va la) (hab : FOk la) (hb : Fs w.heap.size w vb lb) (hbb : FOk lb) :
    Calls Tryd.prog 8 #[vn, va, vb] w fun e w' => e = .returned (.bool true) ∧ Below w.heap.size w w' := by
  have HA := Lib.hid hab
  have HB := Lib.hid hbb
  clear hab hbb
  obtain ⟨pn, cn, rfl, hmn⟩ := hn.form
  cases hs : smallB la with
  | false =>
    have HS := Lib.hid hs
    clear hs
    go_enter Tryd.func8, Tryd.ntmps8
    go_wp2_with fail
    refine (awake17_any _).mono ?_
    rintro e w1 ⟨rfl, hb1⟩
    go_wp2_with fail
    refine (small17_any la _ HS.out va _ ((ha.below hb1).mono hb1.size) HA.out).mono ?_
    rintro e w2 ⟨rfl, hb2⟩
    go_wp2
    go_ret
    exact ⟨rfl, Bl.tr hb1 hb2⟩
  | true =>
  have hsa := smallB_sum hs
  have HSa := Lib.hid hs
  clear hs
  cases hs : smallB lb with
  | false =>
    have HS := Lib.hid hs
    clear hs
    go_enter Tryd.func8, Tryd.ntmps8
    go_wp2_with fail
    refine (awake17_any _).mono ?_
    rintro e w1 ⟨rfl, hb1⟩
    go_wp2_with fail
    refine (small17_any la _ HSa.out va _ ((ha.below hb1).mono hb1.size) HA.out).mono ?_
    rintro e w2 ⟨rfl, hb2⟩
    have hw2 := Bl.tr hb1 hb2
    go_wp2_with fail
    refine (small17_any lb _ HS.out vb _ ((hb.below hw2).mono hw2.size) HB.out).mono ?_
    rintro e w3 ⟨rfl, hb3⟩
    go_wp2
    go_ret
    exact ⟨rfl, Bl.tr hw2 hb3⟩
  | true =>
  have hsb := smallB_sum hs
  have HSb := Lib.hid hs
  clear hs
  by_cases h50 : 50 < ns.length
  · have g50 : decide ((50 : Int) < (ns.length : Int)) = true := by rw [decide_eq_true_iff]; omega
    clear h50
    go_enter Tryd.func8, Tryd.ntmps8
    go_wp2_with fail
    refine (awake17_any _).mono ?_
    rintro e w1 ⟨rfl, hb1⟩
    go_wp2_with fail
    refine (small17_any la _ HSa.out va _ ((ha.below hb1).mono hb1.size) HA.out).mono ?_
    rintro e w2 ⟨rfl, hb2⟩
    have hw2 := Bl.tr hb1 hb2
    go_wp2_with fail
    refine (small17_any lb _ HSb.out vb _ ((hb.below hw2).mono hw2.size) HB.out).mono ?_
    rintro e w3 ⟨rfl, hb3⟩
    go_wp2
    go_ret
    exact ⟨rfl, Bl.tr hw2 hb3⟩
  have h50' : ns.length ≤ 50 := by omega
  have g50 : decide ((50 : Int) < (ns.length : Int)) = false := by rw [decide_eq_false_iff_not]; omega
  clear h50
  have HM := Lib.hid (match_pick ns la)
  go_enter Tryd.func8, Tryd.ntmps8
  go_wp2_with fail
  refine (awake17_any _).mono ?_
  rintro e w1 ⟨rfl, hb1⟩
  have hw1 := hb1
  replace ha := (ha.below hb1).mono hb1.size
  replace hb := (hb.below hb1).mono hb1.size
  replace hn := (hn.below hb1).mono hb1.size
  go_wp2_with fail
  refine (small17_any la _ HSa.out va _ ha HA.out).mono ?_
  rintro e w2 ⟨rfl, hb2⟩
  have hw2 := Bl.tr hw1 hb2
  replace ha := (ha.below hb2).mono hb2.size
  replace hb := (hb.below hb2).mono hb2.size
  replace hn := (hn.below hb2).mono hb2.size
  go_wp2_with fail
  refine (small17_any lb _ HSb.out vb _ hb HB.out).mono ?_
  rintro e w3 ⟨rfl, hb3⟩
  have hw3 := Bl.tr hw2 hb3
  replace ha := (ha.below hb3).mono hb3.size
  replace hb := (hb.below hb3).mono hb3.size
  replace hn := (hn.below hb3).mono hb3.size
  clear hb1 hb2 hb3 hw1 hw2
  go_wp2
  go_loopw [7] (fun i wr => ∃ k : Nat, i = .int .i64 k ∧ k ≤ ns.length ∧ Hid (BsLe ns k) ∧ wr = w3) (fun i _ => ns.length - (intOf i).toNat)
  case atStart => exact ⟨0, rfl, Nat.zero_le _, BsLe.zero ns, rfl⟩
  case round =>
    obtain ⟨k, rfl, hk, HN, hwe⟩ := hrel
    obtain rfl : w3 = wr := hwe.symm
    by_cases hlt : k < ns.length
    · obtain ⟨b, off, rfl, hbk, c0⟩ := hn.at k hlt
      by_cases a1 : 1000 < ns[k].length
      · have g1 : decide ((1000 : Int) < (ns[k].length : Int)) = true := by rw [decide_eq_true_iff]; omega
        clear a1
        go_wp2
        go_ret
        exact ⟨rfl, hw3⟩
      · have g1 : decide ((1000 : Int) < (ns[k].length : Int)) = false := by rw [decide_eq_false_iff_not]; omega
        have HN2 := Lib.hid (BsLe.succ HN.out hlt (by omega))
        clear a1
        go_wp2
        go_roundw
        case rel => exact ⟨k + 1, by go_num, by omega, HN2, trivial⟩
        case measure => simp [intOf]; omega
    · have hk' : k = ns.length := by omega
      subst hk'
      have hss := BsLe.sum HN.out
      have HP := Lib.hid (BsLe.picked HN.out la)
      go_wp2_with fail
      refine (Pick_any ns la _ va _ hn ha (by omega) (by omega)).mono ?_
      rintro e w4 ⟨vp, rfl, hp, hb4⟩
      have hw4 := Bl.tr hw3 hb4
      replace ha := (ha.below hb4).mono hb4.size
      replace hb := (hb.below hb4).mono hb4.size
      replace hn := (hn.below hb4).mono hb4.size
      replace hp := Fs.own hp
      go_wp2_with fail
      refine (refPick_any ns la _ va _ hn ha (by omega) (by omega)).mono ?_
      rintro e w5 ⟨vq, rfl, hq, hb5⟩
      have hw5 := Bl.tr hw4 hb5
      replace ha := (ha.below hb5).mono hb5.size
      replace hb := (hb.below hb5).mono hb5.size
      replace hp := (hp.below hb5).mono hb5.size
      replace hq := Fs.own hq
      generalize pickP ns la = ps at *
      go_wp2_with fail
      refine (PSame_at ps _ _ _ hp hq).mono ?_
      rintro e w6 ⟨rfl, hb6⟩
      have hw6 := Bl.tr hw5 hb6
      replace ha := (ha.below hb6).mono hb6.size
      replace hb := (hb.below hb6).mono hb6.size
      replace hp := (hp.below hb6).mono hb6.size
      replace hq := (hq.below hb6).mono hb6.size
      go_wp2_with fail
      refine (Match_any ps lb _ _ _ hq hb (by omega) HP.out).mono ?_
      rintro e w7 ⟨rfl, hb7⟩
      have hw7 := Bl.tr hw6 hb7
      replace ha := (ha.below hb7).mono hb7.size
      replace hb := (hb.below hb7).mono hb7.size
      replace hp := (hp.below hb7).mono hb7.size
      replace hq := (hq.below hb7).mono hb7.size
      go_wp2_with fail
      refine (refMatch_any ps lb _ _ _ hq hb (by omega) HP.out).mono ?_
      rintro e w8 ⟨rfl, hb8⟩
      have hw8 := Bl.tr hw7 hb8
      replace ha := (ha.below hb8).mono hb8.size
      replace hb := (hb.below hb8).mono hb8.size
      replace hp := (hp.below hb8).mono hb8.size
      replace hq := (hq.below hb8).mono hb8.size
      generalize matchP ps lb = q at *
      have hqq : (q == q) = true := by simp
      go_wp2_with fail
      refine (Match_at ps la _ HM.out _ _ _ hp ha (by omega) HP.out).mono ?_
      rintro e w9 ⟨rfl, hb9⟩
      have hw9 := Bl.tr hw8 hb9
      go_wp2
      go_ret
      exact ⟨rfl, hw9⟩
end Go.Proofs.YtpbmmkonlboegaaDoor
