
/- VaryOdd. -/
import Derived.Test.YtpbmmkonlboegaaDoorLaw17a
import Derived.Test.YtpbmmkonlboegaaDoorOpen2
namespace Go.Proofs.YtpbmmkonlboegaaDoor
open Go.RowKit Go.Dr

def NamesLe (ps : List F) (k : Nat) : Prop := ∀ j (h : j < ps.length), j < k → ps[j].n.length ≤ 1000
theorem NamesLe.zero (ps : List F) : NamesLe ps 0 := fun _ _ h => by omega
theorem NamesLe.succ {ps : List F} {k : Nat} (h : NamesLe ps k) (hk : k < ps.length) (e : ps[k].n.length ≤ 1000) : NamesLe ps (k + 1) := fun j hj hlt => by
  by_cases e2 : j = k
  · subst e2; exact e
  · exact h j hj (by omega)
theorem NamesLe.all {ps : List F} (h : NamesLe ps ps.length) : ∀ p ∈ ps, p.n.length ≤ 549755813888 := by
  intro p hp
  obtain ⟨k, hk, rfl⟩ := List.mem_iff_getElem.1 hp
  have := h k hk hk
  omega

set_option maxRecDepth 100000 in
set_option maxHeartbeats 4000000 in
theorem VaryOdd_any (ps l : List F) (vp v : Value) (w : World) (hp : Fs w.heap.size w vp ps) (hpb : FOk ps) (h : Fs w.heap.size w v l) (hb : FOk l) :
    Calls Tryd.prog 9 #[vp, v] w fun e w' => e = .returned (.bool true) ∧ Below w.heap.size w w' := by
  have HB := Lib.hid hb
  have HPB := Lib.hid hpb
  clear hb hpb
  obtain ⟨pp, cp, rfl, hmp⟩ := hp.form
  cases hs : smallB l with
  | false =>
    have HS := Lib.hid hs
    clear hs
    go_enter Tryd.func9, Tryd.ntmps9
    go_wp2_with fail
    refine (awake17_any _).mono ?_
    rintro e w1 ⟨rfl, hb1⟩
    go_wp2_with fail
    refine (small17_any l _ HS.out v _ ((h.below hb1).mono hb1.size) HB.out).mono ?_
    rintro e w2 ⟨rfl, hb2⟩
    go_wp2
    go_ret
    exact ⟨rfl, Bl.tr hb1 hb2⟩
  | true =>
    have hsum := smallB_sum hs
    have HS := Lib.hid hs
    clear hs
    by_cases h50 : 50 < ps.length
    · have g50 : decide ((50 : Int) < (ps.length : Int)) = true := by rw [decide_eq_true_iff]; omega
      clear h50
      go_enter Tryd.func9, Tryd.ntmps9
      go_wp2_with fail
      refine (awake17_any _).mono ?_
      rintro e w1 ⟨rfl, hb1⟩
      go_wp2_with fail
      refine (small17_any l _ HS.out v _ ((h.below hb1).mono hb1.size) HB.out).mono ?_
      rintro e w2 ⟨rfl, hb2⟩
      go_wp2
      go_ret
      exact ⟨rfl, Bl.tr hb1 hb2⟩
    · have g50 : decide ((50 : Int) < (ps.length : Int)) = false := by rw [decide_eq_false_iff_not]; omega
      clear h50
      go_enter Tryd.func9, Tryd.ntmps9
      go_wp2_with fail
      refine (awake17_any _).mono ?_
      rintro e w1 ⟨rfl, hb1⟩
      have h1 := (h.below hb1).mono hb1.size
      have p1 := (hp.below hb1).mono hb1.size
      clear h hp
      go_wp2_with fail
      refine (small17_any l _ HS.out v _ h1 HB.out).mono ?_
      rintro e w2 ⟨rfl, hb2⟩
      have hw2 := Bl.tr hb1 hb2
      have h2 := (h1.below hb2).mono hb2.size
      have p2 := (p1.below hb2).mono hb2.size
      clear h1 p1 hb1 hb2
      go_wp2
      go_loopw [5] (fun i wr => ∃ k : Nat, i = .int .i64 k ∧ k ≤ ps.length ∧ Hid (NamesLe ps k) ∧ wr = w2) (fun i _ => ps.length - (intOf i).toNat)
      case atStart => exact ⟨0, rfl, Nat.zero_le _, NamesLe.zero ps, rfl⟩
      case round =>
        obtain ⟨k, rfl, hk, HN, hwe⟩ := hrel
        obtain rfl : w2 = wr := hwe.symm
        by_cases hlt : k < ps.length
        · obtain ⟨b, off, rfl, hbb, c0, c1, c2⟩ := p2.at k hlt
          by_cases a1 : 1000 < ps[k].n.length
          · have g1 : decide ((1000 : Int) < (ps[k].n.length : Int)) = true := by rw [decide_eq_true_iff]; omega
            clear a1
            go_wp2
            go_ret
            exact ⟨rfl, hw2⟩
          · have g1 : decide ((1000 : Int) < (ps[k].n.length : Int)) = false := by rw [decide_eq_false_iff_not]; omega
            have HN2 := Lib.hid (NamesLe.succ HN.out hlt (by omega))
            by_cases a2 : 10000 < ps[k].v.length
            · have g2 : decide ((10000 : Int) < (ps[k].v.length : Int)) = true := by rw [decide_eq_true_iff]; omega
              clear a1 a2
              go_wp2
              go_ret
              exact ⟨rfl, hw2⟩
            · have g2 : decide ((10000 : Int) < (ps[k].v.length : Int)) = false := by rw [decide_eq_false_iff_not]; omega
              clear a1 a2
              go_wp2
              go_roundw
              case rel => exact ⟨k + 1, by go_num, by omega, HN2, trivial⟩
              case measure => simp [intOf]; omega
        · have hk' : k = ps.length := by omega
          subst hk'
          have HA := Lib.hid (NamesLe.all HN.out)
          go_wp2_with fail
          refine (Match_any ps l _ v _ p2 h2 (by omega) HA.out).mono ?_
          rintro e w3 ⟨rfl, hb3⟩
          have h3 := (h2.below hb3).mono hb3.size
          have p3 := (p2.below hb3).mono hb3.size
          go_wp2_with fail
          refine (refMatch_any ps l _ v _ p3 h3 (by omega) HA.out).mono ?_
          rintro e w4 ⟨rfl, hb4⟩
          generalize matchP ps l = q
          have hqq : (q == q) = true := by simp
          go_wp2
          go_ret
          exact ⟨rfl, Bl.tr (Bl.tr hw2 hb3) hb4⟩
end Go.Proofs.YtpbmmkonlboegaaDoor
