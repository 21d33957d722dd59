
/- VaryNames, VaryOdd, VaryPicks. -/
import Derived.Test.YtpbmmkonlboegaaDoorLaw17a
import Derived.Test.YtpbmmkonlboegaaDoorLawd0
namespace Go.Proofs.YtpbmmkonlboegaaDoor
open Go.RowKit Go.Dr

theorem Names_at (l : List F) (vs r : List Bytes) (b : Bool) (hv : namesOf l = vs) (hs : starred vs = b) (hn : namesR vs = r) (v : Value) (w : World) (h : Fs w.heap.size w v l) (hl : fsum l ≤ 1099511627776) :
    Calls Tryd.prog 22 #[v] w fun e w' => ∃ v, e = .returned (.tuple #[v, .bool b]) ∧ Ss w'.heap.size w' v r ∧ Below w.heap.size w w' := by
  refine (Names_any l v w h hl).mono ?_
  rintro e w' ⟨v, rfl, h1, h2⟩
  rw [hv] at h1
  rw [hn] at h1
  rw [hv, hs]
  exact ⟨v, rfl, Ss.own h1, h2⟩
theorem refNames_at (l : List F) (vs r : List Bytes) (b : Bool) (hv : namesOf l = vs) (hs : starred vs = b) (hn : namesR vs = r) (v : Value) (w : World) (h : Fs w.heap.size w v l) (hl : fsum l ≤ 1099511627776) :
    Calls Tryd.prog 23 #[v] w fun e w' => ∃ v, e = .returned (.tuple #[v, .bool b]) ∧ Ss w'.heap.size w' v r ∧ Below w.heap.size w w' := by
  refine (refNames_any l v w h hl).mono ?_
  rintro e w' ⟨v, rfl, h1, h2⟩
  rw [hv] at h1
  rw [hn] at h1
  rw [hv, hs]
  exact ⟨v, rfl, Ss.own h1, h2⟩

set_option maxRecDepth 100000 in
set_option maxHeartbeats 4000000 in
theorem VaryNames_any (l lr : List F) (r : Rq) (v : Value) (w : World) (h : Fs w.heap.size w v l) (hb : FOk l) (hr : r.Ok) (hv : Fs w.heap.size w r.v lr) :
    Calls Tryd.prog 5 #[v, r.val] w fun e w' => e = .returned (.bool true) ∧ Below w.heap.size w w' := by
  obtain ⟨pr, cr, hrv, -⟩ := hv.form
  obtain ⟨rm, rs, ra, rp, rv⟩ := r
  simp only at hrv
  subst hrv
  simp only [Rq.Ok] at hr
  have hbx : Below w.heap.size w (w.alloc (.cells #[S rm, S rs, S ra, S rp, .slice pr lr.length cr] 34)) := (Below.refl _ _).alloc (Nat.le_refl _) _
  have hq := Blk.new w 34 #[S rm, S rs, S ra, S rp, .slice pr lr.length cr]
  have h0 := (h.below hbx).mono hbx.size
  have hk := fun w => Key_any ⟨rm, rs, ra, rp, .slice pr lr.length cr⟩ w (by simp only; omega)
  have hk2 := fun w => refKey_any ⟨rm, rs, ra, rp, .slice pr lr.length cr⟩ w (by simp only; omega)
  simp only [Rq.val] at hk hk2 ⊢
  generalize hkt : rs ++ [58, 47, 47] ++ ra ++ rp = kt at hk hk2
  have HK := Lib.hid hk
  have HK2 := Lib.hid hk2
  have HB := Lib.hid hb
  clear hk hk2 hkt hb h hv
  cases hs : smallB l with
  | false =>
    have HS := Lib.hid hs
    clear hs
    go_enter Tryd.func5, Tryd.ntmps5
    go_wp2_with fail
    refine (awake17_any _).mono ?_
    rintro e w1 ⟨rfl, hb1⟩
    go_wp2_with fail
    refine (small17_any l _ HS.out v _ ((h0.below hb1).mono hb1.size) HB.out).mono ?_
    rintro e w2 ⟨rfl, hb2⟩
    go_wp2
    go_ret
    exact ⟨rfl, Bl.tr (Bl.tr hbx hb1) hb2⟩
  | true =>
    have hsum := smallB_sum hs
    have HS := Lib.hid hs
    clear hs
    generalize hvs : namesOf l = vs
    generalize hst : starred vs = b
    generalize hnr : namesR vs = nr
    have Hvs := Lib.hid hvs
    have Hst := Lib.hid hst
    have Hnr := Lib.hid hnr
    clear hvs hst hnr
    go_enter Tryd.func5, Tryd.ntmps5
    go_wp2_with fail
    refine (awake17_any _).mono ?_
    rintro e w1 ⟨rfl, hb1⟩
    have hw1 := Bl.tr hbx hb1
    have h1 := (h0.below hb1).mono hb1.size
    have q1 := hq.on hb1
    clear h0 hq hb1 hbx
    go_wp2_with fail
    refine (small17_any l _ HS.out v _ h1 HB.out).mono ?_
    rintro e w2 ⟨rfl, hb2⟩
    have hw2 := Bl.tr hw1 hb2
    have h2 := (h1.below hb2).mono hb2.size
    have q2 := q1.on hb2
    clear h1 q1 hb2 hw1
    go_wp2_with fail
    refine (Names_at l _ _ _ Hvs.out Hst.out Hnr.out v _ h2 (by omega)).mono ?_
    rintro e w3 ⟨v3, rfl, r3, hb3⟩
    have hw3 := Bl.tr hw2 hb3
    have h3 := (h2.below hb3).mono hb3.size
    have q3 := q2.on hb3
    clear h2 q2 hb3 hw2
    go_wp2_with fail
    refine (refNames_at l _ _ _ Hvs.out Hst.out Hnr.out v _ h3 (by omega)).mono ?_
    rintro e w4 ⟨v4, rfl, r4, hb4⟩
    have hw4 := Bl.tr hw3 hb4
    have r3' := (r3.below hb4).mono hb4.size
    have q4 := q3.on hb4
    clear h3 q3 hb4 hw3 r3
    have hbb : (b == b) = true := by simp
    have ql := q4.lt
    have c0 := q4.cell 0
    have c1 := q4.cell 1
    have c2 := q4.cell 2
    have c3 := q4.cell 3
    have c4 := q4.cell 4
    simp at c0 c1 c2 c3 c4
    go_wp2_with fail
    go_region_held3 (fun w' => w'.cell? ⟨w.heap.size, 0, none⟩ = some (S rm) ∧ w'.cell? ⟨w.heap.size, 1, none⟩ = some (S rs) ∧ w'.cell? ⟨w.heap.size, 2, none⟩ = some (S ra) ∧ w'.cell? ⟨w.heap.size, 3, none⟩ = some (S rp) ∧ w'.cell? ⟨w.heap.size, 4, none⟩ = some (.slice pr lr.length cr))
      (first | go_keep)
      (first
        | (go_at_call 24; refine (Texts_at _ _ _ _ r3'.drew r4.drew).mono ?_; rintro e w5 ⟨rfl, hb5⟩; replace hb5 := Bl.undrew hb5; have hw5 := Bl.tr hw4 hb5; have q5 := q4.on hb5; have c0 := q5.cell 0; have c1 := q5.cell 1; have c2 := q5.cell 2; have c3 := q5.cell 3; have c4 := q5.cell 4; simp at c0 c1 c2 c3 c4)
        | (go_at_call 25; refine (HK.out _).mono ?_; rintro e w6 ⟨rfl, hb6⟩; have hw6 := Bl.tr hw5 hb6; have q6 := q5.on hb6; have c0 := q6.cell 0; have c1 := q6.cell 1; have c2 := q6.cell 2; have c3 := q6.cell 3; have c4 := q6.cell 4; simp at c0 c1 c2 c3 c4)
        | (go_at_call 26; refine (HK2.out _).mono ?_; rintro e w7 ⟨rfl, hb7⟩; have hw7 := Bl.tr hw6 hb7; have q7 := q6.on hb7; have c0 := q7.cell 0; have c1 := q7.cell 1; have c2 := q7.cell 2; have c3 := q7.cell 3; have c4 := q7.cell 4; simp at c0 c1 c2 c3 c4))
    go_wp2
    go_ret
    exact ⟨rfl, hw7⟩
end Go.Proofs.YtpbmmkonlboegaaDoor
