
/- The walks of the reference of layer 20: whether a 304 is about an answer. -/
import Derived.Test.YtpbmmkonlboegaaDoorRen5
namespace Go.Proofs.YtpbmmkonlboegaaDoor
open Go.RowKit Go.Dr

set_option maxRecDepth 100000 in
set_option maxHeartbeats 4000000 in
theorem refFits_any (q : En) (list le : List F) (vl : Value) (b : Bool) (hb : fitsB list le = b) (w : World) (hl : Fs w.heap.size w vl list) (hf : Fs w.heap.size w q.vf le) (h1 : fsum list ≤ 1099511627776) (h2 : fsum le ≤ 1099511627776) :
    Calls Tryd.prog 17 #[q.val, vl] w fun e w' => e = .returned (.bool b) ∧ Below w.heap.size w w' := by
  obtain ⟨pl, cl, rfl, -⟩ := hl.form
  obtain ⟨pf, cf, hfv, -⟩ := hf.form
  obtain ⟨key, vp, st, vf, body, asked, came⟩ := q
  simp only at hfv hf
  subst hfv
  have HY := Lib.hid hb
  clear hb
  have hQ := Blk.new w 25 #[S key, vp, .int .i64 st, .slice pf le.length cf, S body, .int .i64 asked, .int .i64 came]
  have hbx : Below w.heap.size w (w.alloc (.cells #[S key, vp, .int .i64 st, .slice pf le.length cf, S body, .int .i64 asked, .int .i64 came] 25)) := (Below.refl _ _).alloc (Nat.le_refl _) _
  have hl2 := (hl.below hbx).mono hbx.size
  have hf2 := (hf.below hbx).mono hbx.size
  have ho1 := oneV_length (values list etagT)
  have ho2 := oneV_length (values le etagT)
  have ho3 := ssum_values list etagT
  have ho4 := ssum_values le etagT
  clear hl hf
  unfold En.val
  go_enter Tryd.func17, Tryd.ntmps17
  go_wp2_with fail
  generalize (w.alloc (.cells #[S key, vp, .int .i64 st, .slice pf le.length cf, S body, .int .i64 asked, .int .i64 came] 25)) = w2 at *
  refine (refHas_any list etagT _ w2 hl2 h1 (by decide)).mono ?_
  rintro e w3 ⟨rfl, hb3⟩
  have hw3 := Bl.tr hbx hb3
  have hl3 := (hl2.below hb3).mono hb3.size
  have hf3 := (hf2.below hb3).mono hb3.size
  have hQ3 := hQ.on hb3
  clear hbx hl2 hf2 hQ hb3
  cases hE : hasB list etagT with
  | true =>
    have HR : Hid ((oneB (values list etagT) && (oneB (values le etagT) && (bareT (oneV (values list etagT)) == bareT (oneV (values le etagT))))) = b) := by show _ = _; rw [← HY.out, fitsB, hE, if_pos rfl]; rfl
    clear hE
    go_wp2_with fail
    refine (refOne_any list etagT _ w3 hl3 h1 (by decide)).mono ?_
    rintro e w4 ⟨rfl, hb4⟩
    have hw4 := Bl.tr hw3 hb4
    have hf4 := (hf3.below hb4).mono hb4.size
    have hQ4 := hQ3.on hb4
    have d3 := hQ4.cell 3
    simp at d3
    generalize oneV (values list etagT) = x1 at *
    generalize oneB (values list etagT) = b1 at *
    clear hw3 hl3 hf3 hQ3 hb4
    go_wp2_with fail
    refine (refOne_any le etagT _ w4 hf4 h2 (by decide)).mono ?_
    rintro e w5 ⟨rfl, hb5⟩
    have hw5 := Bl.tr hw4 hb5
    generalize oneV (values le etagT) = x2 at *
    generalize oneB (values le etagT) = b2 at *
    cases b1 with
    | false =>
      go_wp2
      go_ret
      exact ⟨ret_bool (by rw [← HR.out]; simp), hw5⟩
    | true =>
      cases b2 with
      | false =>
        go_wp2
        go_ret
        exact ⟨ret_bool (by rw [← HR.out]; simp), hw5⟩
      | true =>
        go_wp2_with fail
        refine (refBare_any x1 w5 (by unfold maxLen; omega)).mono ?_
        rintro e w6 ⟨rfl, rfl⟩
        go_wp2_with fail
        refine (refBare_any x2 w5 (by unfold maxLen; omega)).mono ?_
        rintro e w6 ⟨rfl, rfl⟩
        go_wp2
        go_ret
        exact ⟨ret_bool (by rw [← HR.out]; simp), hw5⟩
  | false =>
    have HE := Lib.hid hE
    clear hE
    go_wp2_with fail
    refine (refHas_any list lastT _ w3 hl3 h1 (by decide)).mono ?_
    rintro e w4 ⟨rfl, hb4⟩
    have hw4 := Bl.tr hw3 hb4
    have hl4 := (hl3.below hb4).mono hb4.size
    have hf4 := (hf3.below hb4).mono hb4.size
    have hQ4 := hQ3.on hb4
    clear hw3 hl3 hf3 hQ3 hb4
    cases hE : hasB list lastT with
    | true =>
      have HR : Hid ((oneB (values list lastT) && (oneB (values le lastT) && (oneV (values list lastT) == oneV (values le lastT)))) = b) := by show _ = _; rw [← HY.out, fitsB, HE.out, hE, if_neg (by simp), if_pos rfl]; rfl
      clear hE
      go_wp2_with fail
      refine (refOne_any list lastT _ w4 hl4 h1 (by decide)).mono ?_
      rintro e w5 ⟨rfl, hb5⟩
      have hw5 := Bl.tr hw4 hb5
      have hf5 := (hf4.below hb5).mono hb5.size
      have hQ5 := hQ4.on hb5
      have d3 := hQ5.cell 3
      simp at d3
      generalize oneV (values list lastT) = x1 at *
      generalize oneB (values list lastT) = b1 at *
      clear hw4 hl4 hf4 hQ4 hb5
      go_wp2_with fail
      refine (refOne_any le lastT _ w5 hf5 h2 (by decide)).mono ?_
      rintro e w6 ⟨rfl, hb6⟩
      have hw6 := Bl.tr hw5 hb6
      generalize oneV (values le lastT) = x2 at *
      generalize oneB (values le lastT) = b2 at *
      cases b1 with
      | false =>
        go_wp2
        go_ret
        exact ⟨ret_bool (by rw [← HR.out]; simp), hw6⟩
      | true =>
        cases b2 with
        | false =>
          go_wp2
          go_ret
          exact ⟨ret_bool (by rw [← HR.out]; simp), hw6⟩
        | true =>
          go_wp2
          go_ret
          exact ⟨ret_bool (by rw [← HR.out]; simp), hw6⟩
    | false =>
      have HR : Hid (true = b) := by show _ = _; rw [← HY.out, fitsB, HE.out, hE, if_neg (by simp), if_neg (by simp)]
      clear hE
      go_wp2
      go_ret
      exact ⟨ret_bool HR.out, hw4⟩
end Go.Proofs.YtpbmmkonlboegaaDoor
