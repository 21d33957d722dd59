
/- The walks of layer 20: what the client has by its date; what is given of an entry. -/
import Derived.Test.YtghggooaaefdcaaDoorRen7
import Derived.Test.YtghggooaaefdcaaDoorFrs1
import Derived.Test.YtghggooaaefdcaaDoorDig
namespace Go.Dr
/-- The moment of the one value of a name, and whether there is one. -/
def moV (l : List F) (name : Bytes) (came : Int) : Nat := if oneB (values l name) = true ∧ parseB (oneV (values l name)) (max came 0) = true then (parseF (oneV (values l name)) (max came 0)).1 else if oneB (values l name) = true then (parseF (oneV (values l name)) (max came 0)).1 else 0
def moB (l : List F) (name : Bytes) (came : Int) : Bool := oneB (values l name) && parseB (oneV (values l name)) (max came 0)
theorem mo_no {l : List F} {name : Bytes} {came : Int} (h : oneB (values l name) = false) : moV l name came = 0 ∧ moB l name came = false := by simp [moV, moB, h]
theorem mo_one {l : List F} {name : Bytes} {came : Int} (h : oneB (values l name) = true) : moV l name came = (parseF (oneV (values l name)) (max came 0)).1 ∧ moB l name came = parseB (oneV (values l name)) (max came 0) := by
  simp [moV, moB, h]
def getM : Bytes := [71, 69, 84]
def headM : Bytes := [72, 69, 65, 68]
def datName (lf : List F) : Bytes := if hasB lf lastT = true then lastT else dateT
def metS (lr lf : List F) (came : Int) : Bool := moB lr ifSinceT came && (moB lf (datName lf) came && decide (moV lf (datName lf) came ≤ moV lr ifSinceT came))
def lenT : Bytes := [99, 111, 110, 116, 101, 110, 116, 45, 108, 101, 110, 103, 116, 104]
def outF (st : Int) (lf : List F) (n : Nat) : List F := if hasB (without lf [ageT]) lenT = false ∧ st ≠ 204 then without lf [ageT] ++ [⟨lenT, digs n, false⟩] else without lf [ageT]
end Go.Dr
namespace Go.Proofs.YtghggooaaefdcaaDoor
open Go.RowKit Go.Dr

/-- Has the client the answer already? -/
def metF (m : Bytes) (st : Int) (lr lf : List F) (came : Int) : Bool :=
  if (m = getM ∨ m = headM) ∧ st = 200 then (if hasB lr ifNoneT = true then metT (allOf lr ifNoneT) (oneB (values lf etagT)) (oneV (values lf etagT)) else metS lr lf came) else false

set_option maxRecDepth 100000 in
set_option maxHeartbeats 1000000 in
theorem renMoment_any (q : En) (l : List F) (v : Value) (name : Bytes) (w : World) (h : Fs w.heap.size w v l) (hl : fsum l ≤ 1099511627776) (hn : name.length ≤ 1099511627776) :
    Calls Tryd.prog 88 #[q.val, v, S name] w fun e w' => e = .returned (.tuple #[.int .i64 (moV l name q.came : Nat), .bool (moB l name q.came)]) ∧ Below w.heap.size w w' := by
  obtain ⟨key, vp, st, vf, body, asked, came⟩ := q
  simp only
  have hQ := Blk.new w 28 (En.cells ⟨key, vp, st, vf, body, asked, came⟩)
  have hbx : Below w.heap.size w (w.alloc (.cells (En.cells ⟨key, vp, st, vf, body, asked, came⟩) 28)) := (Below.refl _ _).alloc (Nat.le_refl _) _
  have h1 := (h.below hbx).mono hbx.size
  have hO := oneV_length (values l name)
  have HS := ssum_values l name
  have hN := @mo_no l name came
  have hY := @mo_one l name came
  have HI := fun x => Lib.hid (parseB_int x (max came 0))
  have HP := fun x h => Lib.hid (fun w => Parse_any x (max came 0) w h)
  generalize moV l name came = mv at *
  generalize moB l name came = mb at *
  have HN := Lib.hid hN
  have HY := Lib.hid hY
  clear hN hY
  unfold En.val
  go_enter Tryd.func88, Tryd.ntmps88
  go_wp2_with fail
  refine (one_any l name _ _ h1 hl hn).mono ?_
  rintro e w1 ⟨rfl, hb1⟩
  have hw1 := Bl.tr hbx hb1
  have hQ1 := hQ.on hb1
  clear h1 hQ hbx hb1 h
  generalize oneV (values l name) = x at *
  cases hb : oneB (values l name) with
  | false =>
    have H1 := Lib.hid (HN.out hb).1
    have H2 := Lib.hid (HN.out hb).2
    clear hb HN HY HP HI
    go_wp2
    go_ret2
    exact ⟨by rw [H1.out, H2.out]; rfl, hw1⟩
  | true =>
    have H1 := Lib.hid (HY.out hb).1
    have H2 := Lib.hid (HY.out hb).2
    have C := HP x (by omega)
    have HI := HI x
    clear hb HN HY HP
    generalize parseB x (max came 0) = pb at *
    generalize parseF x (max came 0) = pr at *
    have c6 : w1.cell? ⟨w.heap.size, 6, none⟩ = some (.int .i64 came) := hQ1.cell 6
    go_wp2_with fail
    refine (C.out _).mono ?_
    rintro e w2 ⟨rfl, hb2⟩
    go_wp2
    go_ret2
    exact ⟨by rw [H1.out, H2.out, ← HI.out]; rfl, Bl.tr hw1 hb2⟩

set_option maxRecDepth 100000 in
set_option maxHeartbeats 4000000 in
theorem metNo_any (r : Rq) (q : En) (lr lf : List F) (hm : ¬ ((r.m = getM ∨ r.m = headM) ∧ q.st = 200)) (w : World) (hr : Fs w.heap.size w r.v lr) (hf : Fs w.heap.size w q.vf lf) :
    Calls Tryd.prog 63 #[r.val, q.val] w fun e w' => e = .returned (.bool false) ∧ Below w.heap.size w w' := by
  obtain ⟨pr, cr, hrv, -⟩ := hr.form
  obtain ⟨pf, cf, hfv, -⟩ := hf.form
  obtain ⟨rm, rs, ra, rp, rv⟩ := r
  obtain ⟨key, vp, st, vf, body, asked, came⟩ := q
  simp only at hrv hfv hr hf hm
  subst hrv hfv
  have hbx : Below w.heap.size w (w.alloc (.cells #[S rm, S rs, S ra, S rp, .slice pr lr.length cr] 67)) := (Below.refl _ _).alloc (Nat.le_refl _) _
  have hby := hbx.alloc hbx.size (.cells #[S key, vp, .int .i64 st, .slice pf lf.length cf, S body, .int .i64 asked, .int .i64 came] 28)
  simp only [Rq.val, En.val]
  have hc : ∃ b : Bool, (!rm == [71, 69, 84]) = b ∧ (b = false → (st != 200) = true) ∧ (b = true → ∃ c : Bool, (!rm == [72, 69, 65, 68]) = c ∧ (c = false → (st != 200) = true)) := by
    by_cases h1 : rm = getM
    · exact ⟨false, by simp [h1, getM], fun _ => by simp; exact fun e => hm ⟨.inl h1, e⟩, by simp⟩
    · refine ⟨true, by simpa [getM] using h1, by simp, fun _ => ?_⟩
      by_cases h2 : rm = headM
      · exact ⟨false, by simp [h2, headM], fun _ => by simp; exact fun e => hm ⟨.inr h2, e⟩⟩
      · exact ⟨true, by simpa [headM] using h2, by simp⟩
  obtain ⟨b, hb1, hb2, hb3⟩ := hc
  clear hm
  cases b with
  | false =>
    have g := hb2 rfl
    clear hb2 hb3
    go_enter Tryd.func63, Tryd.ntmps63
    go_wp2
    go_ret
    exact ⟨rfl, hby⟩
  | true =>
    obtain ⟨c, hc1, hc2⟩ := hb3 rfl
    clear hb2 hb3
    cases c with
    | false =>
      have g := hc2 rfl
      clear hc2
      go_enter Tryd.func63, Tryd.ntmps63
      go_wp2
      go_ret
      exact ⟨rfl, hby⟩
    | true =>
      clear hc2
      go_enter Tryd.func63, Tryd.ntmps63
      go_wp2
      go_ret
      exact ⟨rfl, hby⟩

set_option maxRecDepth 100000 in
set_option maxHeartbeats 4000000 in
theorem metSince_any (r : Rq) (q : En) (lr lf : List F) (hm : r.m = getM ∨ r.m = headM) (hst : q.st = 200) (hi : hasB lr ifNoneT = false) (w : World) (hr : Fs w.heap.size w r.v lr) (hf : Fs w.heap.size w q.vf lf) (hl : fsum lr ≤ 1099511627776) (hl2 : fsum lf ≤ 1099511627776) :
    Calls Tryd.prog 63 #[r.val, q.val] w fun e w' => e = .returned (.bool (metS lr lf q.came)) ∧ Below w.heap.size w w' := by
  have hMo1 := fun w h => renMoment_any q lr r.v ifSinceT w h hl (by decide)
  have hMo2 := fun w h => renMoment_any q lf q.vf lastT w h hl2 (by decide)
  have hMo3 := fun w h => renMoment_any q lf q.vf dateT w h hl2 (by decide)
  obtain ⟨pr, cr, hrv, -⟩ := hr.form
  obtain ⟨pf, cf, hfv, -⟩ := hf.form
  obtain ⟨rm, rs, ra, rp, rv⟩ := r
  obtain ⟨key, vp, st, vf, body, asked, came⟩ := q
  simp only at hrv hfv hr hf hm hst hMo1 hMo2 hMo3 ⊢
  subst hrv hfv hst
  simp only [Rq.val, En.val] at hMo1 hMo2 hMo3 ⊢
  have HMo1 := Lib.hid hMo1
  have HMo2 := Lib.hid hMo2
  have HMo3 := Lib.hid hMo3
  clear hMo1 hMo2 hMo3
  have HMS : Hid (metS lr lf came = (moB lr ifSinceT came && (moB lf (datName lf) came && decide (moV lf (datName lf) came ≤ moV lr ifSinceT came)))) := rfl
  have HON : Hid (datName lf = if hasB lf lastT = true then lastT else dateT) := rfl
  generalize metS lr lf came = ms at *
  have hQ := Blk.new (w.alloc (.cells #[S rm, S rs, S ra, S rp, .slice pr lr.length cr] 67)) 28 #[S key, vp, .int .i64 200, .slice pf lf.length cf, S body, .int .i64 asked, .int .i64 came]
  have hsz : (w.alloc (.cells #[S rm, S rs, S ra, S rp, .slice pr lr.length cr] 67)).heap.size = w.heap.size + 1 := by simp
  rw [hsz] at hQ
  have hbx : Below w.heap.size w (w.alloc (.cells #[S rm, S rs, S ra, S rp, .slice pr lr.length cr] 67)) := (Below.refl _ _).alloc (Nat.le_refl _) _
  have hby := hbx.alloc hbx.size (.cells #[S key, vp, .int .i64 200, .slice pf lf.length cf, S body, .int .i64 asked, .int .i64 came] 28)
  have hr1 := (hr.below hby).mono hby.size
  have hf1 := (hf.below hby).mono hby.size
  have HI := Lib.hid hi
  clear hi hr hf hbx hsz
  have hme : ∃ b : Bool, (!rm == [71, 69, 84]) = b ∧ (b = true → (!rm == [72, 69, 65, 68]) = false) := by
    rcases hm with e | e
    · exact ⟨false, by simp [e, getM], by simp⟩
    · exact ⟨true, by simp [e, headM], fun _ => by simp [e, headM]⟩
  obtain ⟨bm, hb1, hb2⟩ := hme
  clear hm
  cases bm
  all_goals
    first | have hb3 := hb2 rfl | skip
    clear hb2
    go_enter Tryd.func63, Tryd.ntmps63
    go_wp2_with fail
    go_quiet (fail)
    go_wp2_with fail
    have hr2 := hr1.drewN nq
    have hf2 := hf1.drewN nq
    have hw2 := Bl.drewN hby nq
    have hQ2 := hQ.drewN nq
    clear hr1 hf1 hby hQ
    generalize ((w.alloc (.cells #[S rm, S rs, S ra, S rp, .slice pr lr.length cr] 67)).alloc (.cells #[S key, vp, .int .i64 200, .slice pf lf.length cf, S body, .int .i64 asked, .int .i64 came] 28)).drewN nq = w2 at *
    refine (has_any lr ifNoneT _ _ hr2 hl (by decide)).mono ?_
    rintro e w3 ⟨rfl, hb3⟩
    rw [HI.out]
    have hw3 := Bl.tr hw2 hb3
    have hr3 := (hr2.below hb3).mono hb3.size
    have hf3 := (hf2.below hb3).mono hb3.size
    have hQ3 := hQ2.on hb3
    clear hw2 hr2 hf2 hQ2 hb3
    (have c0 : w3.cell? ⟨w.heap.size + 1, 0, none⟩ = some (S key) := hQ3.cell 0; have c1 : w3.cell? ⟨w.heap.size + 1, 1, none⟩ = some (vp) := hQ3.cell 1; have c2 : w3.cell? ⟨w.heap.size + 1, 2, none⟩ = some (.int .i64 200) := hQ3.cell 2; have c3 : w3.cell? ⟨w.heap.size + 1, 3, none⟩ = some (.slice pf lf.length cf) := hQ3.cell 3; have c4 : w3.cell? ⟨w.heap.size + 1, 4, none⟩ = some (S body) := hQ3.cell 4; have c5 : w3.cell? ⟨w.heap.size + 1, 5, none⟩ = some (.int .i64 asked) := hQ3.cell 5; have c6 : w3.cell? ⟨w.heap.size + 1, 6, none⟩ = some (.int .i64 came) := hQ3.cell 6)
    go_wp2_with fail
    refine (HMo1.out _ hr3).mono ?_
    rintro e w4 ⟨rfl, hb4⟩
    have hw4 := Bl.tr hw3 hb4
    have hf4 := (hf3.below hb4).mono hb4.size
    have hQ4 := hQ3.on hb4
    clear hw3 hr3 hf3 hQ3 hb4 c0 c1 c2 c3 c4 c5 c6
    generalize moV lr ifSinceT came = v1 at *
    generalize moB lr ifSinceT came = b1 at *
    go_wp2_with fail
    refine (has_any lf lastT _ _ hf4 hl2 (by decide)).mono ?_
    rintro e w5 ⟨rfl, hb5⟩
    have hw5 := Bl.tr hw4 hb5
    have hf5 := (hf4.below hb5).mono hb5.size
    have hQ5 := hQ4.on hb5
    clear hw4 hf4 hQ4 hb5
    (have c0 : w5.cell? ⟨w.heap.size + 1, 0, none⟩ = some (S key) := hQ5.cell 0; have c1 : w5.cell? ⟨w.heap.size + 1, 1, none⟩ = some (vp) := hQ5.cell 1; have c2 : w5.cell? ⟨w.heap.size + 1, 2, none⟩ = some (.int .i64 200) := hQ5.cell 2; have c3 : w5.cell? ⟨w.heap.size + 1, 3, none⟩ = some (.slice pf lf.length cf) := hQ5.cell 3; have c4 : w5.cell? ⟨w.heap.size + 1, 4, none⟩ = some (S body) := hQ5.cell 4; have c5 : w5.cell? ⟨w.heap.size + 1, 5, none⟩ = some (.int .i64 asked) := hQ5.cell 5; have c6 : w5.cell? ⟨w.heap.size + 1, 6, none⟩ = some (.int .i64 came) := hQ5.cell 6)
    cases hh : hasB lf lastT with
    | true =>
      have HMSa : Hid (ms = (b1 && (moB lf lastT came && decide (moV lf lastT came ≤ v1)))) := by show _ = _; rw [HMS.out, HON.out, hh]; rfl
      clear hh HMS HON
      go_wp2_with fail
      refine (HMo2.out _ hf5).mono ?_
      rintro e w6 ⟨rfl, hb6⟩
      have hw6 := Bl.tr hw5 hb6
      generalize moV lf lastT came = v2 at *
      generalize moB lf lastT came = b2 at *
      cases b1 <;> cases b2
      all_goals
        go_wp2
        go_ret
        exact ⟨ret_bool (by rw [HMSa.out]; simp), hw6⟩
    | false =>
      have HMSa : Hid (ms = (b1 && (moB lf dateT came && decide (moV lf dateT came ≤ v1)))) := by show _ = _; rw [HMS.out, HON.out, hh]; rfl
      clear hh HMS HON
      go_wp2_with fail
      refine (HMo3.out _ hf5).mono ?_
      rintro e w6 ⟨rfl, hb6⟩
      have hw6 := Bl.tr hw5 hb6
      generalize moV lf dateT came = v2 at *
      generalize moB lf dateT came = b2 at *
      cases b1 <;> cases b2
      all_goals
        go_wp2
        go_ret
        exact ⟨ret_bool (by rw [HMSa.out]; simp), hw6⟩

theorem Met_any (r : Rq) (q : En) (lr lf : List F) (w : World) (hr : Fs w.heap.size w r.v lr) (hf : Fs w.heap.size w q.vf lf) (hl : fsum lr ≤ 1099511627776) (hl2 : fsum lf ≤ 1099511627776) :
    Calls Tryd.prog 63 #[r.val, q.val] w fun e w' => e = .returned (.bool (metF r.m q.st lr lf q.came)) ∧ Below w.heap.size w w' := by
  by_cases h : (r.m = getM ∨ r.m = headM) ∧ q.st = 200
  · by_cases hi : hasB lr ifNoneT = true
    · have := metTag_any r q lr lf h.1 h.2 hi w hr hf hl hl2
      unfold metF
      rw [if_pos h, if_pos hi]
      exact this
    · have := metSince_any r q lr lf h.1 h.2 (by simpa using hi) w hr hf hl hl2
      unfold metF
      rw [if_pos h, if_neg hi]
      exact this
  · have := metNo_any r q lr lf h w hr hf
    unfold metF
    rw [if_neg h]
    exact this
end Go.Proofs.YtghggooaaefdcaaDoor
