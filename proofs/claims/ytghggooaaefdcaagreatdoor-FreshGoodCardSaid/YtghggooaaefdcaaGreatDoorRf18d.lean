
/- The walks of layer 18's reference: what a request says of keeping; whether a kept answer is good (printed by rgoodgen.py). -/
import Derived.Test.YtghggooaaefdcaaGreatDoorRf18c
import Derived.Test.YtghggooaaefdcaaGreatDoorRf18b
import Derived.Test.YtghggooaaefdcaaGreatDoorFrs2
import Derived.Test.YtghggooaaefdcaaGreatDoorHop3
namespace Go.Dr
theorem same_comm (a b : Bytes) : same a b = same b a := by unfold same; rw [Bool.eq_iff_iff]; simp only [beq_iff_eq]; exact eq_comm
theorem among_any (n : Bytes) (l : List Bytes) : among n l = l.any fun x => same x n := by
  unfold among
  congr 1
  funext x
  exact same_comm n x
end Go.Dr
namespace Go.Proofs.YtghggooaaefdcaaGreatDoor
open Go.RowKit Go.Dr

theorem ret_rsays {W : World} {tmps : Array Value} {b : Nat} {c : Ctl} {R : Ending → World → Prop} (hs : tmps[2]? = some (.pointer (some ⟨b, 0, none⟩))) (h : Blk W b 71 c.cells) (hR : R (.returned c.val) W) :
    bodyPost Tryz.prog Tryz.f59 R .ret { tmps := tmps, defers := [] } W := by
  (have g0 : W.cell? ⟨b, 0, none⟩ = some (.bool c.ns) := h.cell 0; have g1 : W.cell? ⟨b, 1, none⟩ = some (.bool c.nc) := h.cell 1; have g2 : W.cell? ⟨b, 2, none⟩ = some (.bool c.nt) := h.cell 2; have g3 : W.cell? ⟨b, 3, none⟩ = some (.bool c.pu) := h.cell 3; have g4 : W.cell? ⟨b, 4, none⟩ = some (.bool c.pr) := h.cell 4; have g5 : W.cell? ⟨b, 5, none⟩ = some (.bool c.mr) := h.cell 5; have g6 : W.cell? ⟨b, 6, none⟩ = some (.bool c.px) := h.cell 6; have g7 : W.cell? ⟨b, 7, none⟩ = some (.bool c.oi) := h.cell 7; have g8 : W.cell? ⟨b, 8, none⟩ = some (.int .i64 c.ma) := h.cell 8; have g9 : W.cell? ⟨b, 9, none⟩ = some (.int .i64 c.sm) := h.cell 9; have g10 : W.cell? ⟨b, 10, none⟩ = some (.int .i64 c.mf) := h.cell 10; have g11 : W.cell? ⟨b, 11, none⟩ = some (.int .i64 c.ms) := h.cell 11)
  exact bodyPost_ret (v := c.val) (by simp [results, Tryz.results59, go_sem, hs, g0, g1, g2, g3, g4, g5, g6, g7, g8, g9, g10, g11]) rfl hR

set_option maxRecDepth 100000 in
set_option maxHeartbeats 4000000 in
theorem refSays_any (r : Rq) (l : List F) (w : World) (h : Fs w.heap.size w r.v l) (hl : fsum l ≤ 1099511627776) :
    Calls Tryz.prog 59 #[r.val] w fun e w' => e = .returned (saysC l).val ∧ Below w.heap.size w w' := by
  obtain ⟨pr, cr, hrv, -⟩ := h.form
  obtain ⟨rm, rs, ra, rp, rv⟩ := r
  simp only at hrv h
  subst hrv
  simp only [Rq.val]
  have HP : Hid (pragB l = (!hasB l cacheControl && among noCache (allOf l pragmaT))) := Lib.hid (by rw [among_any]; rfl)
  have HY := Lib.hid (fun h => says_yes (l := l) h)
  have HN := Lib.hid (fun h => says_no (l := l) h)
  generalize saysC l = C at *
  generalize pragB l = pb at *
  obtain ⟨w0, ew⟩ : ∃ w0 : World, w0 = (w.alloc (.cells #[S rm, S rs, S ra, S rp, .slice pr l.length cr] 24)).alloc (.cells #[.bool false, .bool false, .bool false, .bool false, .bool false, .bool false, .bool false, .bool false, .int .i64 0, .int .i64 0, .int .i64 0, .int .i64 0] 71) := ⟨_, rfl⟩
  have hQ0 : Blk w0 w.heap.size 24 #[S rm, S rs, S ra, S rp, .slice pr l.length cr] := by rw [ew]; exact (Blk.new _ _ _).alloc _
  have hZ0 : Blk w0 (w.heap.size + 1) 71 #[.bool false, .bool false, .bool false, .bool false, .bool false, .bool false, .bool false, .bool false, .int .i64 0, .int .i64 0, .int .i64 0, .int .i64 0] := by
    rw [ew]
    have := Blk.new (w.alloc (.cells #[S rm, S rs, S ra, S rp, .slice pr l.length cr] 24)) 71 #[.bool false, .bool false, .bool false, .bool false, .bool false, .bool false, .bool false, .bool false, .int .i64 0, .int .i64 0, .int .i64 0, .int .i64 0]
    rwa [show (w.alloc (.cells #[S rm, S rs, S ra, S rp, .slice pr l.length cr] 24)).heap.size = w.heap.size + 1 by simp] at this
  have hb0 : Below w.heap.size w w0 := by rw [ew]; exact ((Below.refl _ _).alloc (Nat.le_refl _) _).alloc (by simp) _
  have h0 := (h.below hb0).mono hb0.size
  have hz0 := hZ0.lt
  go_enter Tryz.func59, Tryz.ntmps59
  go_wp2_with fail
  rw [← ew]
  clear ew h
  refine (refRead_any l _ w0 h0 hl).mono ?_
  rintro e w1 ⟨rfl, hb1⟩
  have hQ1 := hQ0.on hb1
  have hZ1 := hZ0.on hb1
  have h1 := (h0.below hb1).mono hb1.size
  have hw1 := Bl.tr hb0 hb1
  have hz1 : w.heap.size + 1 < w1.heap.size := Nat.lt_of_lt_of_le hz0 hb1.size
  clear hQ0 hZ0 h0 hb0 hb1 hz0
  generalize readC l = c at *
  have hal : Below w1.heap.size w1 (w1.alloc (.cells #[.bool c.ns, .bool c.nc, .bool c.nt, .bool c.pu, .bool c.pr, .bool c.mr, .bool c.px, .bool c.oi, .int .i64 c.ma, .int .i64 c.sm, .int .i64 c.mf, .int .i64 c.ms] 71)) := (Below.refl _ _).alloc (Nat.le_refl _) _
  have hX2 := Blk.new w1 71 c.cells
  have hQ2 := hQ1.on hal
  have hZ2 := hZ1.on hal
  have h2 := (h1.below hal).mono hal.size
  have hw2 := Bl.tr hw1 hal
  have q4 : w1.cell? ⟨w.heap.size, 4, none⟩ = some (.slice pr l.length cr) := hQ1.cell 4
  have hlt := hQ1.lt
  go_wp2_with fail
  clear hlt
  change Calls _ _ _ (w1.alloc (.cells c.cells 71)) _
  change Blk (w1.alloc (.cells c.cells 71)) w.heap.size _ _ at hQ2
  change Blk (w1.alloc (.cells c.cells 71)) (w.heap.size + 1) _ _ at hZ2
  change Fs (w1.alloc (.cells c.cells 71)).heap.size (w1.alloc (.cells c.cells 71)) _ _ at h2
  change Below w.heap.size w (w1.alloc (.cells c.cells 71)) at hw2
  clear hal
  generalize w1.alloc (.cells c.cells 71) = w2 at *
  clear hQ1 hZ1 h1 hw1 q4
  generalize w1.heap.size = bc at *
  refine (refHas_any l cacheControl _ w2 h2 hl (by decide)).mono ?_
  rintro e w3 ⟨rfl, hb3⟩
  have hQ3 := hQ2.on hb3
  have hX3 := hX2.on hb3
  have hZ3 := hZ2.on hb3
  have h3 := (h2.below hb3).mono hb3.size
  have hw3 := Bl.tr hw2 hb3
  clear hQ2 hX2 hZ2 h2 hw2 hb3
  have hsa := ssum_all l pragmaT
  generalize hasB l cacheControl = hb at *
  have q4 : w3.cell? ⟨w.heap.size, 4, none⟩ = some (.slice pr l.length cr) := hQ3.cell 4
  cases hb with
  | false =>
    go_wp2_with fail
    refine (refAll_any l pragmaT _ w3 h3 hl (by decide)).mono ?_
    rintro e wa ⟨vt, rfl, hvt, hba⟩
    have hta := Ss.own hvt
    have hXa := hX3.on hba
    have hZa := hZ3.on hba
    have hwa := Bl.tr hw3 hba
    clear hvt hQ3 hX3 hZ3 h3 hw3 hba q4
    generalize allOf l pragmaT = tags at *
    go_wp2_with fail
    refine (Among_any noCache tags _ wa hta (by decide) (by omega)).mono ?_
    rintro e w4 ⟨rfl, hb4⟩
    have hX4 := hXa.on hb4
    have hZ4 := hZa.on hb4
    have hw4 := Bl.tr hwa hb4
    clear hXa hZa hwa hb4 hta
    generalize among noCache tags = a at *
    (have x0 : w4.cell? ⟨bc, 0, none⟩ = some (.bool c.ns) := hX4.cell 0; have x1 : w4.cell? ⟨bc, 1, none⟩ = some (.bool c.nc) := hX4.cell 1; have x2 : w4.cell? ⟨bc, 2, none⟩ = some (.bool c.nt) := hX4.cell 2; have x3 : w4.cell? ⟨bc, 3, none⟩ = some (.bool c.pu) := hX4.cell 3; have x4 : w4.cell? ⟨bc, 4, none⟩ = some (.bool c.pr) := hX4.cell 4; have x5 : w4.cell? ⟨bc, 5, none⟩ = some (.bool c.mr) := hX4.cell 5; have x6 : w4.cell? ⟨bc, 6, none⟩ = some (.bool c.px) := hX4.cell 6; have x7 : w4.cell? ⟨bc, 7, none⟩ = some (.bool c.oi) := hX4.cell 7; have x8 : w4.cell? ⟨bc, 8, none⟩ = some (.int .i64 c.ma) := hX4.cell 8; have x9 : w4.cell? ⟨bc, 9, none⟩ = some (.int .i64 c.sm) := hX4.cell 9; have x10 : w4.cell? ⟨bc, 10, none⟩ = some (.int .i64 c.mf) := hX4.cell 10; have x11 : w4.cell? ⟨bc, 11, none⟩ = some (.int .i64 c.ms) := hX4.cell 11)
    have fx := hX4.free 1
    have fz := hZ4.free
    (have z0 : w4.cell? ⟨w.heap.size + 1, 0, none⟩ = some (.bool false) := hZ4.cell 0; have z1 : w4.cell? ⟨w.heap.size + 1, 1, none⟩ = some (.bool false) := hZ4.cell 1; have z2 : w4.cell? ⟨w.heap.size + 1, 2, none⟩ = some (.bool false) := hZ4.cell 2; have z3 : w4.cell? ⟨w.heap.size + 1, 3, none⟩ = some (.bool false) := hZ4.cell 3; have z4 : w4.cell? ⟨w.heap.size + 1, 4, none⟩ = some (.bool false) := hZ4.cell 4; have z5 : w4.cell? ⟨w.heap.size + 1, 5, none⟩ = some (.bool false) := hZ4.cell 5; have z6 : w4.cell? ⟨w.heap.size + 1, 6, none⟩ = some (.bool false) := hZ4.cell 6; have z7 : w4.cell? ⟨w.heap.size + 1, 7, none⟩ = some (.bool false) := hZ4.cell 7; have z8 : w4.cell? ⟨w.heap.size + 1, 8, none⟩ = some (.int .i64 0) := hZ4.cell 8; have z9 : w4.cell? ⟨w.heap.size + 1, 9, none⟩ = some (.int .i64 0) := hZ4.cell 9; have z10 : w4.cell? ⟨w.heap.size + 1, 10, none⟩ = some (.int .i64 0) := hZ4.cell 10; have z11 : w4.cell? ⟨w.heap.size + 1, 11, none⟩ = some (.int .i64 0) := hZ4.cell 11)
    cases a with
    | true =>
      have HC := Lib.hid (HY.out (by rw [HP.out]; rfl))
      go_wp2_with fail
      have hR := (hZ4.other (p := ⟨bc, 1, none⟩) (by show w.heap.size + 1 ≠ bc; omega) (.bool true)).set12 (.bool c.ns) (.bool true) (.bool c.nt) (.bool c.pu) (.bool c.pr) (.bool c.mr) (.bool c.px) (.bool c.oi) (.int .i64 c.ma) (.int .i64 c.sm) (.int .i64 c.mf) (.int .i64 c.ms)
      have hB := Bl.set12 (hw4.setCell (p := ⟨bc, 1, none⟩) (by show w.heap.size ≤ bc; omega) (.bool true)) (b := w.heap.size + 1) (by omega) (.bool c.ns) (.bool true) (.bool c.nt) (.bool c.pu) (.bool c.pr) (.bool c.mr) (.bool c.px) (.bool c.oi) (.int .i64 c.ma) (.int .i64 c.sm) (.int .i64 c.mf) (.int .i64 c.ms)
      exact ret_rsays (c := { c with nc := true }) rfl hR ⟨by rw [HC.out], hB⟩
    | false =>
      have HC := Lib.hid (HN.out (by rw [HP.out]; rfl))
      go_wp2_with fail
      have hR := hZ4.set12 (.bool c.ns) (.bool c.nc) (.bool c.nt) (.bool c.pu) (.bool c.pr) (.bool c.mr) (.bool c.px) (.bool c.oi) (.int .i64 c.ma) (.int .i64 c.sm) (.int .i64 c.mf) (.int .i64 c.ms)
      have hB := Bl.set12 hw4 (b := w.heap.size + 1) (by omega) (.bool c.ns) (.bool c.nc) (.bool c.nt) (.bool c.pu) (.bool c.pr) (.bool c.mr) (.bool c.px) (.bool c.oi) (.int .i64 c.ma) (.int .i64 c.sm) (.int .i64 c.mf) (.int .i64 c.ms)
      exact ret_rsays (c := c) rfl hR ⟨by rw [HC.out], hB⟩
  | true =>
    have HC := Lib.hid (HN.out (by rw [HP.out]; rfl))
    clear hQ3
    (have x0 : w3.cell? ⟨bc, 0, none⟩ = some (.bool c.ns) := hX3.cell 0; have x1 : w3.cell? ⟨bc, 1, none⟩ = some (.bool c.nc) := hX3.cell 1; have x2 : w3.cell? ⟨bc, 2, none⟩ = some (.bool c.nt) := hX3.cell 2; have x3 : w3.cell? ⟨bc, 3, none⟩ = some (.bool c.pu) := hX3.cell 3; have x4 : w3.cell? ⟨bc, 4, none⟩ = some (.bool c.pr) := hX3.cell 4; have x5 : w3.cell? ⟨bc, 5, none⟩ = some (.bool c.mr) := hX3.cell 5; have x6 : w3.cell? ⟨bc, 6, none⟩ = some (.bool c.px) := hX3.cell 6; have x7 : w3.cell? ⟨bc, 7, none⟩ = some (.bool c.oi) := hX3.cell 7; have x8 : w3.cell? ⟨bc, 8, none⟩ = some (.int .i64 c.ma) := hX3.cell 8; have x9 : w3.cell? ⟨bc, 9, none⟩ = some (.int .i64 c.sm) := hX3.cell 9; have x10 : w3.cell? ⟨bc, 10, none⟩ = some (.int .i64 c.mf) := hX3.cell 10; have x11 : w3.cell? ⟨bc, 11, none⟩ = some (.int .i64 c.ms) := hX3.cell 11)
    have fz := hZ3.free
    (have z0 : w3.cell? ⟨w.heap.size + 1, 0, none⟩ = some (.bool false) := hZ3.cell 0; have z1 : w3.cell? ⟨w.heap.size + 1, 1, none⟩ = some (.bool false) := hZ3.cell 1; have z2 : w3.cell? ⟨w.heap.size + 1, 2, none⟩ = some (.bool false) := hZ3.cell 2; have z3 : w3.cell? ⟨w.heap.size + 1, 3, none⟩ = some (.bool false) := hZ3.cell 3; have z4 : w3.cell? ⟨w.heap.size + 1, 4, none⟩ = some (.bool false) := hZ3.cell 4; have z5 : w3.cell? ⟨w.heap.size + 1, 5, none⟩ = some (.bool false) := hZ3.cell 5; have z6 : w3.cell? ⟨w.heap.size + 1, 6, none⟩ = some (.bool false) := hZ3.cell 6; have z7 : w3.cell? ⟨w.heap.size + 1, 7, none⟩ = some (.bool false) := hZ3.cell 7; have z8 : w3.cell? ⟨w.heap.size + 1, 8, none⟩ = some (.int .i64 0) := hZ3.cell 8; have z9 : w3.cell? ⟨w.heap.size + 1, 9, none⟩ = some (.int .i64 0) := hZ3.cell 9; have z10 : w3.cell? ⟨w.heap.size + 1, 10, none⟩ = some (.int .i64 0) := hZ3.cell 10; have z11 : w3.cell? ⟨w.heap.size + 1, 11, none⟩ = some (.int .i64 0) := hZ3.cell 11)
    go_wp2_with fail
    have hR := hZ3.set12 (.bool c.ns) (.bool c.nc) (.bool c.nt) (.bool c.pu) (.bool c.pr) (.bool c.mr) (.bool c.px) (.bool c.oi) (.int .i64 c.ma) (.int .i64 c.sm) (.int .i64 c.mf) (.int .i64 c.ms)
    have hB := Bl.set12 hw3 (b := w.heap.size + 1) (by omega) (.bool c.ns) (.bool c.nc) (.bool c.nt) (.bool c.pu) (.bool c.pr) (.bool c.mr) (.bool c.px) (.bool c.oi) (.int .i64 c.ma) (.int .i64 c.sm) (.int .i64 c.mf) (.int .i64 c.ms)
    exact ret_rsays (c := c) rfl hR ⟨by rw [HC.out], hB⟩

set_option maxRecDepth 100000 in
set_option maxHeartbeats 8000000 in
theorem refGood_any (r : Rq) (q : En) (lr lf : List F) (now : Int) (w : World) (hr : Fs w.heap.size w r.v lr) (hf : Fs w.heap.size w q.vf lf) (hl : fsum lr ≤ 1099511627776) (hl2 : fsum lf ≤ 1099511627776) :
    Calls Tryz.prog 25 #[r.val, q.val, .int .i64 now] w fun e w' => e = .returned (.bool (goodF lr lf q.st q.asked q.came now)) ∧ Below w.heap.size w w' := by
  have hS := fun w h => refSays_any r lr w h hl
  have hLi := fun w h => refLifetime_any q lf w h hl2
  have hAg := fun w h => refAge_any q lf now w h hl2
  obtain ⟨pr, cr, hrv, -⟩ := hr.form
  obtain ⟨pf, cf, hfv, -⟩ := hf.form
  obtain ⟨rm, rs, ra, rp, rv⟩ := r
  obtain ⟨key, vp, st, vf, body, asked, came⟩ := q
  simp only at hrv hfv hr hf hS hLi hAg ⊢
  subst hrv hfv
  simp only [Rq.val, En.val] at hS hLi hAg ⊢
  have HG : Hid (goodF lr lf st asked came now = goodB (saysC lr) (readC lf) (lifeF lf st came) (ageF lf asked came now)) := rfl
  have hal := ageF_le lf asked came now
  have hll := lifeF_le lf st came hl2
  have oa := saysC_ok lr
  have ob := readC_ok lf
  have HR := Lib.hid (fun w h => refRead_any lf (.slice pf lf.length cf) w h hl2)
  have HS := Lib.hid hS
  have HLi := Lib.hid hLi
  have HAg := Lib.hid hAg
  clear hS hLi hAg
  generalize goodF lr lf st asked came now = G at *
  generalize saysC lr = a at *
  generalize readC lf = b at *
  generalize lifeF lf st came = life at *
  generalize ageF lf asked came now = age at *
  obtain ⟨w0, ew⟩ : ∃ w0 : World, w0 = (w.alloc (.cells #[S rm, S rs, S ra, S rp, .slice pr lr.length cr] 24)).alloc (.cells #[S key, vp, .int .i64 st, .slice pf lf.length cf, S body, .int .i64 asked, .int .i64 came] 27) := ⟨_, rfl⟩
  have hQ0 : Blk w0 w.heap.size 24 #[S rm, S rs, S ra, S rp, .slice pr lr.length cr] := by rw [ew]; exact (Blk.new _ _ _).alloc _
  have hE0 : Blk w0 (w.heap.size + 1) 27 #[S key, vp, .int .i64 st, .slice pf lf.length cf, S body, .int .i64 asked, .int .i64 came] := by
    rw [ew]
    have := Blk.new (w.alloc (.cells #[S rm, S rs, S ra, S rp, .slice pr lr.length cr] 24)) 27 #[S key, vp, .int .i64 st, .slice pf lf.length cf, S body, .int .i64 asked, .int .i64 came]
    rwa [show (w.alloc (.cells #[S rm, S rs, S ra, S rp, .slice pr lr.length cr] 24)).heap.size = w.heap.size + 1 by simp] at this
  have hb0 : Below w.heap.size w w0 := by rw [ew]; exact ((Below.refl _ _).alloc (Nat.le_refl _) _).alloc (by simp) _
  have hr0 := (hr.below hb0).mono hb0.size
  have hf0 := (hf.below hb0).mono hb0.size
  have hz0 := hE0.lt
  go_enter Tryz.func25, Tryz.ntmps25
  go_wp2_with fail
  rw [← ew]
  clear ew hr hf
  (have x0 : w0.cell? ⟨w.heap.size, 0, none⟩ = some (S rm) := hQ0.cell 0; have x1 : w0.cell? ⟨w.heap.size, 1, none⟩ = some (S rs) := hQ0.cell 1; have x2 : w0.cell? ⟨w.heap.size, 2, none⟩ = some (S ra) := hQ0.cell 2; have x3 : w0.cell? ⟨w.heap.size, 3, none⟩ = some (S rp) := hQ0.cell 3; have x4 : w0.cell? ⟨w.heap.size, 4, none⟩ = some (.slice pr lr.length cr) := hQ0.cell 4)
  (have y0 : w0.cell? ⟨w.heap.size + 1, 0, none⟩ = some (S key) := hE0.cell 0; have y1 : w0.cell? ⟨w.heap.size + 1, 1, none⟩ = some (vp) := hE0.cell 1; have y2 : w0.cell? ⟨w.heap.size + 1, 2, none⟩ = some (.int .i64 st) := hE0.cell 2; have y3 : w0.cell? ⟨w.heap.size + 1, 3, none⟩ = some (.slice pf lf.length cf) := hE0.cell 3; have y4 : w0.cell? ⟨w.heap.size + 1, 4, none⟩ = some (S body) := hE0.cell 4; have y5 : w0.cell? ⟨w.heap.size + 1, 5, none⟩ = some (.int .i64 asked) := hE0.cell 5; have y6 : w0.cell? ⟨w.heap.size + 1, 6, none⟩ = some (.int .i64 came) := hE0.cell 6)
  refine (HS.out w0 hr0).mono ?_
  rintro e w1 ⟨rfl, hb1⟩
  have hw1 := Bl.tr hb0 hb1
  have hE1 := hE0.on hb1
  have hf1 := (hf0.below hb1).mono hb1.size
  have hal1 : Below w1.heap.size w1 (w1.alloc (.cells a.cells 71)) := (Below.refl _ _).alloc (Nat.le_refl _) _
  have hA2 := Blk.new w1 71 a.cells
  have hE2 := hE1.on hal1
  have hf2 := (hf1.below hal1).mono hal1.size
  have hw2 := Bl.tr hw1 hal1
  have hlt := hE1.lt
  clear x0 x1 x2 x3 x4 y0 y1 y2 y3 y4 y5 y6 hQ0 hr0 hf0 hE0 hb0 hz0 hb1 HS
  (have y0 : w1.cell? ⟨w.heap.size + 1, 0, none⟩ = some (S key) := hE1.cell 0; have y1 : w1.cell? ⟨w.heap.size + 1, 1, none⟩ = some (vp) := hE1.cell 1; have y2 : w1.cell? ⟨w.heap.size + 1, 2, none⟩ = some (.int .i64 st) := hE1.cell 2; have y3 : w1.cell? ⟨w.heap.size + 1, 3, none⟩ = some (.slice pf lf.length cf) := hE1.cell 3; have y4 : w1.cell? ⟨w.heap.size + 1, 4, none⟩ = some (S body) := hE1.cell 4; have y5 : w1.cell? ⟨w.heap.size + 1, 5, none⟩ = some (.int .i64 asked) := hE1.cell 5; have y6 : w1.cell? ⟨w.heap.size + 1, 6, none⟩ = some (.int .i64 came) := hE1.cell 6)
  go_wp2_with fail
  change Calls _ _ _ (w1.alloc (.cells a.cells 71)) _
  clear y0 y1 y2 y3 y4 y5 y6 hlt hE1 hf1 hw1 hal1
  generalize w1.alloc (.cells a.cells 71) = w2 at *
  generalize w1.heap.size = b7 at *
  refine (HR.out w2 hf2).mono ?_
  rintro e w3 ⟨rfl, hb3⟩
  have hw3 := Bl.tr hw2 hb3
  have hE3 := hE2.on hb3
  have hA3 := hA2.on hb3
  have hf3 := (hf2.below hb3).mono hb3.size
  have hal3 : Below w3.heap.size w3 (w3.alloc (.cells b.cells 71)) := (Below.refl _ _).alloc (Nat.le_refl _) _
  have hB4 := Blk.new w3 71 b.cells
  have hE4 := hE3.on hal3
  have hA4 := hA3.on hal3
  have hf4 := (hf3.below hal3).mono hal3.size
  have hw4 := Bl.tr hw3 hal3
  have hlt := hE3.lt
  clear hE2 hA2 hf2 hw2 hb3 HR
  (have y0 : w3.cell? ⟨w.heap.size + 1, 0, none⟩ = some (S key) := hE3.cell 0; have y1 : w3.cell? ⟨w.heap.size + 1, 1, none⟩ = some (vp) := hE3.cell 1; have y2 : w3.cell? ⟨w.heap.size + 1, 2, none⟩ = some (.int .i64 st) := hE3.cell 2; have y3 : w3.cell? ⟨w.heap.size + 1, 3, none⟩ = some (.slice pf lf.length cf) := hE3.cell 3; have y4 : w3.cell? ⟨w.heap.size + 1, 4, none⟩ = some (S body) := hE3.cell 4; have y5 : w3.cell? ⟨w.heap.size + 1, 5, none⟩ = some (.int .i64 asked) := hE3.cell 5; have y6 : w3.cell? ⟨w.heap.size + 1, 6, none⟩ = some (.int .i64 came) := hE3.cell 6)
  go_wp2_with fail
  change Calls _ _ _ (w3.alloc (.cells b.cells 71)) _
  clear y0 y1 y2 y3 y4 y5 y6 hlt hE3 hA3 hf3 hw3 hal3
  generalize w3.alloc (.cells b.cells 71) = w4 at *
  generalize w3.heap.size = b8 at *
  refine (HLi.out w4 hf4).mono ?_
  rintro e w5 ⟨rfl, hb5⟩
  have hw5 := Bl.tr hw4 hb5
  have hE5 := hE4.on hb5
  have hA5 := hA4.on hb5
  have hB5 := hB4.on hb5
  have hf5 := (hf4.below hb5).mono hb5.size
  clear hw4 hE4 hA4 hB4 hf4 hb5 HLi
  (have y0 : w5.cell? ⟨w.heap.size + 1, 0, none⟩ = some (S key) := hE5.cell 0; have y1 : w5.cell? ⟨w.heap.size + 1, 1, none⟩ = some (vp) := hE5.cell 1; have y2 : w5.cell? ⟨w.heap.size + 1, 2, none⟩ = some (.int .i64 st) := hE5.cell 2; have y3 : w5.cell? ⟨w.heap.size + 1, 3, none⟩ = some (.slice pf lf.length cf) := hE5.cell 3; have y4 : w5.cell? ⟨w.heap.size + 1, 4, none⟩ = some (S body) := hE5.cell 4; have y5 : w5.cell? ⟨w.heap.size + 1, 5, none⟩ = some (.int .i64 asked) := hE5.cell 5; have y6 : w5.cell? ⟨w.heap.size + 1, 6, none⟩ = some (.int .i64 came) := hE5.cell 6)
  go_wp2_with fail
  refine (HAg.out w5 hf5).mono ?_
  rintro e w6 ⟨rfl, hb6⟩
  have hw6 := Bl.tr hw5 hb6
  have hA6 := hA5.on hb6
  have hB6 := hB5.on hb6
  clear y0 y1 y2 y3 y4 y5 y6 hw5 hE5 hA5 hB5 hf5 hb6 HAg
  obtain ⟨ans, anc, ant, apu, apr, amr, apx, aoi, ama, asm', amf, ams⟩ := a
  obtain ⟨bns, bnc, bnt, bpu, bpr, bmr, bpx, boi, bma, bsm, bmf, bms⟩ := b
  obtain ⟨⟨oa1, oa2⟩, -, ⟨oa3, oa4⟩, oa5, oa6⟩ := oa
  obtain ⟨-, ⟨ob1, ob2⟩, -⟩ := ob
  simp only at oa1 oa2 oa3 oa4 oa5 oa6 ob1 ob2
  have x1 : w6.cell? ⟨b7, 1, none⟩ = some (.bool anc) := hA6.cell 1
  have x8 : w6.cell? ⟨b7, 8, none⟩ = some (.int .i64 ama) := hA6.cell 8
  have x10 : w6.cell? ⟨b7, 10, none⟩ = some (.int .i64 amf) := hA6.cell 10
  have x11 : w6.cell? ⟨b7, 11, none⟩ = some (.int .i64 ams) := hA6.cell 11
  have z1 : w6.cell? ⟨b8, 1, none⟩ = some (.bool bnc) := hB6.cell 1
  have z5 : w6.cell? ⟨b8, 5, none⟩ = some (.bool bmr) := hB6.cell 5
  have z6 : w6.cell? ⟨b8, 6, none⟩ = some (.bool bpx) := hB6.cell 6
  have z9 : w6.cell? ⟨b8, 9, none⟩ = some (.int .i64 bsm) := hB6.cell 9
  clear hA6 hB6
  have GT := fun h => good_no (a := ⟨ans, anc, ant, apu, apr, amr, apx, aoi, ama, asm', amf, ams⟩) (b := ⟨bns, bnc, bnt, bpu, bpr, bmr, bpx, boi, bma, bsm, bmf, bms⟩) (life := life) (age := age) h
  have GN := fun h h2 => good_new (a := ⟨ans, anc, ant, apu, apr, amr, apx, aoi, ama, asm', amf, ams⟩) (b := ⟨bns, bnc, bnt, bpu, bpr, bmr, bpx, boi, bma, bsm, bmf, bms⟩) (life := life) (age := age) h h2
  have GO := fun h h2 => good_old (a := ⟨ans, anc, ant, apu, apr, amr, apx, aoi, ama, asm', amf, ams⟩) (b := ⟨bns, bnc, bnt, bpu, bpr, bmr, bpx, boi, bma, bsm, bmf, bms⟩) (life := life) (age := age) h h2
  unfold GoodNo at GT GN GO
  simp only at GT GN GO
  have GT := Lib.hid GT
  have GN := Lib.hid GN
  have GO := Lib.hid GO
  have no : ∀ x : Bool, G = x → x = G := fun _ h => h.symm
  clear no
  cases anc with
  | true =>
    have HX := Lib.hid (HG.out.trans (GT.out (.inl rfl)))
    go_wp2
    go_ret
    exact ⟨ret_bool HX.out.symm, hw6⟩
  | false =>
  cases bnc with
  | true =>
    have HX := Lib.hid (HG.out.trans (GT.out (.inr (.inl rfl))))
    go_wp2
    go_ret
    exact ⟨ret_bool HX.out.symm, hw6⟩
  | false =>
  by_cases h1 : 0 ≤ ama
  · by_cases h2 : ama < (age : Int)
    · have HX := Lib.hid (HG.out.trans (GT.out (.inr (.inr (.inl ⟨h1, h2⟩)))))
      go_wp2
      go_ret
      exact ⟨ret_bool HX.out.symm, hw6⟩
    · by_cases h3 : 0 ≤ amf
      · by_cases h4 : (life : Int) - age < amf
        · have HX := Lib.hid (HG.out.trans (GT.out (.inr (.inr (.inr ⟨h3, h4⟩)))))
          go_wp2
          go_ret
          exact ⟨ret_bool HX.out.symm, hw6⟩
        · have HNo : Hid (¬ (false = true ∨ false = true ∨ (0 ≤ ama ∧ ama < (age : Int)) ∨ (0 ≤ amf ∧ (life : Int) - age < amf))) := Lib.hid (by simp; omega)
          by_cases hn : age < life
          · have HX := Lib.hid (HG.out.trans (GN.out HNo.out hn))
            have g1 : decide (age < life) = true := by simpa using hn
            clear hn
            go_wp2
            go_ret
            exact ⟨ret_bool HX.out.symm, hw6⟩
          · have HX := HG.out.trans (GO.out HNo.out hn)
            have g1 : decide (age < life) = false := by simpa using hn
            clear hn
            by_cases h5 : 0 ≤ ams
            · by_cases h6 : (age : Int) - life ≤ ams
              · rw [decide_eq_true (p := 0 ≤ ams ∧ (age : Int) - life ≤ ams) ⟨h5, h6⟩] at HX
                have HXh := Lib.hid HX
                clear HX
                cases bmr <;> cases bpx
                all_goals
                  go_wp2
                  all_goals go_ret
                  all_goals exact ⟨ret_bool (by rw [HXh.out]; simp [*]), hw6⟩
              · first
                | (exfalso; rw [decide_eq_false_iff_not] at g1; omega)
                | (rw [decide_eq_false (p := 0 ≤ ams ∧ (age : Int) - life ≤ ams) (fun e => h6 e.2)] at HX
                   have HXh := Lib.hid HX
                   clear HX
                   go_wp2
                   go_ret
                   exact ⟨ret_bool (by rw [HXh.out]; simp), hw6⟩)
            · rw [decide_eq_false (p := 0 ≤ ams ∧ (age : Int) - life ≤ ams) (fun e => h5 e.1)] at HX
              have HXh := Lib.hid HX
              clear HX
              go_wp2
              go_ret
              exact ⟨ret_bool (by rw [HXh.out]; simp), hw6⟩
      · have HNo : Hid (¬ (false = true ∨ false = true ∨ (0 ≤ ama ∧ ama < (age : Int)) ∨ (0 ≤ amf ∧ (life : Int) - age < amf))) := Lib.hid (by simp; omega)
        by_cases hn : age < life
        · have HX := Lib.hid (HG.out.trans (GN.out HNo.out hn))
          have g1 : decide (age < life) = true := by simpa using hn
          clear hn
          go_wp2
          go_ret
          exact ⟨ret_bool HX.out.symm, hw6⟩
        · have HX := HG.out.trans (GO.out HNo.out hn)
          have g1 : decide (age < life) = false := by simpa using hn
          clear hn
          by_cases h5 : 0 ≤ ams
          · by_cases h6 : (age : Int) - life ≤ ams
            · rw [decide_eq_true (p := 0 ≤ ams ∧ (age : Int) - life ≤ ams) ⟨h5, h6⟩] at HX
              have HXh := Lib.hid HX
              clear HX
              cases bmr <;> cases bpx
              all_goals
                go_wp2
                all_goals go_ret
                all_goals exact ⟨ret_bool (by rw [HXh.out]; simp [*]), hw6⟩
            · first
              | (exfalso; rw [decide_eq_false_iff_not] at g1; omega)
              | (rw [decide_eq_false (p := 0 ≤ ams ∧ (age : Int) - life ≤ ams) (fun e => h6 e.2)] at HX
                 have HXh := Lib.hid HX
                 clear HX
                 go_wp2
                 go_ret
                 exact ⟨ret_bool (by rw [HXh.out]; simp), hw6⟩)
          · rw [decide_eq_false (p := 0 ≤ ams ∧ (age : Int) - life ≤ ams) (fun e => h5 e.1)] at HX
            have HXh := Lib.hid HX
            clear HX
            go_wp2
            go_ret
            exact ⟨ret_bool (by rw [HXh.out]; simp), hw6⟩
  · by_cases h3 : 0 ≤ amf
    · by_cases h4 : (life : Int) - age < amf
      · have HX := Lib.hid (HG.out.trans (GT.out (.inr (.inr (.inr ⟨h3, h4⟩)))))
        go_wp2
        go_ret
        exact ⟨ret_bool HX.out.symm, hw6⟩
      · have HNo : Hid (¬ (false = true ∨ false = true ∨ (0 ≤ ama ∧ ama < (age : Int)) ∨ (0 ≤ amf ∧ (life : Int) - age < amf))) := Lib.hid (by simp; omega)
        by_cases hn : age < life
        · have HX := Lib.hid (HG.out.trans (GN.out HNo.out hn))
          have g1 : decide (age < life) = true := by simpa using hn
          clear hn
          go_wp2
          go_ret
          exact ⟨ret_bool HX.out.symm, hw6⟩
        · have HX := HG.out.trans (GO.out HNo.out hn)
          have g1 : decide (age < life) = false := by simpa using hn
          clear hn
          by_cases h5 : 0 ≤ ams
          · by_cases h6 : (age : Int) - life ≤ ams
            · rw [decide_eq_true (p := 0 ≤ ams ∧ (age : Int) - life ≤ ams) ⟨h5, h6⟩] at HX
              have HXh := Lib.hid HX
              clear HX
              cases bmr <;> cases bpx
              all_goals
                go_wp2
                all_goals go_ret
                all_goals exact ⟨ret_bool (by rw [HXh.out]; simp [*]), hw6⟩
            · first
              | (exfalso; rw [decide_eq_false_iff_not] at g1; omega)
              | (rw [decide_eq_false (p := 0 ≤ ams ∧ (age : Int) - life ≤ ams) (fun e => h6 e.2)] at HX
                 have HXh := Lib.hid HX
                 clear HX
                 go_wp2
                 go_ret
                 exact ⟨ret_bool (by rw [HXh.out]; simp), hw6⟩)
          · rw [decide_eq_false (p := 0 ≤ ams ∧ (age : Int) - life ≤ ams) (fun e => h5 e.1)] at HX
            have HXh := Lib.hid HX
            clear HX
            go_wp2
            go_ret
            exact ⟨ret_bool (by rw [HXh.out]; simp), hw6⟩
    · have HNo : Hid (¬ (false = true ∨ false = true ∨ (0 ≤ ama ∧ ama < (age : Int)) ∨ (0 ≤ amf ∧ (life : Int) - age < amf))) := Lib.hid (by simp; omega)
      by_cases hn : age < life
      · have HX := Lib.hid (HG.out.trans (GN.out HNo.out hn))
        have g1 : decide (age < life) = true := by simpa using hn
        clear hn
        go_wp2
        go_ret
        exact ⟨ret_bool HX.out.symm, hw6⟩
      · have HX := HG.out.trans (GO.out HNo.out hn)
        have g1 : decide (age < life) = false := by simpa using hn
        clear hn
        by_cases h5 : 0 ≤ ams
        · by_cases h6 : (age : Int) - life ≤ ams
          · rw [decide_eq_true (p := 0 ≤ ams ∧ (age : Int) - life ≤ ams) ⟨h5, h6⟩] at HX
            have HXh := Lib.hid HX
            clear HX
            cases bmr <;> cases bpx
            all_goals
              go_wp2
              all_goals go_ret
              all_goals exact ⟨ret_bool (by rw [HXh.out]; simp [*]), hw6⟩
          · first
            | (exfalso; rw [decide_eq_false_iff_not] at g1; omega)
            | (rw [decide_eq_false (p := 0 ≤ ams ∧ (age : Int) - life ≤ ams) (fun e => h6 e.2)] at HX
               have HXh := Lib.hid HX
               clear HX
               go_wp2
               go_ret
               exact ⟨ret_bool (by rw [HXh.out]; simp), hw6⟩)
        · rw [decide_eq_false (p := 0 ≤ ams ∧ (age : Int) - life ≤ ams) (fun e => h5 e.1)] at HX
          have HXh := Lib.hid HX
          clear HX
          go_wp2
          go_ret
          exact ⟨ret_bool (by rw [HXh.out]; simp), hw6⟩
end Go.Proofs.YtghggooaaefdcaaGreatDoor
