/- Parts of the proof of DealLacks_holds: the texts Frs2. -/
import Derived.Deep.DeepCutAuto
import Derived.Deep.RegionHeld3
import Derived.Test.YtahapblgmehngaaGreatDoorC15
import Derived.Test.YtahapblgmehngaaGreatDoorC14
set_option linter.unusedSimpArgs false
set_option linter.unusedVariables false
set_option linter.unnecessarySimpa false
namespace Go.Dr
open Go.RowKit
theorem says_yes {l : List F} (h : pragB l = true) : saysC l = { readC l with nc := true } := by unfold saysC; rw [if_pos h]
theorem says_no {l : List F} (h : pragB l = false) : saysC l = readC l := by unfold saysC; rw [if_neg (by rw [h]; simp)]
end Go.Dr
namespace Go.Proofs.YtahapblgmehngaaGreatDoor
open Go.RowKit Go.Dr

abbrev Zv : Array Value := #[.bool false, .bool false, .bool false, .bool false, .bool false, .bool false, .bool false, .bool false, .int .i64 0, .int .i64 0, .int .i64 0, .int .i64 0]
abbrev Zc : Obj := .cells Zv 80
theorem set12z {w : World} {g : Nat} (h : Blk w g 80 Zv) (b0 b1 b2 b3 b4 b5 b6 b7 b8 b9 b10 b11 : Value) : Blk ((((((((((((w.setCell ⟨g, 0, none⟩ b0).setCell ⟨g, 1, none⟩ b1).setCell ⟨g, 2, none⟩ b2).setCell ⟨g, 3, none⟩ b3).setCell ⟨g, 4, none⟩ b4).setCell ⟨g, 5, none⟩ b5).setCell ⟨g, 6, none⟩ b6).setCell ⟨g, 7, none⟩ b7).setCell ⟨g, 8, none⟩ b8).setCell ⟨g, 9, none⟩ b9).setCell ⟨g, 10, none⟩ b10).setCell ⟨g, 11, none⟩ b11) g 80 #[b0, b1, b2, b3, b4, b5, b6, b7, b8, b9, b10, b11] := Blk.set12 h b0 b1 b2 b3 b4 b5 b6 b7 b8 b9 b10 b11
theorem z12 {w : World} {b : Nat} (h : Blk w b 80 Zv) : w.cell? ⟨b, 0, none⟩ = some (.bool false) ∧ w.cell? ⟨b, 1, none⟩ = some (.bool false) ∧ w.cell? ⟨b, 2, none⟩ = some (.bool false) ∧ w.cell? ⟨b, 3, none⟩ = some (.bool false) ∧ w.cell? ⟨b, 4, none⟩ = some (.bool false) ∧ w.cell? ⟨b, 5, none⟩ = some (.bool false) ∧ w.cell? ⟨b, 6, none⟩ = some (.bool false) ∧ w.cell? ⟨b, 7, none⟩ = some (.bool false) ∧ w.cell? ⟨b, 8, none⟩ = some (.int .i64 0) ∧ w.cell? ⟨b, 9, none⟩ = some (.int .i64 0) ∧ w.cell? ⟨b, 10, none⟩ = some (.int .i64 0) ∧ w.cell? ⟨b, 11, none⟩ = some (.int .i64 0) :=
  ⟨h.cell 0, h.cell 1, h.cell 2, h.cell 3, h.cell 4, h.cell 5, h.cell 6, h.cell 7, h.cell 8, h.cell 9, h.cell 10, h.cell 11⟩
theorem req_ent {wx : World} {w : Nat} {rm rs ra rp key body : Bytes} {vr vp vf : Value} {st asked came : Int} (hQ : Blk wx w 28 #[S rm, S rs, S ra, S rp, vr]) (hE : Blk wx (w + 1) 36 #[S key, vp, .int .i64 st, vf, S body, .int .i64 asked, .int .i64 came]) :
    (wx.cell? ⟨w, 0, none⟩ = some (S rm) ∧ wx.cell? ⟨w, 1, none⟩ = some (S rs) ∧ wx.cell? ⟨w, 2, none⟩ = some (S ra) ∧ wx.cell? ⟨w, 3, none⟩ = some (S rp) ∧ wx.cell? ⟨w, 4, none⟩ = some (vr)) ∧ wx.cell? ⟨w + 1, 3, none⟩ = some vf :=
  ⟨⟨hQ.cell 0, hQ.cell 1, hQ.cell 2, hQ.cell 3, hQ.cell 4⟩, hE.cell 3⟩
theorem lifeF_le (l : List F) (st came : Int) (hl : fsum l ≤ 1099511627776) : lifeF l st came ≤ 1099511627776 := by
  have h1 := momV_le l expiresN came hl
  obtain ⟨h2, h3, -⟩ := readC_ok l
  unfold lifeF
  repeat' split
  all_goals omega
theorem ret_says {W : World} {tmps : Array Value} {b : Nat} {c : Ctl} {R : Ending → World → Prop} (hs : tmps[2]? = some (.pointer (some ⟨b, 0, none⟩))) (h : Blk W b 80 c.cells) (hR : R (.returned c.val) W) :
    bodyPost Tryz.prog Tryz.f54 R .ret { tmps := tmps, defers := [] } W := by
  (have g0 : W.cell? ⟨b, 0, none⟩ = some (.bool c.ns) := h.cell 0; have g1 : W.cell? ⟨b, 1, none⟩ = some (.bool c.nc) := h.cell 1; have g2 : W.cell? ⟨b, 2, none⟩ = some (.bool c.nt) := h.cell 2; have g3 : W.cell? ⟨b, 3, none⟩ = some (.bool c.pu) := h.cell 3; have g4 : W.cell? ⟨b, 4, none⟩ = some (.bool c.pr) := h.cell 4; have g5 : W.cell? ⟨b, 5, none⟩ = some (.bool c.mr) := h.cell 5; have g6 : W.cell? ⟨b, 6, none⟩ = some (.bool c.px) := h.cell 6; have g7 : W.cell? ⟨b, 7, none⟩ = some (.bool c.oi) := h.cell 7; have g8 : W.cell? ⟨b, 8, none⟩ = some (.int .i64 c.ma) := h.cell 8; have g9 : W.cell? ⟨b, 9, none⟩ = some (.int .i64 c.sm) := h.cell 9; have g10 : W.cell? ⟨b, 10, none⟩ = some (.int .i64 c.mf) := h.cell 10; have g11 : W.cell? ⟨b, 11, none⟩ = some (.int .i64 c.ms) := h.cell 11)
  exact bodyPost_ret (v := c.val) (by simp [results, Tryz.results54, go_sem, hs, g0, g1, g2, g3, g4, g5, g6, g7, g8, g9, g10, g11]) rfl hR

set_option maxRecDepth 100000 in
set_option maxHeartbeats 4000000 in
theorem Says_any (r : Rq) (l : List F) (w : World) (h : Fs w.heap.size w r.v l) (hl : fsum l ≤ 1099511627776) :
    Calls Tryz.prog 54 #[r.val] w fun e w' => e = .returned (saysC l).val ∧ Below w.heap.size w w' := by
  obtain ⟨pr, cr, hrv, -⟩ := h.form
  obtain ⟨rm, rs, ra, rp, rv⟩ := r
  simp only at hrv h
  subst hrv
  simp only [Rq.val]
  have HP : Hid (pragB l = (!decide (0 < (values l cacheControl).length) && (allOf l pragmaT).any fun x => same x noCache)) := rfl
  have HY := Lib.hid (fun h => says_yes (l := l) h)
  have HN := Lib.hid (fun h => says_no (l := l) h)
  generalize saysC l = C at *
  generalize pragB l = pb at *
  obtain ⟨w0, ew⟩ : ∃ w0 : World, w0 = (w.alloc (.cells #[S rm, S rs, S ra, S rp, .slice pr l.length cr] 28)).alloc (.cells #[.bool false, .bool false, .bool false, .bool false, .bool false, .bool false, .bool false, .bool false, .int .i64 0, .int .i64 0, .int .i64 0, .int .i64 0] 80) := ⟨_, rfl⟩
  have hQ0 : Blk w0 w.heap.size 28 #[S rm, S rs, S ra, S rp, .slice pr l.length cr] := by rw [ew]; exact (Blk.new _ _ _).alloc _
  have hZ0 : Blk w0 (w.heap.size + 1) 80 #[.bool false, .bool false, .bool false, .bool false, .bool false, .bool false, .bool false, .bool false, .int .i64 0, .int .i64 0, .int .i64 0, .int .i64 0] := by
    rw [ew]
    have := Blk.new (w.alloc (.cells #[S rm, S rs, S ra, S rp, .slice pr l.length cr] 28)) 80 #[.bool false, .bool false, .bool false, .bool false, .bool false, .bool false, .bool false, .bool false, .int .i64 0, .int .i64 0, .int .i64 0, .int .i64 0]
    rwa [show (w.alloc (.cells #[S rm, S rs, S ra, S rp, .slice pr l.length cr] 28)).heap.size = w.heap.size + 1 by simp] at this
  have hb0 : Below w.heap.size w w0 := by rw [ew]; exact ((Below.refl _ _).alloc (Nat.le_refl _) _).alloc (by simp) _
  have h0 := (h.below hb0).mono hb0.size
  have hz0 := hZ0.lt
  go_enter Tryz.func54, Tryz.ntmps54
  go_wp2_with fail
  rw [← ew]
  clear ew h
  refine (Read_any l _ w0 h0 hl).mono ?_
  rintro e w1 ⟨rfl, hb1⟩
  have hQ1 := hQ0.on hb1
  have hZ1 := hZ0.on hb1
  have h1 := (h0.below hb1).mono hb1.size
  have hw1 := Bl.tr hb0 hb1
  have hz1 : w.heap.size + 1 < w1.heap.size := Nat.lt_of_lt_of_le hz0 hb1.size
  clear hQ0 hZ0 h0 hb0 hb1 hz0
  generalize readC l = c at *
  have hal : Below w1.heap.size w1 (w1.alloc (.cells #[.bool c.ns, .bool c.nc, .bool c.nt, .bool c.pu, .bool c.pr, .bool c.mr, .bool c.px, .bool c.oi, .int .i64 c.ma, .int .i64 c.sm, .int .i64 c.mf, .int .i64 c.ms] 80)) := (Below.refl _ _).alloc (Nat.le_refl _) _
  have hX2 := Blk.new w1 80 c.cells
  have hQ2 := hQ1.on hal
  have hZ2 := hZ1.on hal
  have h2 := (h1.below hal).mono hal.size
  have hw2 := Bl.tr hw1 hal
  have q4 : w1.cell? ⟨w.heap.size, 4, none⟩ = some (.slice pr l.length cr) := hQ1.cell 4
  have hlt := hQ1.lt
  go_wp2_with fail
  clear hlt
  change Calls _ _ _ (w1.alloc (.cells c.cells 80)) _
  change Blk (w1.alloc (.cells c.cells 80)) w.heap.size _ _ at hQ2
  change Blk (w1.alloc (.cells c.cells 80)) (w.heap.size + 1) _ _ at hZ2
  change Fs (w1.alloc (.cells c.cells 80)).heap.size (w1.alloc (.cells c.cells 80)) _ _ at h2
  change Below w.heap.size w (w1.alloc (.cells c.cells 80)) at hw2
  clear hal
  generalize w1.alloc (.cells c.cells 80) = w2 at *
  clear hQ1 hZ1 h1 hw1 q4
  generalize w1.heap.size = bc at *
  refine (Values_any l cacheControl _ w2 h2 hl (by decide)).mono ?_
  rintro e w3 ⟨vv, rfl, hvv, hb3⟩
  obtain ⟨pa, ca, rfl, hm⟩ := (Ss.own hvv).form
  have hQ3 := hQ2.on hb3
  have hX3 := hX2.on hb3
  have hZ3 := hZ2.on hb3
  have h3 := (h2.below hb3).mono hb3.size
  have hw3 := Bl.tr hw2 hb3
  clear hQ2 hX2 hZ2 h2 hw2 hb3 hvv
  generalize (values l cacheControl).length = n at *
  have q4 : w3.cell? ⟨w.heap.size, 4, none⟩ = some (.slice pr l.length cr) := hQ3.cell 4
  by_cases hn : n = 0
  · subst hn
    go_wp2_with fail
    refine (Has_any l pragmaT noCache _ w3 h3 hl (by decide) (by decide)).mono ?_
    rintro e w4 ⟨rfl, hb4⟩
    have hX4 := hX3.on hb4
    have hZ4 := hZ3.on hb4
    have hw4 := Bl.tr hw3 hb4
    clear hQ3 hX3 hZ3 h3 hw3 hb4 q4
    generalize ((allOf l pragmaT).any fun x => same x noCache) = a at *
    (have x0 : w4.cell? ⟨bc, 0, none⟩ = some (.bool c.ns) := hX4.cell 0; have x1 : w4.cell? ⟨bc, 1, none⟩ = some (.bool c.nc) := hX4.cell 1; have x2 : w4.cell? ⟨bc, 2, none⟩ = some (.bool c.nt) := hX4.cell 2; have x3 : w4.cell? ⟨bc, 3, none⟩ = some (.bool c.pu) := hX4.cell 3; have x4 : w4.cell? ⟨bc, 4, none⟩ = some (.bool c.pr) := hX4.cell 4; have x5 : w4.cell? ⟨bc, 5, none⟩ = some (.bool c.mr) := hX4.cell 5; have x6 : w4.cell? ⟨bc, 6, none⟩ = some (.bool c.px) := hX4.cell 6; have x7 : w4.cell? ⟨bc, 7, none⟩ = some (.bool c.oi) := hX4.cell 7; have x8 : w4.cell? ⟨bc, 8, none⟩ = some (.int .i64 c.ma) := hX4.cell 8; have x9 : w4.cell? ⟨bc, 9, none⟩ = some (.int .i64 c.sm) := hX4.cell 9; have x10 : w4.cell? ⟨bc, 10, none⟩ = some (.int .i64 c.mf) := hX4.cell 10; have x11 : w4.cell? ⟨bc, 11, none⟩ = some (.int .i64 c.ms) := hX4.cell 11)
    have fx := hX4.free 1
    have fz := hZ4.free
    (have z0 : w4.cell? ⟨w.heap.size + 1, 0, none⟩ = some (.bool false) := hZ4.cell 0; have z1 : w4.cell? ⟨w.heap.size + 1, 1, none⟩ = some (.bool false) := hZ4.cell 1; have z2 : w4.cell? ⟨w.heap.size + 1, 2, none⟩ = some (.bool false) := hZ4.cell 2; have z3 : w4.cell? ⟨w.heap.size + 1, 3, none⟩ = some (.bool false) := hZ4.cell 3; have z4 : w4.cell? ⟨w.heap.size + 1, 4, none⟩ = some (.bool false) := hZ4.cell 4; have z5 : w4.cell? ⟨w.heap.size + 1, 5, none⟩ = some (.bool false) := hZ4.cell 5; have z6 : w4.cell? ⟨w.heap.size + 1, 6, none⟩ = some (.bool false) := hZ4.cell 6; have z7 : w4.cell? ⟨w.heap.size + 1, 7, none⟩ = some (.bool false) := hZ4.cell 7; have z8 : w4.cell? ⟨w.heap.size + 1, 8, none⟩ = some (.int .i64 0) := hZ4.cell 8; have z9 : w4.cell? ⟨w.heap.size + 1, 9, none⟩ = some (.int .i64 0) := hZ4.cell 9; have z10 : w4.cell? ⟨w.heap.size + 1, 10, none⟩ = some (.int .i64 0) := hZ4.cell 10; have z11 : w4.cell? ⟨w.heap.size + 1, 11, none⟩ = some (.int .i64 0) := hZ4.cell 11)
    cases a with
    | true =>
      have HC := Lib.hid (HY.out (by rw [HP.out]; rfl))
      go_wp2_with fail
      have hR := (hZ4.other (p := ⟨bc, 1, none⟩) (by show w.heap.size + 1 ≠ bc; omega) (.bool true)).set12 (.bool c.ns) (.bool true) (.bool c.nt) (.bool c.pu) (.bool c.pr) (.bool c.mr) (.bool c.px) (.bool c.oi) (.int .i64 c.ma) (.int .i64 c.sm) (.int .i64 c.mf) (.int .i64 c.ms)
      have hB := Bl.set12 (hw4.setCell (p := ⟨bc, 1, none⟩) (by show w.heap.size ≤ bc; omega) (.bool true)) (b := w.heap.size + 1) (by omega) (.bool c.ns) (.bool true) (.bool c.nt) (.bool c.pu) (.bool c.pr) (.bool c.mr) (.bool c.px) (.bool c.oi) (.int .i64 c.ma) (.int .i64 c.sm) (.int .i64 c.mf) (.int .i64 c.ms)
      exact ret_says (c := { c with nc := true }) rfl hR ⟨by rw [HC.out], hB⟩
    | false =>
      have HC := Lib.hid (HN.out (by rw [HP.out]; rfl))
      go_wp2_with fail
      have hR := hZ4.set12 (.bool c.ns) (.bool c.nc) (.bool c.nt) (.bool c.pu) (.bool c.pr) (.bool c.mr) (.bool c.px) (.bool c.oi) (.int .i64 c.ma) (.int .i64 c.sm) (.int .i64 c.mf) (.int .i64 c.ms)
      have hB := Bl.set12 hw4 (b := w.heap.size + 1) (by omega) (.bool c.ns) (.bool c.nc) (.bool c.nt) (.bool c.pu) (.bool c.pr) (.bool c.mr) (.bool c.px) (.bool c.oi) (.int .i64 c.ma) (.int .i64 c.sm) (.int .i64 c.mf) (.int .i64 c.ms)
      exact ret_says (c := c) rfl hR ⟨by rw [HC.out], hB⟩
  · have g0 : ((n : Int) == 0) = false := by rw [beq_eq_false_iff_ne]; omega
    have HC := Lib.hid (HN.out (by rw [HP.out]; simp; omega))
    clear hn hQ3
    (have x0 : w3.cell? ⟨bc, 0, none⟩ = some (.bool c.ns) := hX3.cell 0; have x1 : w3.cell? ⟨bc, 1, none⟩ = some (.bool c.nc) := hX3.cell 1; have x2 : w3.cell? ⟨bc, 2, none⟩ = some (.bool c.nt) := hX3.cell 2; have x3 : w3.cell? ⟨bc, 3, none⟩ = some (.bool c.pu) := hX3.cell 3; have x4 : w3.cell? ⟨bc, 4, none⟩ = some (.bool c.pr) := hX3.cell 4; have x5 : w3.cell? ⟨bc, 5, none⟩ = some (.bool c.mr) := hX3.cell 5; have x6 : w3.cell? ⟨bc, 6, none⟩ = some (.bool c.px) := hX3.cell 6; have x7 : w3.cell? ⟨bc, 7, none⟩ = some (.bool c.oi) := hX3.cell 7; have x8 : w3.cell? ⟨bc, 8, none⟩ = some (.int .i64 c.ma) := hX3.cell 8; have x9 : w3.cell? ⟨bc, 9, none⟩ = some (.int .i64 c.sm) := hX3.cell 9; have x10 : w3.cell? ⟨bc, 10, none⟩ = some (.int .i64 c.mf) := hX3.cell 10; have x11 : w3.cell? ⟨bc, 11, none⟩ = some (.int .i64 c.ms) := hX3.cell 11)
    have fz := hZ3.free
    (have z0 : w3.cell? ⟨w.heap.size + 1, 0, none⟩ = some (.bool false) := hZ3.cell 0; have z1 : w3.cell? ⟨w.heap.size + 1, 1, none⟩ = some (.bool false) := hZ3.cell 1; have z2 : w3.cell? ⟨w.heap.size + 1, 2, none⟩ = some (.bool false) := hZ3.cell 2; have z3 : w3.cell? ⟨w.heap.size + 1, 3, none⟩ = some (.bool false) := hZ3.cell 3; have z4 : w3.cell? ⟨w.heap.size + 1, 4, none⟩ = some (.bool false) := hZ3.cell 4; have z5 : w3.cell? ⟨w.heap.size + 1, 5, none⟩ = some (.bool false) := hZ3.cell 5; have z6 : w3.cell? ⟨w.heap.size + 1, 6, none⟩ = some (.bool false) := hZ3.cell 6; have z7 : w3.cell? ⟨w.heap.size + 1, 7, none⟩ = some (.bool false) := hZ3.cell 7; have z8 : w3.cell? ⟨w.heap.size + 1, 8, none⟩ = some (.int .i64 0) := hZ3.cell 8; have z9 : w3.cell? ⟨w.heap.size + 1, 9, none⟩ = some (.int .i64 0) := hZ3.cell 9; have z10 : w3.cell? ⟨w.heap.size + 1, 10, none⟩ = some (.int .i64 0) := hZ3.cell 10; have z11 : w3.cell? ⟨w.heap.size + 1, 11, none⟩ = some (.int .i64 0) := hZ3.cell 11)
    go_wp2_with fail
    have hR := hZ3.set12 (.bool c.ns) (.bool c.nc) (.bool c.nt) (.bool c.pu) (.bool c.pr) (.bool c.mr) (.bool c.px) (.bool c.oi) (.int .i64 c.ma) (.int .i64 c.sm) (.int .i64 c.mf) (.int .i64 c.ms)
    have hB := Bl.set12 hw3 (b := w.heap.size + 1) (by omega) (.bool c.ns) (.bool c.nc) (.bool c.nt) (.bool c.pu) (.bool c.pr) (.bool c.mr) (.bool c.px) (.bool c.oi) (.int .i64 c.ma) (.int .i64 c.sm) (.int .i64 c.mf) (.int .i64 c.ms)
    exact ret_says (c := c) rfl hR ⟨by rw [HC.out], hB⟩

set_option maxRecDepth 100000 in
set_option maxHeartbeats 8000000 in
theorem Good_any (r : Rq) (q : En) (lr lf : List F) (now : Int) (w : World) (hr : Fs w.heap.size w r.v lr) (hf : Fs w.heap.size w q.vf lf) (hl : fsum lr ≤ 1099511627776) (hl2 : fsum lf ≤ 1099511627776) :
    Calls Tryz.prog 67 #[r.val, q.val, .int .i64 now] w fun e w' => e = .returned (.bool (goodF lr lf q.st q.asked q.came now)) ∧ Below w.heap.size w w' := by
  have hS := fun w h => Says_any r lr w h hl
  have hLi := fun w h => Lifetime_any q lf w h hl2
  have hAg := fun w h => Age_any q lf now w h hl2
  obtain ⟨pr, cr, hrv, -⟩ := hr.form
  obtain ⟨pf, cf, hfv, -⟩ := hf.form
  obtain ⟨rm, rs, ra, rp, rv⟩ := r
  obtain ⟨key, vp, st, vf, body, asked, came⟩ := q
  simp only at hrv hfv hr hf hS hLi hAg ⊢
  subst hrv hfv
  simp only [Rq.val, En.val] at hS hLi hAg ⊢
  have HG : Hid (goodF lr lf st asked came now = goodB (saysC lr) (readC lf) (lifeF lf st came) (ageF lf asked came now)) := rfl
  have hal := ageF_le lf asked came now
  have hll := lifeF_le lf st came hl2
  have oa := saysC_ok lr
  have ob := readC_ok lf
  have HR := Lib.hid (fun w h => Read_any lf (.slice pf lf.length cf) w h hl2)
  have HS := Lib.hid hS
  have HLi := Lib.hid hLi
  have HAg := Lib.hid hAg
  clear hS hLi hAg
  generalize goodF lr lf st asked came now = G at *
  generalize saysC lr = a at *
  generalize readC lf = b at *
  generalize lifeF lf st came = life at *
  generalize ageF lf asked came now = age at *
  obtain ⟨w0, ew⟩ : ∃ w0 : World, w0 = (w.alloc (.cells #[S rm, S rs, S ra, S rp, .slice pr lr.length cr] 28)).alloc (.cells #[S key, vp, .int .i64 st, .slice pf lf.length cf, S body, .int .i64 asked, .int .i64 came] 36) := ⟨_, rfl⟩
  have hQ0 : Blk w0 w.heap.size 28 #[S rm, S rs, S ra, S rp, .slice pr lr.length cr] := by rw [ew]; exact (Blk.new _ _ _).alloc _
  have hE0 : Blk w0 (w.heap.size + 1) 36 #[S key, vp, .int .i64 st, .slice pf lf.length cf, S body, .int .i64 asked, .int .i64 came] := by
    rw [ew]
    have := Blk.new (w.alloc (.cells #[S rm, S rs, S ra, S rp, .slice pr lr.length cr] 28)) 36 #[S key, vp, .int .i64 st, .slice pf lf.length cf, S body, .int .i64 asked, .int .i64 came]
    rwa [show (w.alloc (.cells #[S rm, S rs, S ra, S rp, .slice pr lr.length cr] 28)).heap.size = w.heap.size + 1 by simp] at this
  have hb0 : Below w.heap.size w w0 := by rw [ew]; exact ((Below.refl _ _).alloc (Nat.le_refl _) _).alloc (by simp) _
  have hr0 := (hr.below hb0).mono hb0.size
  have hf0 := (hf.below hb0).mono hb0.size
  have hz0 := hE0.lt
  go_enter Tryz.func67, Tryz.ntmps67
  go_wp2_with fail
  rw [← ew]
  clear ew hr hf
  (have x0 : w0.cell? ⟨w.heap.size, 0, none⟩ = some (S rm) := hQ0.cell 0; have x1 : w0.cell? ⟨w.heap.size, 1, none⟩ = some (S rs) := hQ0.cell 1; have x2 : w0.cell? ⟨w.heap.size, 2, none⟩ = some (S ra) := hQ0.cell 2; have x3 : w0.cell? ⟨w.heap.size, 3, none⟩ = some (S rp) := hQ0.cell 3; have x4 : w0.cell? ⟨w.heap.size, 4, none⟩ = some (.slice pr lr.length cr) := hQ0.cell 4)
  (have y0 : w0.cell? ⟨w.heap.size + 1, 0, none⟩ = some (S key) := hE0.cell 0; have y1 : w0.cell? ⟨w.heap.size + 1, 1, none⟩ = some (vp) := hE0.cell 1; have y2 : w0.cell? ⟨w.heap.size + 1, 2, none⟩ = some (.int .i64 st) := hE0.cell 2; have y3 : w0.cell? ⟨w.heap.size + 1, 3, none⟩ = some (.slice pf lf.length cf) := hE0.cell 3; have y4 : w0.cell? ⟨w.heap.size + 1, 4, none⟩ = some (S body) := hE0.cell 4; have y5 : w0.cell? ⟨w.heap.size + 1, 5, none⟩ = some (.int .i64 asked) := hE0.cell 5; have y6 : w0.cell? ⟨w.heap.size + 1, 6, none⟩ = some (.int .i64 came) := hE0.cell 6)
  go_cut [7, 8] (fun s7 s8 wx => ∃ b7 b8 : Nat, s7 = .pointer (some ⟨b7, 0, none⟩) ∧ s8 = .pointer (some ⟨b8, 0, none⟩) ∧ Blk wx b7 80 a.cells ∧ Blk wx b8 80 b.cells ∧ Below w0.heap.size w0 wx)
  case first =>
    have hs0 : Fs (w0.drew).heap.size (w0.drew) (.slice pr lr.length cr) lr := (hr0.below (Below.refl w0.heap.size w0).drew).mono (by show w0.heap.size ≤ w0.heap.size; simp; try omega)
    have hs1 : Fs ((w0.alloc Zc).drew).heap.size ((w0.alloc Zc).drew) (.slice pr lr.length cr) lr := (hr0.below ((Below.refl w0.heap.size w0).alloc (by simp) Zc).drew).mono (by show w0.heap.size ≤ (w0.alloc Zc).heap.size; simp; try omega)
    have hs2 : Fs (((w0.alloc Zc).alloc Zc).drew).heap.size (((w0.alloc Zc).alloc Zc).drew) (.slice pr lr.length cr) lr := (hr0.below (((Below.refl w0.heap.size w0).alloc (by simp) Zc).alloc (by simp) Zc).drew).mono (by show w0.heap.size ≤ ((w0.alloc Zc).alloc Zc).heap.size; simp; try omega)
    go_region_held3 (fun w' => (w'.cell? ⟨w.heap.size, 0, none⟩ = some (S rm) ∧ w'.cell? ⟨w.heap.size, 1, none⟩ = some (S rs) ∧ w'.cell? ⟨w.heap.size, 2, none⟩ = some (S ra) ∧ w'.cell? ⟨w.heap.size, 3, none⟩ = some (S rp) ∧ w'.cell? ⟨w.heap.size, 4, none⟩ = some (.slice pr lr.length cr)) ∧ w'.cell? ⟨w.heap.size + 1, 3, none⟩ = some (.slice pf lf.length cf))
      (first | (with_reducible exact req_ent (w := w.heap.size) hQ hE) | (have tk := hlt2; exact req_ent (w := w.heap.size) (by repeat (first | (with_reducible exact hQ) | (with_reducible refine Blk.alloc ?_ _) | ((with_reducible refine Blk.other ?_ ?_ _); rotate_left; (dsimp only; omega)))) (by repeat (first | (with_reducible exact hE) | (with_reducible refine Blk.alloc ?_ _) | ((with_reducible refine Blk.other ?_ ?_ _); rotate_left; (dsimp only; omega))))) | (have tk := hlt1; with_reducible exact req_ent (w := w.heap.size) (hQ.alloc _) (hE.alloc _)) | (have tk := hlt1; with_reducible exact req_ent (w := w.heap.size) ((hQ.alloc _).alloc _) ((hE.alloc _).alloc _)) | go_keep)
      (first
        | (go_at_call 54; (with_reducible refine (HS.out w0.drew hs0).mono ?_); rintro e w1 ⟨rfl, hb1⟩; have hw1 : Below w0.heap.size w0 w1 := (Below.refl w0.heap.size w0).drew.trans (hb1.mono (by show w0.heap.size ≤ w0.heap.size; simp; try omega)); have hf1 := (hf0.below hw1).mono hw1.size; have hlt1 : w0.heap.size + 0 ≤ w1.heap.size := (by have q : w0.heap.size ≤ w1.heap.size := hb1.size; (try simp at q); omega); have hq0 : Fs (w1).heap.size (w1) (.slice pf lf.length cf) lf := (hf1.below (Below.refl w1.heap.size w1)).mono (by simp; try omega); have hq1 : Fs ((w1.alloc Zc)).heap.size ((w1.alloc Zc)) (.slice pf lf.length cf) lf := (hf1.below ((Below.refl w1.heap.size w1).alloc (by simp) Zc)).mono (by simp; try omega); have hq2 : Fs (((w1.alloc Zc).alloc Zc)).heap.size (((w1.alloc Zc).alloc Zc)) (.slice pf lf.length cf) lf := (hf1.below (((Below.refl w1.heap.size w1).alloc (by simp) Zc).alloc (by simp) Zc)).mono (by simp; try omega); have tok0 := True.intro; have hQ := hQ0.on hw1; have hE := hE0.on hw1; have hzz := hw1.size)
        | (go_at_call 54; (with_reducible refine (HS.out (w0.alloc Zc).drew hs1).mono ?_); rintro e w1 ⟨rfl, hb1⟩; have hw1 : Below w0.heap.size w0 w1 := ((Below.refl w0.heap.size w0).alloc (by simp) Zc).drew.trans (hb1.mono (by show w0.heap.size ≤ (w0.alloc Zc).heap.size; simp; try omega)); have hf1 := (hf0.below hw1).mono hw1.size; have hlt1 : w0.heap.size + 1 ≤ w1.heap.size := (by have q : (w0.alloc Zc).heap.size ≤ w1.heap.size := hb1.size; (try simp at q); omega); have hA1 : Blk w1 w0.heap.size 80 Zv := ((Blk.new w0 _ _).drew).on hb1; have hq0 : Fs (w1).heap.size (w1) (.slice pf lf.length cf) lf := (hf1.below (Below.refl w1.heap.size w1)).mono (by simp; try omega); have hq1 : Fs ((w1.alloc Zc)).heap.size ((w1.alloc Zc)) (.slice pf lf.length cf) lf := (hf1.below ((Below.refl w1.heap.size w1).alloc (by simp) Zc)).mono (by simp; try omega); have tok1 := True.intro; have hQ := hQ0.on hw1; have hE := hE0.on hw1; have hzz := hw1.size; obtain ⟨z0_0, z0_1, z0_2, z0_3, z0_4, z0_5, z0_6, z0_7, z0_8, z0_9, z0_10, z0_11⟩ := z12 hA1; have fz0 := hA1.free; have lz0 := hA1.lt)
        | (go_at_call 54; (with_reducible refine (HS.out ((w0.alloc Zc).alloc Zc).drew hs2).mono ?_); rintro e w1 ⟨rfl, hb1⟩; have hw1 : Below w0.heap.size w0 w1 := (((Below.refl w0.heap.size w0).alloc (by simp) Zc).alloc (by simp) Zc).drew.trans (hb1.mono (by show w0.heap.size ≤ ((w0.alloc Zc).alloc Zc).heap.size; simp; try omega)); have hf1 := (hf0.below hw1).mono hw1.size; have hlt1 : w0.heap.size + 2 ≤ w1.heap.size := (by have q : ((w0.alloc Zc).alloc Zc).heap.size ≤ w1.heap.size := hb1.size; (try simp at q); omega); have hA1 : Blk w1 w0.heap.size 80 Zv := (((Blk.new w0 _ _).alloc _).drew).on hb1; have hB1 : Blk w1 (w0.heap.size + 1) 80 Zv := (show Blk ((w0.alloc Zc).alloc Zc).drew (w0.heap.size + 1) 80 Zv from (by have q := Blk.new (w0.alloc Zc) 80 Zv; rw [show (w0.alloc Zc).heap.size = w0.heap.size + 1 by simp] at q; exact q.drew)).on hb1; have hq0 : Fs (w1).heap.size (w1) (.slice pf lf.length cf) lf := (hf1.below (Below.refl w1.heap.size w1)).mono (by simp; try omega); have tok2 := True.intro; have hQ := hQ0.on hw1; have hE := hE0.on hw1; have hzz := hw1.size; obtain ⟨z0_0, z0_1, z0_2, z0_3, z0_4, z0_5, z0_6, z0_7, z0_8, z0_9, z0_10, z0_11⟩ := z12 hA1; have fz0 := hA1.free; have lz0 := hA1.lt; obtain ⟨z1_0, z1_1, z1_2, z1_3, z1_4, z1_5, z1_6, z1_7, z1_8, z1_9, z1_10, z1_11⟩ := z12 hB1; have fz1 := hB1.free; have lz1 := hB1.lt)
        | (go_at_call 84; have tk := tok0; (with_reducible refine (HR.out w1 hq0).mono ?_); rintro e w2 ⟨rfl, hb2⟩; have hw12 : Below w1.heap.size w1 w2 := (Below.refl w1.heap.size w1).trans (hb2.mono (by simp; try omega)); have hw2 := Bl.tr hw1 hw12; have hlt2 : w1.heap.size + 0 ≤ w2.heap.size := (by have := hb2.size; (try simp at this); omega); have tik00 := True.intro; have hQ := hQ0.on hw2; have hE := hE0.on hw2; have hzz := hw2.size)
        | (go_at_call 84; have tk := tok0; (with_reducible refine (HR.out (w1.alloc Zc) hq1).mono ?_); rintro e w2 ⟨rfl, hb2⟩; have hw12 : Below w1.heap.size w1 w2 := ((Below.refl w1.heap.size w1).alloc (by simp) Zc).trans (hb2.mono (by simp; try omega)); have hw2 := Bl.tr hw1 hw12; have hlt2 : w1.heap.size + 1 ≤ w2.heap.size := (by have := hb2.size; (try simp at this); omega); have hA2 : Blk w2 w1.heap.size 80 Zv := ((Blk.new w1 _ _)).on hb2; have tik01 := True.intro; have hQ := hQ0.on hw2; have hE := hE0.on hw2; have hzz := hw2.size; obtain ⟨z0_0, z0_1, z0_2, z0_3, z0_4, z0_5, z0_6, z0_7, z0_8, z0_9, z0_10, z0_11⟩ := z12 hA2; have fz0 := hA2.free; have lz0 := hA2.lt)
        | (go_at_call 84; have tk := tok0; (with_reducible refine (HR.out ((w1.alloc Zc).alloc Zc) hq2).mono ?_); rintro e w2 ⟨rfl, hb2⟩; have hw12 : Below w1.heap.size w1 w2 := (((Below.refl w1.heap.size w1).alloc (by simp) Zc).alloc (by simp) Zc).trans (hb2.mono (by simp; try omega)); have hw2 := Bl.tr hw1 hw12; have hlt2 : w1.heap.size + 2 ≤ w2.heap.size := (by have := hb2.size; (try simp at this); omega); have hA2 : Blk w2 w1.heap.size 80 Zv := ((Blk.new w1 _ _).alloc _).on hb2; have hB2 : Blk w2 (w1.heap.size + 1) 80 Zv := (show Blk ((w1.alloc Zc).alloc Zc) (w1.heap.size + 1) 80 Zv from (by have q := Blk.new (w1.alloc Zc) 80 Zv; rwa [show (w1.alloc Zc).heap.size = w1.heap.size + 1 by simp] at q)).on hb2; have tik02 := True.intro; have hQ := hQ0.on hw2; have hE := hE0.on hw2; have hzz := hw2.size; obtain ⟨z0_0, z0_1, z0_2, z0_3, z0_4, z0_5, z0_6, z0_7, z0_8, z0_9, z0_10, z0_11⟩ := z12 hA2; have fz0 := hA2.free; have lz0 := hA2.lt; obtain ⟨z1_0, z1_1, z1_2, z1_3, z1_4, z1_5, z1_6, z1_7, z1_8, z1_9, z1_10, z1_11⟩ := z12 hB2; have fz1 := hB2.free; have lz1 := hB2.lt)
        | (go_at_call 84; have tk := tok1; (with_reducible refine (HR.out w1 hq0).mono ?_); rintro e w2 ⟨rfl, hb2⟩; have hw12 : Below w1.heap.size w1 w2 := (Below.refl w1.heap.size w1).trans (hb2.mono (by simp; try omega)); have hw2 := Bl.tr hw1 hw12; have hlt2 : w1.heap.size + 0 ≤ w2.heap.size := (by have := hb2.size; (try simp at this); omega); have hA2 := hA1.on hw12; have tik10 := True.intro; have hQ := hQ0.on hw2; have hE := hE0.on hw2; have hzz := hw2.size; obtain ⟨z0_0, z0_1, z0_2, z0_3, z0_4, z0_5, z0_6, z0_7, z0_8, z0_9, z0_10, z0_11⟩ := z12 hA2; have fz0 := hA2.free; have lz0 := hA2.lt)
        | (go_at_call 84; have tk := tok1; (with_reducible refine (HR.out (w1.alloc Zc) hq1).mono ?_); rintro e w2 ⟨rfl, hb2⟩; have hw12 : Below w1.heap.size w1 w2 := ((Below.refl w1.heap.size w1).alloc (by simp) Zc).trans (hb2.mono (by simp; try omega)); have hw2 := Bl.tr hw1 hw12; have hlt2 : w1.heap.size + 1 ≤ w2.heap.size := (by have := hb2.size; (try simp at this); omega); have hA2 := hA1.on hw12; have hB2 : Blk w2 w1.heap.size 80 Zv := ((Blk.new w1 _ _)).on hb2; have tik11 := True.intro; have hQ := hQ0.on hw2; have hE := hE0.on hw2; have hzz := hw2.size; obtain ⟨z0_0, z0_1, z0_2, z0_3, z0_4, z0_5, z0_6, z0_7, z0_8, z0_9, z0_10, z0_11⟩ := z12 hA2; have fz0 := hA2.free; have lz0 := hA2.lt; obtain ⟨z1_0, z1_1, z1_2, z1_3, z1_4, z1_5, z1_6, z1_7, z1_8, z1_9, z1_10, z1_11⟩ := z12 hB2; have fz1 := hB2.free; have lz1 := hB2.lt)
        | (go_at_call 84; have tk := tok2; (with_reducible refine (HR.out w1 hq0).mono ?_); rintro e w2 ⟨rfl, hb2⟩; have hw12 : Below w1.heap.size w1 w2 := (Below.refl w1.heap.size w1).trans (hb2.mono (by simp; try omega)); have hw2 := Bl.tr hw1 hw12; have hlt2 : w1.heap.size + 0 ≤ w2.heap.size := (by have := hb2.size; (try simp at this); omega); have hA2 := hA1.on hw12; have hB2 := hB1.on hw12; have tik20 := True.intro; have hQ := hQ0.on hw2; have hE := hE0.on hw2; have hzz := hw2.size; obtain ⟨z0_0, z0_1, z0_2, z0_3, z0_4, z0_5, z0_6, z0_7, z0_8, z0_9, z0_10, z0_11⟩ := z12 hA2; have fz0 := hA2.free; have lz0 := hA2.lt; obtain ⟨z1_0, z1_1, z1_2, z1_3, z1_4, z1_5, z1_6, z1_7, z1_8, z1_9, z1_10, z1_11⟩ := z12 hB2; have fz1 := hB2.free; have lz1 := hB2.lt))
    all_goals
      go_wp2_with fail
      go_meet
      refine ⟨_, _, rfl, rfl, ?_, ?_, ?_⟩
      · unfold Ctl.cells; repeat (first | (with_reducible exact hA2) | (with_reducible exact hB2) | (with_reducible exact Blk.new _ _ _) | ((with_reducible refine Blk.new_at _ _ _ _ ?_); simp; done) | (with_reducible refine Blk.alloc ?_ _) | (with_reducible refine set12z ?_ _ _ _ _ _ _ _ _ _ _ _ _) | ((with_reducible refine Blk.other ?_ ?_ _); rotate_left; (dsimp only; omega)))
      · unfold Ctl.cells; repeat (first | (with_reducible exact hA2) | (with_reducible exact hB2) | (with_reducible exact Blk.new _ _ _) | ((with_reducible refine Blk.new_at _ _ _ _ ?_); simp; done) | (with_reducible refine Blk.alloc ?_ _) | (with_reducible refine set12z ?_ _ _ _ _ _ _ _ _ _ _ _ _) | ((with_reducible refine Blk.other ?_ ?_ _); rotate_left; (dsimp only; omega)))
      · repeat (first | (with_reducible exact hw2) | ((with_reducible refine Below.alloc ?_ ?_ _); rotate_left; (first | omega | (simp; done) | (simp; omega))) | ((with_reducible refine Below.setCell ?_ ?_ _); rotate_left; (dsimp only; omega)))
  case rest =>
    obtain ⟨b7, b8, rfl, rfl, hA, hB, hw1⟩ := hcut
    have hw2 := Bl.tr hb0 hw1
    have hE1 := hE0.on hw1
    have hf1 := (hf0.below hw1).mono hw1.size
    clear x0 x1 x2 x3 x4 y0 y1 y2 y3 y4 y5 y6 hQ0 hE0 hr0 hf0 hw1 hb0 hz0 HS HR
    (have y0 : wc.cell? ⟨w.heap.size + 1, 0, none⟩ = some (S key) := hE1.cell 0; have y1 : wc.cell? ⟨w.heap.size + 1, 1, none⟩ = some (vp) := hE1.cell 1; have y2 : wc.cell? ⟨w.heap.size + 1, 2, none⟩ = some (.int .i64 st) := hE1.cell 2; have y3 : wc.cell? ⟨w.heap.size + 1, 3, none⟩ = some (.slice pf lf.length cf) := hE1.cell 3; have y4 : wc.cell? ⟨w.heap.size + 1, 4, none⟩ = some (S body) := hE1.cell 4; have y5 : wc.cell? ⟨w.heap.size + 1, 5, none⟩ = some (.int .i64 asked) := hE1.cell 5; have y6 : wc.cell? ⟨w.heap.size + 1, 6, none⟩ = some (.int .i64 came) := hE1.cell 6)
    go_wp2_with fail
    go_region_held3 (fun w' => w'.cell? ⟨w.heap.size + 1, 0, none⟩ = some (S key) ∧ w'.cell? ⟨w.heap.size + 1, 1, none⟩ = some (vp) ∧ w'.cell? ⟨w.heap.size + 1, 2, none⟩ = some (.int .i64 st) ∧ w'.cell? ⟨w.heap.size + 1, 3, none⟩ = some (.slice pf lf.length cf) ∧ w'.cell? ⟨w.heap.size + 1, 4, none⟩ = some (S body) ∧ w'.cell? ⟨w.heap.size + 1, 5, none⟩ = some (.int .i64 asked) ∧ w'.cell? ⟨w.heap.size + 1, 6, none⟩ = some (.int .i64 came))
      (first | go_keep)
      (first
        | (go_at_call 106; (with_reducible refine (HLi.out wc.drew hf1.drew).mono ?_); rintro e w3 ⟨rfl, hb3⟩; replace hb3 := Bl.undrew hb3; have hw3 := Bl.tr hw2 hb3; have hE3 := hE1.on hb3; have hA3 := hA.on hb3; have hB3 := hB.on hb3; have hf3 := (hf1.below hb3).mono hb3.size; (have y0 : w3.cell? ⟨w.heap.size + 1, 0, none⟩ = some (S key) := hE3.cell 0; have y1 : w3.cell? ⟨w.heap.size + 1, 1, none⟩ = some (vp) := hE3.cell 1; have y2 : w3.cell? ⟨w.heap.size + 1, 2, none⟩ = some (.int .i64 st) := hE3.cell 2; have y3 : w3.cell? ⟨w.heap.size + 1, 3, none⟩ = some (.slice pf lf.length cf) := hE3.cell 3; have y4 : w3.cell? ⟨w.heap.size + 1, 4, none⟩ = some (S body) := hE3.cell 4; have y5 : w3.cell? ⟨w.heap.size + 1, 5, none⟩ = some (.int .i64 asked) := hE3.cell 5; have y6 : w3.cell? ⟨w.heap.size + 1, 6, none⟩ = some (.int .i64 came) := hE3.cell 6))
        | (go_at_call 107; (with_reducible refine (HAg.out w3 hf3).mono ?_); rintro e w4 ⟨rfl, hb4⟩; have hw4 := Bl.tr hw3 hb4; have hE4 := hE3.on hb4; have hA4 := hA3.on hb4; have hB4 := hB3.on hb4; (have y0 : w4.cell? ⟨w.heap.size + 1, 0, none⟩ = some (S key) := hE4.cell 0; have y1 : w4.cell? ⟨w.heap.size + 1, 1, none⟩ = some (vp) := hE4.cell 1; have y2 : w4.cell? ⟨w.heap.size + 1, 2, none⟩ = some (.int .i64 st) := hE4.cell 2; have y3 : w4.cell? ⟨w.heap.size + 1, 3, none⟩ = some (.slice pf lf.length cf) := hE4.cell 3; have y4 : w4.cell? ⟨w.heap.size + 1, 4, none⟩ = some (S body) := hE4.cell 4; have y5 : w4.cell? ⟨w.heap.size + 1, 5, none⟩ = some (.int .i64 asked) := hE4.cell 5; have y6 : w4.cell? ⟨w.heap.size + 1, 6, none⟩ = some (.int .i64 came) := hE4.cell 6)))
    clear hE1 hA hB hf1 hb3 hw3 hE3 hA3 hB3 hf3 hb4 hE4 HLi HAg hw2 y0 y1 y2 y3 y4 y5 y6
    obtain ⟨ans, anc, ant, apu, apr, amr, apx, aoi, ama, asm', amf, ams⟩ := a
    obtain ⟨bns, bnc, bnt, bpu, bpr, bmr, bpx, boi, bma, bsm, bmf, bms⟩ := b
    obtain ⟨⟨oa1, oa2⟩, -, ⟨oa3, oa4⟩, oa5, oa6⟩ := oa
    obtain ⟨-, ⟨ob1, ob2⟩, -⟩ := ob
    simp only at oa1 oa2 oa3 oa4 oa5 oa6 ob1 ob2
    have x1 : w4.cell? ⟨b7, 1, none⟩ = some (.bool anc) := hA4.cell 1
    have x8 : w4.cell? ⟨b7, 8, none⟩ = some (.int .i64 ama) := hA4.cell 8
    have x10 : w4.cell? ⟨b7, 10, none⟩ = some (.int .i64 amf) := hA4.cell 10
    have x11 : w4.cell? ⟨b7, 11, none⟩ = some (.int .i64 ams) := hA4.cell 11
    have z1 : w4.cell? ⟨b8, 1, none⟩ = some (.bool bnc) := hB4.cell 1
    have z5 : w4.cell? ⟨b8, 5, none⟩ = some (.bool bmr) := hB4.cell 5
    have z6 : w4.cell? ⟨b8, 6, none⟩ = some (.bool bpx) := hB4.cell 6
    have z9 : w4.cell? ⟨b8, 9, none⟩ = some (.int .i64 bsm) := hB4.cell 9
    clear hA4 hB4
    go_upto_region 3 with fail
    go_cut [50] (fun s wx => s = .bool (decide (GoodNo ⟨ans, anc, ant, apu, apr, amr, apx, aoi, ama, asm', amf, ams⟩ ⟨bns, bnc, bnt, bpu, bpr, bmr, bpx, boi, bma, bsm, bmf, bms⟩ life age)) ∧ w4 = wx)
    case first =>
      clear x11 z5 z6 z9 HG
      have GT := fun h => (decide_eq_true (p := GoodNo ⟨ans, anc, ant, apu, apr, amr, apx, aoi, ama, asm', amf, ams⟩ ⟨bns, bnc, bnt, bpu, bpr, bmr, bpx, boi, bma, bsm, bmf, bms⟩ life age) h).symm
      have GF := fun h => (decide_eq_false (p := GoodNo ⟨ans, anc, ant, apu, apr, amr, apx, aoi, ama, asm', amf, ams⟩ ⟨bns, bnc, bnt, bpu, bpr, bmr, bpx, boi, bma, bsm, bmf, bms⟩ life age) h).symm
      unfold GoodNo at GT GF
      simp only at GT GF
      cases anc with
      | true =>
        have HT := Lib.hid (GT (.inl rfl))
        clear GT GF
        go_wp2
        go_meet
        exact ⟨congrArg Value.bool HT.out, rfl⟩
      | false =>
      cases bnc with
      | true =>
        have HT := Lib.hid (GT (.inr (.inl rfl)))
        clear GT GF
        go_wp2
        go_meet
        exact ⟨congrArg Value.bool HT.out, rfl⟩
      | false =>
      by_cases h1 : 0 ≤ ama
      · by_cases h2 : ama < (age : Int)
        · have HT := Lib.hid (GT (.inr (.inr (.inl ⟨h1, h2⟩))))
          clear GT GF
          go_wp2
          go_meet
          exact ⟨congrArg Value.bool HT.out, rfl⟩
        · by_cases h3 : 0 ≤ amf
          · by_cases h4 : (life : Int) - age < amf
            · have HT := Lib.hid (GT (.inr (.inr (.inr ⟨h3, h4⟩))))
              clear GT GF
              go_wp2
              go_meet
              exact ⟨congrArg Value.bool HT.out, rfl⟩
            · have HT := Lib.hid (GF (by simp; omega))
              clear GT GF
              go_wp2
              go_meet
              exact ⟨congrArg Value.bool HT.out, rfl⟩
          · have HT := Lib.hid (GF (by simp; omega))
            clear GT GF
            go_wp2
            go_meet
            exact ⟨congrArg Value.bool HT.out, rfl⟩
      · by_cases h3 : 0 ≤ amf
        · by_cases h4 : (life : Int) - age < amf
          · have HT := Lib.hid (GT (.inr (.inr (.inr ⟨h3, h4⟩))))
            clear GT GF
            go_wp2
            go_meet
            exact ⟨congrArg Value.bool HT.out, rfl⟩
          · have HT := Lib.hid (GF (by simp; omega))
            clear GT GF
            go_wp2
            go_meet
            exact ⟨congrArg Value.bool HT.out, rfl⟩
        · have HT := Lib.hid (GF (by simp; omega))
          clear GT GF
          go_wp2
          go_meet
          exact ⟨congrArg Value.bool HT.out, rfl⟩
    case rest =>
      obtain ⟨rfl, rfl⟩ := hcut
      by_cases hP : GoodNo ⟨ans, anc, ant, apu, apr, amr, apx, aoi, ama, asm', amf, ams⟩ ⟨bns, bnc, bnt, bpu, bpr, bmr, bpx, boi, bma, bsm, bmf, bms⟩ life age
      · have HR := Lib.hid (good_no hP)
        rw [decide_eq_true hP]
        clear hP
        go_wp2
        go_ret
        exact ⟨ret_bool (by rw [HG.out, HR.out]), hw4⟩
      · rw [decide_eq_false hP]
        by_cases hn : age < life
        · have HR := Lib.hid (good_new hP hn)
          have g1 : decide (age < life) = true := by simpa using hn
          clear hP hn
          go_wp2
          go_ret
          exact ⟨ret_bool (by rw [HG.out, HR.out]), hw4⟩
        · have HR := Lib.hid (good_old hP hn)
          have g1 : decide (age < life) = false := by simpa using hn
          clear hP hn
          simp only at HR
          by_cases h1 : 0 ≤ ams
          · by_cases h2 : (age : Int) - life ≤ ams
            · have HR := HR.out
              rw [decide_eq_true (p := 0 ≤ ams ∧ (age : Int) - life ≤ ams) ⟨h1, h2⟩] at HR
              have HR := Lib.hid HR
              cases bmr <;> cases bpx
              all_goals
                go_wp2
                all_goals go_ret
                all_goals exact ⟨ret_bool (by rw [HG.out, HR.out]; simp [*]), hw4⟩
            · have HR := HR.out
              rw [decide_eq_false (p := 0 ≤ ams ∧ (age : Int) - life ≤ ams) (fun e => h2 e.2)] at HR
              have HR := Lib.hid HR
              go_wp2
              go_ret
              exact ⟨ret_bool (by rw [HG.out, HR.out]; simp), hw4⟩
          · have HR := HR.out
            rw [decide_eq_false (p := 0 ≤ ams ∧ (age : Int) - life ≤ ams) (fun e => h1 e.1)] at HR
            have HR := Lib.hid HR
            go_wp2
            go_ret
            exact ⟨ret_bool (by rw [HG.out, HR.out]; simp), hw4⟩
end Go.Proofs.YtahapblgmehngaaGreatDoor

