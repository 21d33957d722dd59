/- Parts of the proof of DealAsks_holds: the texts Shf7. -/
import Derived.Deep.DeepCutAuto
import Derived.Deep.RegionWith
import Derived.Test.YtahapblgmehngaaGreatDoorA31
import Derived.Test.YtahapblgmehngaaGreatDoorA29
set_option linter.unusedSimpArgs false
set_option linter.unusedVariables false
set_option linter.unnecessarySimpa false
namespace Go.Proofs.YtahapblgmehngaaGreatDoor
open Go.RowKit Go.Dr

theorem ret_copied {W : World} {tmps : Array Value} {b : Nat} {v0 v1 v2 v3 v4 v5 v6 : Value} {R : Ending → World → Prop} (hs : tmps[2]? = some (.pointer (some ⟨b, 0, none⟩))) (h : Blk W b 36 #[v0, v1, v2, v3, v4, v5, v6]) (hR : R (.returned (.agg #[v0, v1, v2, v3, v4, v5, v6])) W) :
    bodyPost Tryz.prog Tryz.f66 R .ret { tmps := tmps, defers := [] } W := by
  (have g0 : W.cell? ⟨b, 0, none⟩ = some (v0) := h.cell 0; have g1 : W.cell? ⟨b, 1, none⟩ = some (v1) := h.cell 1; have g2 : W.cell? ⟨b, 2, none⟩ = some (v2) := h.cell 2; have g3 : W.cell? ⟨b, 3, none⟩ = some (v3) := h.cell 3; have g4 : W.cell? ⟨b, 4, none⟩ = some (v4) := h.cell 4; have g5 : W.cell? ⟨b, 5, none⟩ = some (v5) := h.cell 5; have g6 : W.cell? ⟨b, 6, none⟩ = some (v6) := h.cell 6)
  exact bodyPost_ret (v := .agg #[v0, v1, v2, v3, v4, v5, v6]) (by simp [results, Tryz.results66, go_sem, hs, g0, g1, g2, g3, g4, g5, g6]) rfl hR

set_option maxRecDepth 100000 in
set_option maxHeartbeats 4000000 in
theorem copied_any (q : En) (lp lf : List F) (w : World) (hp : Fs w.heap.size w q.vp lp) (hf : Fs w.heap.size w q.vf lf) (hl : lp.length * 40 ≤ 140737488351232) (hl2 : lf.length * 40 ≤ 140737488351232) :
    Calls Tryz.prog 66 #[q.val] w fun e w' => ∃ vp vf, e = .returned (.agg #[S q.key, vp, .int .i64 q.st, vf, S q.body, .int .i64 q.asked, .int .i64 q.came]) ∧ w'.ownsRow w.heap.size 89 3 vp lp.length (fcells lp) ∧ w'.ownsRow w.heap.size 60 3 vf lf.length (fcells lf) ∧ Below w.heap.size w w' := by
  obtain ⟨pf, cf, hfv, -⟩ := hf.form
  obtain ⟨pp, cp, hpv, -⟩ := hp.form
  obtain ⟨key, vp, st, vf, body, asked, came⟩ := q
  simp only at hfv hpv hf hp
  subst hfv hpv
  simp only [En.val]
  obtain ⟨w1, ew1⟩ : ∃ w1 : World, w1 = w.alloc (.cells #[S key, .slice pp lp.length cp, .int .i64 st, .slice pf lf.length cf, S body, .int .i64 asked, .int .i64 came] 36) := ⟨_, rfl⟩
  have hs1 : w1.heap.size = w.heap.size + 1 := by rw [ew1]; simp
  obtain ⟨w0, ew⟩ : ∃ w0 : World, w0 = w1.alloc (.cells #[S [], .slice none 0 0, .int .i64 0, .slice none 0 0, S [], .int .i64 0, .int .i64 0] 36) := ⟨_, rfl⟩
  have hA : Blk w0 w.heap.size 36 #[S key, .slice pp lp.length cp, .int .i64 st, .slice pf lf.length cf, S body, .int .i64 asked, .int .i64 came] := by rw [ew, ew1]; exact (Blk.new _ _ _).alloc _
  have hB : Blk w0 (w.heap.size + 1) 36 #[S [], .slice none 0 0, .int .i64 0, .slice none 0 0, S [], .int .i64 0, .int .i64 0] := by
    rw [ew]
    have := Blk.new w1 36 #[S [], .slice none 0 0, .int .i64 0, .slice none 0 0, S [], .int .i64 0, .int .i64 0]
    rwa [hs1] at this
  have hb0 : Below w.heap.size w w0 := by rw [ew, ew1]; exact ((Below.refl _ _).alloc (Nat.le_refl _) _).alloc (by simp) _
  have hf0 := (hf.below hb0).mono hb0.size
  have hp0 := (hp.below hb0).mono hb0.size
  rw [ew1] at ew
  clear ew1 hs1 w1
  have HF := Lib.hid (fun w h => CloneF_any lf (.slice pf lf.length cf) w h hl2)
  have HP := Lib.hid (fun w h => CloneP_any lp (.slice pp lp.length cp) w h hl)
  go_enter Tryz.func66, Tryz.ntmps66
  go_upto_region 1 with fail
  rw [← ew]
  clear ew hf hp
  have x1 : w0.cell? ⟨w.heap.size, 1, none⟩ = some (.slice pp lp.length cp) := hA.cell 1
  have x3 : w0.cell? ⟨w.heap.size, 3, none⟩ = some (.slice pf lf.length cf) := hA.cell 3
  have d1 : w0.drew.cell? ⟨w.heap.size, 1, none⟩ = some (.slice pp lp.length cp) := hA.cell 1
  have d3 : w0.drew.cell? ⟨w.heap.size, 3, none⟩ = some (.slice pf lf.length cf) := hA.cell 3
  go_region_with (first
    | (go_at_call 104; refine (HF.out w0.drew hf0.drew).mono ?_; rintro e w2 ⟨vf', rfl, hvf, hb2⟩; obtain ⟨af, kf, rfl, -⟩ := (Fs.own hvf).form; replace hb2 := Bl.undrew hb2; have hA2 := hA.on hb2; have y1 : w2.cell? ⟨w.heap.size, 1, none⟩ = some (.slice pp lp.length cp) := hA2.cell 1)
    | (go_at_call 105; refine (HP.out w2 ((hp0.below hb2).mono hb2.size)).mono ?_; rintro e w3 ⟨vp', rfl, hvp, hb3⟩; obtain ⟨ap, kp, rfl, -⟩ := (Fs.own hvp).form; have hA3 := hA2.on hb3; have z1 : w3.cell? ⟨w.heap.size, 1, none⟩ = some (.slice pp lp.length cp) := hA3.cell 1; have z3 : w3.cell? ⟨w.heap.size, 3, none⟩ = some (.slice pf lf.length cf) := hA3.cell 3; have f1 := hA3.free 1; have f3 := hA3.free 3))
  all_goals
    have hA4 : Blk ((w3.setCell ⟨w.heap.size, 3, none⟩ (.slice af lf.length kf)).setCell ⟨w.heap.size, 1, none⟩ (.slice ap lp.length kp)) w.heap.size 36 #[S key, .slice ap lp.length kp, .int .i64 st, .slice af lf.length kf, S body, .int .i64 asked, .int .i64 came] := by simpa using (hA3.set 3 (.slice af lf.length kf)).set 1 (.slice ap lp.length kp)
    have hB4 := (((hB.on hb2).on hb3).other (p := ⟨w.heap.size, 3, none⟩) (by simp) (.slice af lf.length kf)).other (p := ⟨w.heap.size, 1, none⟩) (by simp) (.slice ap lp.length kp)
    have hE : w.heap.size < w0.heap.size := hA.lt
    have hw4 := ((Bl.tr (Bl.tr hb0 hb2) hb3).setCell (p := ⟨w.heap.size, 3, none⟩) (Nat.le_refl _) (.slice af lf.length kf)).setCell (p := ⟨w.heap.size, 1, none⟩) (Nat.le_refl _) (.slice ap lp.length kp)
    have o1 := ownsRow_setCell_below (ownsRow_setCell_below (own_below hvf hb3) (a := ⟨w.heap.size, 3, none⟩) hE (.slice af lf.length kf)) (a := ⟨w.heap.size, 1, none⟩) hE (.slice ap lp.length kp)
    have o2 := ownsRow_setCell_below (ownsRow_setCell_below hvp (a := ⟨w.heap.size, 3, none⟩) hA2.lt (.slice af lf.length kf)) (a := ⟨w.heap.size, 1, none⟩) hA2.lt (.slice ap lp.length kp)
    clear x1 x3 d1 d3 y1 z1 z3 f1 f3 hA3 hvf hvp
    generalize ((w3.setCell ⟨w.heap.size, 3, none⟩ (.slice af lf.length kf)).setCell ⟨w.heap.size, 1, none⟩ (.slice ap lp.length kp)) = w4 at *
    (have x0 : w4.cell? ⟨w.heap.size, 0, none⟩ = some (S key) := hA4.cell 0; have x1 : w4.cell? ⟨w.heap.size, 1, none⟩ = some (.slice ap lp.length kp) := hA4.cell 1; have x2 : w4.cell? ⟨w.heap.size, 2, none⟩ = some (.int .i64 st) := hA4.cell 2; have x3 : w4.cell? ⟨w.heap.size, 3, none⟩ = some (.slice af lf.length kf) := hA4.cell 3; have x4 : w4.cell? ⟨w.heap.size, 4, none⟩ = some (S body) := hA4.cell 4; have x5 : w4.cell? ⟨w.heap.size, 5, none⟩ = some (.int .i64 asked) := hA4.cell 5; have x6 : w4.cell? ⟨w.heap.size, 6, none⟩ = some (.int .i64 came) := hA4.cell 6)
    (have y0 : w4.cell? ⟨w.heap.size + 1, 0, none⟩ = some (S []) := hB4.cell 0; have y1 : w4.cell? ⟨w.heap.size + 1, 1, none⟩ = some (.slice none 0 0) := hB4.cell 1; have y2 : w4.cell? ⟨w.heap.size + 1, 2, none⟩ = some (.int .i64 0) := hB4.cell 2; have y3 : w4.cell? ⟨w.heap.size + 1, 3, none⟩ = some (.slice none 0 0) := hB4.cell 3; have y4 : w4.cell? ⟨w.heap.size + 1, 4, none⟩ = some (S []) := hB4.cell 4; have y5 : w4.cell? ⟨w.heap.size + 1, 5, none⟩ = some (.int .i64 0) := hB4.cell 5; have y6 : w4.cell? ⟨w.heap.size + 1, 6, none⟩ = some (.int .i64 0) := hB4.cell 6)
    have f0 := hB4.free 0
    have f1 := hB4.free 1
    have f2 := hB4.free 2
    have f3 := hB4.free 3
    have f4 := hB4.free 4
    have f5 := hB4.free 5
    have f6 := hB4.free 6
    go_wp2
    have hB5 := hB4.put7 (S key) (.slice ap lp.length kp) (.int .i64 st) (.slice af lf.length kf) (S body) (.int .i64 asked) (.int .i64 came)
    have hz := hb0.size
    have hz2 := hb2.size
    have hzB := hB.lt
    refine ret_copied rfl hB5 ⟨_, _, rfl, own_base (own_block o2 fun g cur _ hg => heap_put7 _ _ _ _ _ _ _ _ _ g (by omega)) (by omega), own_base (own_block o1 fun g cur _ hg => heap_put7 _ _ _ _ _ _ _ _ _ g (by have : w0.heap.size ≤ g := hg; omega)) (by show w.heap.size ≤ w0.heap.size; omega), put7_below hw4 (by omega) _ _ _ _ _ _ _⟩
end Go.Proofs.YtahapblgmehngaaGreatDoor

