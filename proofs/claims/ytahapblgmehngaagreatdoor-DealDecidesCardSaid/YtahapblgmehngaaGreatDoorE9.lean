/- Parts of the proof of DealDecides_holds: the texts Frs2 Rdt1 Rdt3 Rdt5. -/
import Derived.Deep.DeepCutAuto
import Derived.Test.YtahapblgmehngaaGreatDoorE8
set_option linter.unusedSimpArgs false
set_option linter.unusedVariables false
set_option linter.unnecessarySimpa false
set_option maxRecDepth 100000
set_option maxHeartbeats 64000000
namespace Go.Dr
open Go.RowKit
theorem says_yes {l : List F} (h : pragB l = true) : saysC l = { readC l with nc := true } := by unfold saysC;rw [if_pos h]
theorem says_no {l : List F} (h : pragB l = false) : saysC l = readC l := by unfold saysC;rw [if_neg (by rw [h];simp)]
end Go.Dr
namespace Go.Proofs.YtahapblgmehngaaGreatDoor
open Go.RowKit Go.Dr
abbrev Zv : Array Value := #[.bool false, .bool false, .bool false, .bool false, .bool false, .bool false, .bool false, .bool false, .int .i64 0, .int .i64 0, .int .i64 0, .int .i64 0]
abbrev Zc : Obj := .cells Zv 80
theorem set12z {w : World} {g : Nat} (h : Blk w g 80 Zv) (b0 b1 b2 b3 b4 b5 b6 b7 b8 b9 b10 b11 : Value) : Blk ((((((((((((w.setCell ⟨g, 0, none⟩ b0).setCell ⟨g, 1, none⟩ b1).setCell ⟨g, 2, none⟩ b2).setCell ⟨g, 3, none⟩ b3).setCell ⟨g, 4, none⟩ b4).setCell ⟨g, 5, none⟩ b5).setCell ⟨g, 6, none⟩ b6).setCell ⟨g, 7, none⟩ b7).setCell ⟨g, 8, none⟩ b8).setCell ⟨g, 9, none⟩ b9).setCell ⟨g, 10, none⟩ b10).setCell ⟨g, 11, none⟩ b11) g 80 #[b0, b1, b2, b3, b4, b5, b6, b7, b8, b9, b10, b11] := Blk.set12 h b0 b1 b2 b3 b4 b5 b6 b7 b8 b9 b10 b11
theorem z12 {w : World} {b : Nat} (h : Blk w b 80 Zv) : w.cell? ⟨b, 0, none⟩ = some (.bool false) ∧ w.cell? ⟨b, 1, none⟩ = some (.bool false) ∧ w.cell? ⟨b, 2, none⟩ = some (.bool false) ∧ w.cell? ⟨b, 3, none⟩ = some (.bool false) ∧ w.cell? ⟨b, 4, none⟩ = some (.bool false) ∧ w.cell? ⟨b, 5, none⟩ = some (.bool false) ∧ w.cell? ⟨b, 6, none⟩ = some (.bool false) ∧ w.cell? ⟨b, 7, none⟩ = some (.bool false) ∧ w.cell? ⟨b, 8, none⟩ = some (.int .i64 0) ∧ w.cell? ⟨b, 9, none⟩ = some (.int .i64 0) ∧ w.cell? ⟨b, 10, none⟩ = some (.int .i64 0) ∧ w.cell? ⟨b, 11, none⟩ = some (.int .i64 0) :=
 h.c12
theorem req_ent {wx : World} {w : Nat} {rm rs ra rp key body : Bytes} {vr vp vf : Value} {st asked came : Int} (hQ : Blk wx w 28 #[S rm, S rs, S ra, S rp, vr]) (hE : Blk wx (w + 1) 36 #[S key, vp, .int .i64 st, vf, S body, .int .i64 asked, .int .i64 came]) :
  (wx.cell? ⟨w, 0, none⟩ = some (S rm) ∧ wx.cell? ⟨w, 1, none⟩ = some (S rs) ∧ wx.cell? ⟨w, 2, none⟩ = some (S ra) ∧ wx.cell? ⟨w, 3, none⟩ = some (S rp) ∧ wx.cell? ⟨w, 4, none⟩ = some (vr)) ∧ wx.cell? ⟨w + 1, 3, none⟩ = some vf :=
 ⟨hQ.c5, hE.cell 3⟩
theorem lifeF_le (l : List F) (st came : Int) (hl : fsum l ≤ 1099511627776) : lifeF l st came ≤ 1099511627776 := by
 have h1 := momV_le l expiresN came hl;obtain ⟨h2, h3, -⟩ := readC_ok l;unfold lifeF
 repeat' split
 all_goals omega
theorem ret_says {W : World} {tmps : Array Value} {b : Nat} {c : Ctl} {R : Ending → World → Prop} (hs : tmps[2]? = some (.pointer (some ⟨b, 0, none⟩))) (h : Blk W b 80 c.cells) (hR : R (.returned c.val) W) :
  bodyPost Tryz.prog Tryz.f54 R .ret { tmps := tmps, defers := [] } W := by
 obtain ⟨g0, g1, g2, g3, g4, g5, g6, g7, g8, g9, g10, g11⟩ := h.c12;exact bodyPost_ret (v := c.val) (by simp [results, Tryz.results54, go_sem, hs, g0, g1, g2, g3, g4, g5, g6, g7, g8, g9, g10, g11]) rfl hR
theorem Says_any (r : Rq) (l : List F) (w : World) (h : Fs w.heap.size w r.v l) (hl : fsum l ≤ 1099511627776) :
  Calls Tryz.prog 54 #[r.val] w fun e w' => e = .returned (saysC l).val ∧ Below w.heap.size w w' := by
 obtain ⟨pr, cr, hrv, -⟩ := h.form;obtain ⟨rm, rs, ra, rp, rv⟩ := r;simp only at hrv h;subst hrv;simp only [Rq.val];have HP : Hid (pragB l = (!decide (0 < (values l cacheControl).length) && (allOf l pragmaT).any fun x => same x noCache)) := rfl;have HY := Lib.hid (fun h => says_yes (l := l) h);have HN := Lib.hid (fun h => says_no (l := l) h);generalize saysC l = C at *;generalize pragB l = pb at *;obtain ⟨w0, ew⟩ : ∃ w0 : World, w0 = (w.alloc (.cells #[S rm, S rs, S ra, S rp, .slice pr l.length cr] 28)).alloc (.cells #[.bool false, .bool false, .bool false, .bool false, .bool false, .bool false, .bool false, .bool false, .int .i64 0, .int .i64 0, .int .i64 0, .int .i64 0] 80) := ⟨_, rfl⟩;have hQ0 : Blk w0 w.heap.size 28 #[S rm, S rs, S ra, S rp, .slice pr l.length cr] := (by rw [ew];exact (Blk.new _ _ _).alloc _)
 have hZ0 : Blk w0 (w.heap.size + 1) 80 #[.bool false, .bool false, .bool false, .bool false, .bool false, .bool false, .bool false, .bool false, .int .i64 0, .int .i64 0, .int .i64 0, .int .i64 0] := by
  rw [ew];have := Blk.new (w.alloc (.cells #[S rm, S rs, S ra, S rp, .slice pr l.length cr] 28)) 80 #[.bool false, .bool false, .bool false, .bool false, .bool false, .bool false, .bool false, .bool false, .int .i64 0, .int .i64 0, .int .i64 0, .int .i64 0]
  rwa [show (w.alloc (.cells #[S rm, S rs, S ra, S rp, .slice pr l.length cr] 28)).heap.size = w.heap.size + 1 by simp] at this
 have hb0 : Below w.heap.size w w0 := (by rw [ew];exact ((Below.refl _ _).alloc (Nat.le_refl _) _).alloc (by simp) _);have h0 := (h.below hb0).mono hb0.size;have hz0 := hZ0.lt;go_enter Tryz.func54, Tryz.ntmps54
 go_wp2_with fail;rw [← ew];clear ew h;refine (Read_any l _ w0 h0 hl).mono ?_;rintro e w1 ⟨rfl, hb1⟩;have hQ1 := hQ0.on hb1;have hZ1 := hZ0.on hb1;have h1 := (h0.below hb1).mono hb1.size;have hw1 := Bl.tr hb0 hb1;have hz1 : w.heap.size + 1 < w1.heap.size := Nat.lt_of_lt_of_le hz0 hb1.size;clear hQ0 hZ0 h0 hb0 hb1 hz0;generalize readC l = c at *;have hal : Below w1.heap.size w1 (w1.alloc (.cells #[.bool c.ns, .bool c.nc, .bool c.nt, .bool c.pu, .bool c.pr, .bool c.mr, .bool c.px, .bool c.oi, .int .i64 c.ma, .int .i64 c.sm, .int .i64 c.mf, .int .i64 c.ms] 80)) := (Below.refl _ _).alloc (Nat.le_refl _) _;have hX2 := Blk.new w1 80 c.cells;have hQ2 := hQ1.on hal;have hZ2 := hZ1.on hal;have h2 := (h1.below hal).mono hal.size;have hw2 := Bl.tr hw1 hal;have q4 : w1.cell? ⟨w.heap.size, 4, none⟩ = some (.slice pr l.length cr) := hQ1.cell 4;have hlt := hQ1.lt;go_wp2_with fail;clear hlt
 change Calls _ _ _ (w1.alloc (.cells c.cells 80)) _
 change Blk (w1.alloc (.cells c.cells 80)) w.heap.size _ _ at hQ2
 change Blk (w1.alloc (.cells c.cells 80)) (w.heap.size + 1) _ _ at hZ2
 change Fs (w1.alloc (.cells c.cells 80)).heap.size (w1.alloc (.cells c.cells 80)) _ _ at h2
 change Below w.heap.size w (w1.alloc (.cells c.cells 80)) at hw2
 clear hal;generalize w1.alloc (.cells c.cells 80) = w2 at *;clear hQ1 hZ1 h1 hw1 q4;generalize w1.heap.size = bc at *;refine (Values_any l cacheControl _ w2 h2 hl (by decide)).mono ?_;rintro e w3 ⟨vv, rfl, hvv, hb3⟩;obtain ⟨pa, ca, rfl, hm⟩ := (Ss.own hvv).form;have hQ3 := hQ2.on hb3;have hX3 := hX2.on hb3;have hZ3 := hZ2.on hb3;have h3 := (h2.below hb3).mono hb3.size;have hw3 := Bl.tr hw2 hb3;clear hQ2 hX2 hZ2 h2 hw2 hb3 hvv;generalize (values l cacheControl).length = n at *;have q4 : w3.cell? ⟨w.heap.size, 4, none⟩ = some (.slice pr l.length cr) := hQ3.cell 4;by_cases hn : n = 0
 ·subst hn
  go_wp2_with fail;refine (Has_any l pragmaT noCache _ w3 h3 hl (by decide) (by decide)).mono ?_;rintro e w4 ⟨rfl, hb4⟩;have hX4 := hX3.on hb4;have hZ4 := hZ3.on hb4;have hw4 := Bl.tr hw3 hb4;clear hQ3 hX3 hZ3 h3 hw3 hb4 q4;generalize ((allOf l pragmaT).any fun x => same x noCache) = a at *;obtain ⟨x0, x1, x2, x3, x4, x5, x6, x7, x8, x9, x10, x11⟩ := hX4.c12;have fx := hX4.free 1;have fz := hZ4.free;obtain ⟨z0, z1, z2, z3, z4, z5, z6, z7, z8, z9, z10, z11⟩ := hZ4.c12
  cases a with
  | true =>
   have HC := Lib.hid (HY.out (by rw [HP.out];rfl));go_wp2_with fail;have hR := (hZ4.other (p := ⟨bc, 1, none⟩) (by show w.heap.size + 1 ≠ bc;omega) (.bool true)).set12 (.bool c.ns) (.bool true) (.bool c.nt) (.bool c.pu) (.bool c.pr) (.bool c.mr) (.bool c.px) (.bool c.oi) (.int .i64 c.ma) (.int .i64 c.sm) (.int .i64 c.mf) (.int .i64 c.ms);have hB := Bl.set12 (hw4.setCell (p := ⟨bc, 1, none⟩) (by show w.heap.size ≤ bc;omega) (.bool true)) (b := w.heap.size + 1) (by omega) (.bool c.ns) (.bool true) (.bool c.nt) (.bool c.pu) (.bool c.pr) (.bool c.mr) (.bool c.px) (.bool c.oi) (.int .i64 c.ma) (.int .i64 c.sm) (.int .i64 c.mf) (.int .i64 c.ms);exact ret_says (c := { c with nc := true }) rfl hR ⟨by rw [HC.out], hB⟩
  | false =>
   have HC := Lib.hid (HN.out (by rw [HP.out];rfl));go_wp2_with fail;have hR := hZ4.set12 (.bool c.ns) (.bool c.nc) (.bool c.nt) (.bool c.pu) (.bool c.pr) (.bool c.mr) (.bool c.px) (.bool c.oi) (.int .i64 c.ma) (.int .i64 c.sm) (.int .i64 c.mf) (.int .i64 c.ms);have hB := Bl.set12 hw4 (b := w.heap.size + 1) (by omega) (.bool c.ns) (.bool c.nc) (.bool c.nt) (.bool c.pu) (.bool c.pr) (.bool c.mr) (.bool c.px) (.bool c.oi) (.int .i64 c.ma) (.int .i64 c.sm) (.int .i64 c.mf) (.int .i64 c.ms);exact ret_says (c := c) rfl hR ⟨by rw [HC.out], hB⟩
 ·have g0 : ((n : Int) == 0) = false := by rw [beq_eq_false_iff_ne];omega
  have HC := Lib.hid (HN.out (by rw [HP.out];simp;omega));clear hn hQ3;obtain ⟨x0, x1, x2, x3, x4, x5, x6, x7, x8, x9, x10, x11⟩ := hX3.c12;have fz := hZ3.free;obtain ⟨z0, z1, z2, z3, z4, z5, z6, z7, z8, z9, z10, z11⟩ := hZ3.c12;go_wp2_with fail;have hR := hZ3.set12 (.bool c.ns) (.bool c.nc) (.bool c.nt) (.bool c.pu) (.bool c.pr) (.bool c.mr) (.bool c.px) (.bool c.oi) (.int .i64 c.ma) (.int .i64 c.sm) (.int .i64 c.mf) (.int .i64 c.ms);have hB := Bl.set12 hw3 (b := w.heap.size + 1) (by omega) (.bool c.ns) (.bool c.nc) (.bool c.nt) (.bool c.pu) (.bool c.pr) (.bool c.mr) (.bool c.px) (.bool c.oi) (.int .i64 c.ma) (.int .i64 c.sm) (.int .i64 c.mf) (.int .i64 c.ms);exact ret_says (c := c) rfl hR ⟨by rw [HC.out], hB⟩
theorem Good_any (r : Rq) (q : En) (lr lf : List F) (now : Int) (w : World) (hr : Fs w.heap.size w r.v lr) (hf : Fs w.heap.size w q.vf lf) (hl : fsum lr ≤ 1099511627776) (hl2 : fsum lf ≤ 1099511627776) :
  Calls Tryz.prog 67 #[r.val, q.val, .int .i64 now] w fun e w' => e = .returned (.bool (goodF lr lf q.st q.asked q.came now)) ∧ Below w.heap.size w w' := by
 have hS := fun w h => Says_any r lr w h hl
 have hLi := fun w h => Lifetime_any q lf w h hl2
 have hAg := fun w h => Age_any q lf now w h hl2
 obtain ⟨pr, cr, hrv, -⟩ := hr.form;obtain ⟨pf, cf, hfv, -⟩ := hf.form;obtain ⟨rm, rs, ra, rp, rv⟩ := r;obtain ⟨key, vp, st, vf, body, asked, came⟩ := q;simp only at hrv hfv hr hf hS hLi hAg ⊢;subst hrv hfv;simp only [Rq.val, En.val] at hS hLi hAg ⊢;have HG : Hid (goodF lr lf st asked came now = goodB (saysC lr) (readC lf) (lifeF lf st came) (ageF lf asked came now)) := rfl;have hal := ageF_le lf asked came now;have hll := lifeF_le lf st came hl2;have oa := saysC_ok lr;have ob := readC_ok lf;have HR := Lib.hid (fun w h => Read_any lf (.slice pf lf.length cf) w h hl2);have HS := Lib.hid hS;have HLi := Lib.hid hLi;have HAg := Lib.hid hAg;clear hS hLi hAg;generalize goodF lr lf st asked came now = G at *;generalize saysC lr = a at *;generalize readC lf = b at *;generalize lifeF lf st came = life at *;generalize ageF lf asked came now = age at *;obtain ⟨w0, ew⟩ : ∃ w0 : World, w0 = (w.alloc (.cells #[S rm, S rs, S ra, S rp, .slice pr lr.length cr] 28)).alloc (.cells #[S key, vp, .int .i64 st, .slice pf lf.length cf, S body, .int .i64 asked, .int .i64 came] 36) := ⟨_, rfl⟩;have hQ0 : Blk w0 w.heap.size 28 #[S rm, S rs, S ra, S rp, .slice pr lr.length cr] := (by rw [ew];exact (Blk.new _ _ _).alloc _)
 have hE0 : Blk w0 (w.heap.size + 1) 36 #[S key, vp, .int .i64 st, .slice pf lf.length cf, S body, .int .i64 asked, .int .i64 came] := by
  rw [ew];have := Blk.new (w.alloc (.cells #[S rm, S rs, S ra, S rp, .slice pr lr.length cr] 28)) 36 #[S key, vp, .int .i64 st, .slice pf lf.length cf, S body, .int .i64 asked, .int .i64 came]
  rwa [show (w.alloc (.cells #[S rm, S rs, S ra, S rp, .slice pr lr.length cr] 28)).heap.size = w.heap.size + 1 by simp] at this
 have hb0 : Below w.heap.size w w0 := (by rw [ew];exact ((Below.refl _ _).alloc (Nat.le_refl _) _).alloc (by simp) _);have hr0 := (hr.below hb0).mono hb0.size;have hf0 := (hf.below hb0).mono hb0.size;have hz0 := hE0.lt;go_enter Tryz.func67, Tryz.ntmps67
 go_wp2_with fail;rw [← ew];clear ew hr hf;obtain ⟨x0, x1, x2, x3, x4⟩ := hQ0.c5;obtain ⟨y0, y1, y2, y3, y4, y5, y6⟩ := hE0.c7
 go_cut [7, 8] (fun s7 s8 wx => ∃ b7 b8 : Nat, s7 = .pointer (some ⟨b7, 0, none⟩) ∧ s8 = .pointer (some ⟨b8, 0, none⟩) ∧ Blk wx b7 80 a.cells ∧ Blk wx b8 80 b.cells ∧ Below w0.heap.size w0 wx)
 case first =>
  have hs0 : Fs (w0.drew).heap.size (w0.drew) (.slice pr lr.length cr) lr := (hr0.below (Below.refl w0.heap.size w0).drew).mono (by show w0.heap.size ≤ w0.heap.size;simp;try omega);have hs1 : Fs ((w0.alloc Zc).drew).heap.size ((w0.alloc Zc).drew) (.slice pr lr.length cr) lr := (hr0.below ((Below.refl w0.heap.size w0).alloc (by simp) Zc).drew).mono (by show w0.heap.size ≤ (w0.alloc Zc).heap.size;simp;try omega);have hs2 : Fs (((w0.alloc Zc).alloc Zc).drew).heap.size (((w0.alloc Zc).alloc Zc).drew) (.slice pr lr.length cr) lr := (hr0.below (((Below.refl w0.heap.size w0).alloc (by simp) Zc).alloc (by simp) Zc).drew).mono (by show w0.heap.size ≤ ((w0.alloc Zc).alloc Zc).heap.size;simp;try omega)
  go_region_held3 (fun w' => (w'.cell? ⟨w.heap.size, 0, none⟩ = some (S rm) ∧ w'.cell? ⟨w.heap.size, 1, none⟩ = some (S rs) ∧ w'.cell? ⟨w.heap.size, 2, none⟩ = some (S ra) ∧ w'.cell? ⟨w.heap.size, 3, none⟩ = some (S rp) ∧ w'.cell? ⟨w.heap.size, 4, none⟩ = some (.slice pr lr.length cr)) ∧ w'.cell? ⟨w.heap.size + 1, 3, none⟩ = some (.slice pf lf.length cf))
   (first | (with_reducible exact req_ent (w := w.heap.size) hQ hE) | (have tk := hlt2;exact req_ent (w := w.heap.size) (by repeat (first | (with_reducible exact hQ) | (with_reducible refine Blk.alloc ?_ _) | ((with_reducible refine Blk.other ?_ ?_ _);rotate_left;(dsimp only;omega)))) (by repeat (first | (with_reducible exact hE) | (with_reducible refine Blk.alloc ?_ _) | ((with_reducible refine Blk.other ?_ ?_ _);rotate_left;(dsimp only;omega))))) | (have tk := hlt1;with_reducible exact req_ent (w := w.heap.size) (hQ.alloc _) (hE.alloc _)) | (have tk := hlt1;with_reducible exact req_ent (w := w.heap.size) ((hQ.alloc _).alloc _) ((hE.alloc _).alloc _)) | go_keep)
   (first
    | (go_at_call 54;(with_reducible refine (HS.out w0.drew hs0).mono ?_);rintro e w1 ⟨rfl, hb1⟩;have hw1 : Below w0.heap.size w0 w1 := (Below.refl w0.heap.size w0).drew.trans (hb1.mono (by show w0.heap.size ≤ w0.heap.size;simp;try omega));have hf1 := (hf0.below hw1).mono hw1.size;have hlt1 : w0.heap.size + 0 ≤ w1.heap.size := (by have q : w0.heap.size ≤ w1.heap.size := hb1.size;(try simp at q);omega);have hq0 : Fs (w1).heap.size (w1) (.slice pf lf.length cf) lf := (hf1.below (Below.refl w1.heap.size w1)).mono (by simp;try omega);have hq1 : Fs ((w1.alloc Zc)).heap.size ((w1.alloc Zc)) (.slice pf lf.length cf) lf := (hf1.below ((Below.refl w1.heap.size w1).alloc (by simp) Zc)).mono (by simp;try omega);have hq2 : Fs (((w1.alloc Zc).alloc Zc)).heap.size (((w1.alloc Zc).alloc Zc)) (.slice pf lf.length cf) lf := (hf1.below (((Below.refl w1.heap.size w1).alloc (by simp) Zc).alloc (by simp) Zc)).mono (by simp;try omega);have tok0 := True.intro;have hQ := hQ0.on hw1;have hE := hE0.on hw1;have hzz := hw1.size)
    | (go_at_call 54;(with_reducible refine (HS.out (w0.alloc Zc).drew hs1).mono ?_);rintro e w1 ⟨rfl, hb1⟩;have hw1 : Below w0.heap.size w0 w1 := ((Below.refl w0.heap.size w0).alloc (by simp) Zc).drew.trans (hb1.mono (by show w0.heap.size ≤ (w0.alloc Zc).heap.size;simp;try omega));have hf1 := (hf0.below hw1).mono hw1.size;have hlt1 : w0.heap.size + 1 ≤ w1.heap.size := (by have q : (w0.alloc Zc).heap.size ≤ w1.heap.size := hb1.size;(try simp at q);omega);have hA1 : Blk w1 w0.heap.size 80 Zv := ((Blk.new w0 _ _).drew).on hb1;have hq0 : Fs (w1).heap.size (w1) (.slice pf lf.length cf) lf := (hf1.below (Below.refl w1.heap.size w1)).mono (by simp;try omega);have hq1 : Fs ((w1.alloc Zc)).heap.size ((w1.alloc Zc)) (.slice pf lf.length cf) lf := (hf1.below ((Below.refl w1.heap.size w1).alloc (by simp) Zc)).mono (by simp;try omega);have tok1 := True.intro;have hQ := hQ0.on hw1;have hE := hE0.on hw1;have hzz := hw1.size;obtain ⟨z0_0, z0_1, z0_2, z0_3, z0_4, z0_5, z0_6, z0_7, z0_8, z0_9, z0_10, z0_11⟩ := z12 hA1;have fz0 := hA1.free;have lz0 := hA1.lt)
    | (go_at_call 54;(with_reducible refine (HS.out ((w0.alloc Zc).alloc Zc).drew hs2).mono ?_);rintro e w1 ⟨rfl, hb1⟩;have hw1 : Below w0.heap.size w0 w1 := (((Below.refl w0.heap.size w0).alloc (by simp) Zc).alloc (by simp) Zc).drew.trans (hb1.mono (by show w0.heap.size ≤ ((w0.alloc Zc).alloc Zc).heap.size;simp;try omega));have hf1 := (hf0.below hw1).mono hw1.size;have hlt1 : w0.heap.size + 2 ≤ w1.heap.size := (by have q : ((w0.alloc Zc).alloc Zc).heap.size ≤ w1.heap.size := hb1.size;(try simp at q);omega);have hA1 : Blk w1 w0.heap.size 80 Zv := (((Blk.new w0 _ _).alloc _).drew).on hb1;have hB1 : Blk w1 (w0.heap.size + 1) 80 Zv := (show Blk ((w0.alloc Zc).alloc Zc).drew (w0.heap.size + 1) 80 Zv from (by have q := Blk.new (w0.alloc Zc) 80 Zv;rw [show (w0.alloc Zc).heap.size = w0.heap.size + 1 by simp] at q;exact q.drew)).on hb1;have hq0 : Fs (w1).heap.size (w1) (.slice pf lf.length cf) lf := (hf1.below (Below.refl w1.heap.size w1)).mono (by simp;try omega);have tok2 := True.intro;have hQ := hQ0.on hw1;have hE := hE0.on hw1;have hzz := hw1.size;obtain ⟨z0_0, z0_1, z0_2, z0_3, z0_4, z0_5, z0_6, z0_7, z0_8, z0_9, z0_10, z0_11⟩ := z12 hA1;have fz0 := hA1.free;have lz0 := hA1.lt;obtain ⟨z1_0, z1_1, z1_2, z1_3, z1_4, z1_5, z1_6, z1_7, z1_8, z1_9, z1_10, z1_11⟩ := z12 hB1;have fz1 := hB1.free;have lz1 := hB1.lt)
    | (go_at_call 84;have tk := tok0;(with_reducible refine (HR.out w1 hq0).mono ?_);rintro e w2 ⟨rfl, hb2⟩;have hw12 : Below w1.heap.size w1 w2 := (Below.refl w1.heap.size w1).trans (hb2.mono (by simp;try omega));have hw2 := Bl.tr hw1 hw12;have hlt2 : w1.heap.size + 0 ≤ w2.heap.size := (by have := hb2.size;(try simp at this);omega);have tik00 := True.intro;have hQ := hQ0.on hw2;have hE := hE0.on hw2;have hzz := hw2.size)
    | (go_at_call 84;have tk := tok0;(with_reducible refine (HR.out (w1.alloc Zc) hq1).mono ?_);rintro e w2 ⟨rfl, hb2⟩;have hw12 : Below w1.heap.size w1 w2 := ((Below.refl w1.heap.size w1).alloc (by simp) Zc).trans (hb2.mono (by simp;try omega));have hw2 := Bl.tr hw1 hw12;have hlt2 : w1.heap.size + 1 ≤ w2.heap.size := (by have := hb2.size;(try simp at this);omega);have hA2 : Blk w2 w1.heap.size 80 Zv := ((Blk.new w1 _ _)).on hb2;have tik01 := True.intro;have hQ := hQ0.on hw2;have hE := hE0.on hw2;have hzz := hw2.size;obtain ⟨z0_0, z0_1, z0_2, z0_3, z0_4, z0_5, z0_6, z0_7, z0_8, z0_9, z0_10, z0_11⟩ := z12 hA2;have fz0 := hA2.free;have lz0 := hA2.lt)
    | (go_at_call 84;have tk := tok0;(with_reducible refine (HR.out ((w1.alloc Zc).alloc Zc) hq2).mono ?_);rintro e w2 ⟨rfl, hb2⟩;have hw12 : Below w1.heap.size w1 w2 := (((Below.refl w1.heap.size w1).alloc (by simp) Zc).alloc (by simp) Zc).trans (hb2.mono (by simp;try omega));have hw2 := Bl.tr hw1 hw12;have hlt2 : w1.heap.size + 2 ≤ w2.heap.size := (by have := hb2.size;(try simp at this);omega);have hA2 : Blk w2 w1.heap.size 80 Zv := ((Blk.new w1 _ _).alloc _).on hb2;have hB2 : Blk w2 (w1.heap.size + 1) 80 Zv := (show Blk ((w1.alloc Zc).alloc Zc) (w1.heap.size + 1) 80 Zv from (by have q := Blk.new (w1.alloc Zc) 80 Zv;rwa [show (w1.alloc Zc).heap.size = w1.heap.size + 1 by simp] at q)).on hb2;have tik02 := True.intro;have hQ := hQ0.on hw2;have hE := hE0.on hw2;have hzz := hw2.size;obtain ⟨z0_0, z0_1, z0_2, z0_3, z0_4, z0_5, z0_6, z0_7, z0_8, z0_9, z0_10, z0_11⟩ := z12 hA2;have fz0 := hA2.free;have lz0 := hA2.lt;obtain ⟨z1_0, z1_1, z1_2, z1_3, z1_4, z1_5, z1_6, z1_7, z1_8, z1_9, z1_10, z1_11⟩ := z12 hB2;have fz1 := hB2.free;have lz1 := hB2.lt)
    | (go_at_call 84;have tk := tok1;(with_reducible refine (HR.out w1 hq0).mono ?_);rintro e w2 ⟨rfl, hb2⟩;have hw12 : Below w1.heap.size w1 w2 := (Below.refl w1.heap.size w1).trans (hb2.mono (by simp;try omega));have hw2 := Bl.tr hw1 hw12;have hlt2 : w1.heap.size + 0 ≤ w2.heap.size := (by have := hb2.size;(try simp at this);omega);have hA2 := hA1.on hw12;have tik10 := True.intro;have hQ := hQ0.on hw2;have hE := hE0.on hw2;have hzz := hw2.size;obtain ⟨z0_0, z0_1, z0_2, z0_3, z0_4, z0_5, z0_6, z0_7, z0_8, z0_9, z0_10, z0_11⟩ := z12 hA2;have fz0 := hA2.free;have lz0 := hA2.lt)
    | (go_at_call 84;have tk := tok1;(with_reducible refine (HR.out (w1.alloc Zc) hq1).mono ?_);rintro e w2 ⟨rfl, hb2⟩;have hw12 : Below w1.heap.size w1 w2 := ((Below.refl w1.heap.size w1).alloc (by simp) Zc).trans (hb2.mono (by simp;try omega));have hw2 := Bl.tr hw1 hw12;have hlt2 : w1.heap.size + 1 ≤ w2.heap.size := (by have := hb2.size;(try simp at this);omega);have hA2 := hA1.on hw12;have hB2 : Blk w2 w1.heap.size 80 Zv := ((Blk.new w1 _ _)).on hb2;have tik11 := True.intro;have hQ := hQ0.on hw2;have hE := hE0.on hw2;have hzz := hw2.size;obtain ⟨z0_0, z0_1, z0_2, z0_3, z0_4, z0_5, z0_6, z0_7, z0_8, z0_9, z0_10, z0_11⟩ := z12 hA2;have fz0 := hA2.free;have lz0 := hA2.lt;obtain ⟨z1_0, z1_1, z1_2, z1_3, z1_4, z1_5, z1_6, z1_7, z1_8, z1_9, z1_10, z1_11⟩ := z12 hB2;have fz1 := hB2.free;have lz1 := hB2.lt)
    | (go_at_call 84;have tk := tok2;(with_reducible refine (HR.out w1 hq0).mono ?_);rintro e w2 ⟨rfl, hb2⟩;have hw12 : Below w1.heap.size w1 w2 := (Below.refl w1.heap.size w1).trans (hb2.mono (by simp;try omega));have hw2 := Bl.tr hw1 hw12;have hlt2 : w1.heap.size + 0 ≤ w2.heap.size := (by have := hb2.size;(try simp at this);omega);have hA2 := hA1.on hw12;have hB2 := hB1.on hw12;have tik20 := True.intro;have hQ := hQ0.on hw2;have hE := hE0.on hw2;have hzz := hw2.size;obtain ⟨z0_0, z0_1, z0_2, z0_3, z0_4, z0_5, z0_6, z0_7, z0_8, z0_9, z0_10, z0_11⟩ := z12 hA2;have fz0 := hA2.free;have lz0 := hA2.lt;obtain ⟨z1_0, z1_1, z1_2, z1_3, z1_4, z1_5, z1_6, z1_7, z1_8, z1_9, z1_10, z1_11⟩ := z12 hB2;have fz1 := hB2.free;have lz1 := hB2.lt))
  all_goals
   go_wp2_with fail;go_meet
   refine ⟨_, _, rfl, rfl, ?_, ?_, ?_⟩
   ·unfold Ctl.cells;repeat (first | (with_reducible exact hA2) | (with_reducible exact hB2) | (with_reducible exact Blk.new _ _ _) | ((with_reducible refine Blk.new_at _ _ _ _ ?_);simp;done) | (with_reducible refine Blk.alloc ?_ _) | (with_reducible refine set12z ?_ _ _ _ _ _ _ _ _ _ _ _ _) | ((with_reducible refine Blk.other ?_ ?_ _);rotate_left;(dsimp only;omega)))
   ·unfold Ctl.cells;repeat (first | (with_reducible exact hA2) | (with_reducible exact hB2) | (with_reducible exact Blk.new _ _ _) | ((with_reducible refine Blk.new_at _ _ _ _ ?_);simp;done) | (with_reducible refine Blk.alloc ?_ _) | (with_reducible refine set12z ?_ _ _ _ _ _ _ _ _ _ _ _ _) | ((with_reducible refine Blk.other ?_ ?_ _);rotate_left;(dsimp only;omega)))
   ·repeat (first | (with_reducible exact hw2) | ((with_reducible refine Below.alloc ?_ ?_ _);rotate_left;(first | omega | (simp;done) | (simp;omega))) | ((with_reducible refine Below.setCell ?_ ?_ _);rotate_left;(dsimp only;omega)))
 case rest =>
  obtain ⟨b7, b8, rfl, rfl, hA, hB, hw1⟩ := hcut;have hw2 := Bl.tr hb0 hw1;have hE1 := hE0.on hw1;have hf1 := (hf0.below hw1).mono hw1.size;clear x0 x1 x2 x3 x4 y0 y1 y2 y3 y4 y5 y6 hQ0 hE0 hr0 hf0 hw1 hb0 hz0 HS HR;obtain ⟨y0, y1, y2, y3, y4, y5, y6⟩ := hE1.c7;go_wp2_with fail
  go_region_held3 (fun w' => w'.cell? ⟨w.heap.size + 1, 0, none⟩ = some (S key) ∧ w'.cell? ⟨w.heap.size + 1, 1, none⟩ = some (vp) ∧ w'.cell? ⟨w.heap.size + 1, 2, none⟩ = some (.int .i64 st) ∧ w'.cell? ⟨w.heap.size + 1, 3, none⟩ = some (.slice pf lf.length cf) ∧ w'.cell? ⟨w.heap.size + 1, 4, none⟩ = some (S body) ∧ w'.cell? ⟨w.heap.size + 1, 5, none⟩ = some (.int .i64 asked) ∧ w'.cell? ⟨w.heap.size + 1, 6, none⟩ = some (.int .i64 came))
   (first | go_keep)
   (first
    | (go_at_call 106;(with_reducible refine (HLi.out wc.drew hf1.drew).mono ?_);rintro e w3 ⟨rfl, hb3⟩;replace hb3 := Bl.undrew hb3;have hw3 := Bl.tr hw2 hb3;have hE3 := hE1.on hb3;have hA3 := hA.on hb3;have hB3 := hB.on hb3;have hf3 := (hf1.below hb3).mono hb3.size;(have y0 : w3.cell? ⟨w.heap.size + 1, 0, none⟩ = some (S key) := hE3.cell 0;have y1 : w3.cell? ⟨w.heap.size + 1, 1, none⟩ = some (vp) := hE3.cell 1;have y2 : w3.cell? ⟨w.heap.size + 1, 2, none⟩ = some (.int .i64 st) := hE3.cell 2;have y3 : w3.cell? ⟨w.heap.size + 1, 3, none⟩ = some (.slice pf lf.length cf) := hE3.cell 3;have y4 : w3.cell? ⟨w.heap.size + 1, 4, none⟩ = some (S body) := hE3.cell 4;have y5 : w3.cell? ⟨w.heap.size + 1, 5, none⟩ = some (.int .i64 asked) := hE3.cell 5;have y6 : w3.cell? ⟨w.heap.size + 1, 6, none⟩ = some (.int .i64 came) := hE3.cell 6))
    | (go_at_call 107;(with_reducible refine (HAg.out w3 hf3).mono ?_);rintro e w4 ⟨rfl, hb4⟩;have hw4 := Bl.tr hw3 hb4;have hE4 := hE3.on hb4;have hA4 := hA3.on hb4;have hB4 := hB3.on hb4;(have y0 : w4.cell? ⟨w.heap.size + 1, 0, none⟩ = some (S key) := hE4.cell 0;have y1 : w4.cell? ⟨w.heap.size + 1, 1, none⟩ = some (vp) := hE4.cell 1;have y2 : w4.cell? ⟨w.heap.size + 1, 2, none⟩ = some (.int .i64 st) := hE4.cell 2;have y3 : w4.cell? ⟨w.heap.size + 1, 3, none⟩ = some (.slice pf lf.length cf) := hE4.cell 3;have y4 : w4.cell? ⟨w.heap.size + 1, 4, none⟩ = some (S body) := hE4.cell 4;have y5 : w4.cell? ⟨w.heap.size + 1, 5, none⟩ = some (.int .i64 asked) := hE4.cell 5;have y6 : w4.cell? ⟨w.heap.size + 1, 6, none⟩ = some (.int .i64 came) := hE4.cell 6)))
  clear hE1 hA hB hf1 hb3 hw3 hE3 hA3 hB3 hf3 hb4 hE4 HLi HAg hw2 y0 y1 y2 y3 y4 y5 y6;obtain ⟨ans, anc, ant, apu, apr, amr, apx, aoi, ama, asm', amf, ams⟩ := a;obtain ⟨bns, bnc, bnt, bpu, bpr, bmr, bpx, boi, bma, bsm, bmf, bms⟩ := b;obtain ⟨⟨oa1, oa2⟩, -, ⟨oa3, oa4⟩, oa5, oa6⟩ := oa;obtain ⟨-, ⟨ob1, ob2⟩, -⟩ := ob;simp only at oa1 oa2 oa3 oa4 oa5 oa6 ob1 ob2;have x1 := hA4.k1;have x8 := hA4.k8;have x10 := hA4.k10;have x11 := hA4.k11;have z1 := hB4.k1;have z5 := hB4.k5;have z6 := hB4.k6;have z9 := hB4.k9;clear hA4 hB4;go_upto_region 3 with fail
  go_cut [50] (fun s wx => s = .bool (decide (GoodNo ⟨ans, anc, ant, apu, apr, amr, apx, aoi, ama, asm', amf, ams⟩ ⟨bns, bnc, bnt, bpu, bpr, bmr, bpx, boi, bma, bsm, bmf, bms⟩ life age)) ∧ w4 = wx)
  case first =>
   clear x11 z5 z6 z9 HG;have GT := fun h => (decide_eq_true (p := GoodNo ⟨ans, anc, ant, apu, apr, amr, apx, aoi, ama, asm', amf, ams⟩ ⟨bns, bnc, bnt, bpu, bpr, bmr, bpx, boi, bma, bsm, bmf, bms⟩ life age) h).symm
   have GF := fun h => (decide_eq_false (p := GoodNo ⟨ans, anc, ant, apu, apr, amr, apx, aoi, ama, asm', amf, ams⟩ ⟨bns, bnc, bnt, bpu, bpr, bmr, bpx, boi, bma, bsm, bmf, bms⟩ life age) h).symm
   unfold GoodNo at GT GF;simp only at GT GF
   cases anc with
   | true =>
    have HT := Lib.hid (GT (.inl rfl));clear GT GF;go_wp2;go_meet
    exact ⟨congrArg Value.bool HT.out, rfl⟩
   | false =>
   cases bnc with
   | true =>
    have HT := Lib.hid (GT (.inr (.inl rfl)));clear GT GF;go_wp2;go_meet
    exact ⟨congrArg Value.bool HT.out, rfl⟩
   | false =>
   by_cases h1 : 0 ≤ ama
   ·by_cases h2 : ama < (age : Int)
    ·have HT := Lib.hid (GT (.inr (.inr (.inl ⟨h1, h2⟩))))
     clear GT GF;go_wp2;go_meet
     exact ⟨congrArg Value.bool HT.out, rfl⟩
    ·by_cases h3 : 0 ≤ amf
     ·by_cases h4 : (life : Int) - age < amf
      ·have HT := Lib.hid (GT (.inr (.inr (.inr ⟨h3, h4⟩))))
       clear GT GF;go_wp2;go_meet
       exact ⟨congrArg Value.bool HT.out, rfl⟩
      ·have HT := Lib.hid (GF (by simp;omega))
       clear GT GF;go_wp2;go_meet
       exact ⟨congrArg Value.bool HT.out, rfl⟩
     ·have HT := Lib.hid (GF (by simp;omega))
      clear GT GF;go_wp2;go_meet
      exact ⟨congrArg Value.bool HT.out, rfl⟩
   ·by_cases h3 : 0 ≤ amf
    ·by_cases h4 : (life : Int) - age < amf
     ·have HT := Lib.hid (GT (.inr (.inr (.inr ⟨h3, h4⟩))))
      clear GT GF;go_wp2;go_meet
      exact ⟨congrArg Value.bool HT.out, rfl⟩
     ·have HT := Lib.hid (GF (by simp;omega))
      clear GT GF;go_wp2;go_meet
      exact ⟨congrArg Value.bool HT.out, rfl⟩
    ·have HT := Lib.hid (GF (by simp;omega))
     clear GT GF;go_wp2;go_meet
     exact ⟨congrArg Value.bool HT.out, rfl⟩
  case rest =>
   obtain ⟨rfl, rfl⟩ := hcut;by_cases hP : GoodNo ⟨ans, anc, ant, apu, apr, amr, apx, aoi, ama, asm', amf, ams⟩ ⟨bns, bnc, bnt, bpu, bpr, bmr, bpx, boi, bma, bsm, bmf, bms⟩ life age
   ·have HR := Lib.hid (good_no hP)
    rw [decide_eq_true hP];clear hP;go_wp2;go_ret;exact ⟨ret_bool (by rw [HG.out, HR.out]), hw4⟩
   ·rw [decide_eq_false hP]
    by_cases hn : age < life
    ·have HR := Lib.hid (good_new hP hn)
     have g1 : decide (age < life) = true := (by simpa using hn);clear hP hn;go_wp2;go_ret;exact ⟨ret_bool (by rw [HG.out, HR.out]), hw4⟩
    ·have HR := Lib.hid (good_old hP hn)
     have g1 : decide (age < life) = false := (by simpa using hn);clear hP hn;simp only at HR;by_cases h1 : 0 ≤ ams
     ·by_cases h2 : (age : Int) - life ≤ ams
      ·have HR := HR.out
       rw [decide_eq_true (p := 0 ≤ ams ∧ (age : Int) - life ≤ ams) ⟨h1, h2⟩] at HR;have HR := Lib.hid HR
       cases bmr <;> cases bpx
       all_goals
        go_wp2
        all_goals go_ret
        all_goals exact ⟨ret_bool (by rw [HG.out, HR.out];simp [*]), hw4⟩
      ·have HR := HR.out
       rw [decide_eq_false (p := 0 ≤ ams ∧ (age : Int) - life ≤ ams) (fun e => h2 e.2)] at HR;have HR := Lib.hid HR;go_wp2;go_ret;exact ⟨ret_bool (by rw [HG.out, HR.out];simp), hw4⟩
     ·have HR := HR.out
      rw [decide_eq_false (p := 0 ≤ ams ∧ (age : Int) - life ≤ ams) (fun e => h1 e.1)] at HR;have HR := Lib.hid HR;go_wp2;go_ret;exact ⟨ret_bool (by rw [HG.out, HR.out];simp), hw4⟩
end Go.Proofs.YtahapblgmehngaaGreatDoor
namespace Go.Dr
theorem leap_400 (y : Nat) (h : y % 400 = 0) : leapY y = true := by
 have : y % 4 = 0 := (by omega)
 simp [leapY, h, this]
theorem leap_400b (y : Nat) (h : ((y : Int) % 400 == 0) = true) : true = leapY y := by
 have h2 : (y : Int) % 400 = 0 := (by simpa using h);exact (leap_400 y (by omega)).symm
theorem leap_p (y : Nat) (h' : ((y : Int) % 400 == 0) = false) (h4 : (y : Int) % 4 = 0) : ((y : Int) % 100 != 0) = leapY y := by
 have h : ¬ (y : Int) % 400 = 0 := (by simpa using h');have a : y % 4 = 0 := (by omega);have b : ¬ y % 400 = 0 := (by omega);by_cases c : y % 100 = 0
 ·have c' : (y : Int) % 100 = 0 := by omega
  simp [leapY, a, b, c, c']
 ·have c' : ¬ (y : Int) % 100 = 0 := by omega
  simp [leapY, a, b, c, c']
theorem leap_q (y : Nat) (h4 : ¬ (y : Int) % 4 = 0) : false = leapY y := by
 have a : ¬ y % 4 = 0 := (by omega);simp [leapY, a]
theorem dig_a (c : UInt8) (h : 48 ≤ (c.toNat : Int)) : decide ((c.toNat : Int) ≤ 57) = isDig c := by
 unfold isDig;by_cases h2 : (c.toNat : Int) ≤ 57
 ·rw [decide_eq_true h2];symm;simp;omega
 ·rw [decide_eq_false h2];symm;simp;omega
theorem dig_b (c : UInt8) (h : ¬ 48 ≤ (c.toNat : Int)) : false = isDig c := by
 unfold isDig
 symm;simp;omega
def Dt.val (x : Dt) : Value := .agg #[.int .i64 x.year, .int .i64 ((x.month : Int) + 1), .int .i64 x.day, .int .i64 x.hour, .int .i64 x.min, .int .i64 x.sec, .int .i64 x.week]
end Go.Dr
namespace Go.Proofs.YtahapblgmehngaaGreatDoor
open Go.RowKit Go.Dr
theorem refDigit_any (c : UInt8) (w : World) : Calls Tryz.prog 153 #[B8 c] w fun e w' => e = .returned (.bool (isDig c)) ∧ w = w' := by
 go_enter Tryz.func153, Tryz.ntmps153
 go_wp2
 all_goals
  go_ret
  first
   | exact ⟨ret_bool (dig_a c (by omega)), rfl⟩
   | exact ⟨ret_bool (dig_b c (by omega)), rfl⟩
theorem refLeap_any (y : Nat) (w : World) (hy : y ≤ 1099511627776) : Calls Tryz.prog 154 #[.int .i64 y] w fun e w' => e = .returned (.bool (leapY y)) ∧ w = w' := by
 go_enter Tryz.func154, Tryz.ntmps154
 go_wp2
 all_goals
  go_ret
  first
   | exact ⟨ret_bool (leap_400b y (by assumption)), rfl⟩
   | exact ⟨ret_bool (leap_p y (by assumption) (by assumption)), rfl⟩
   | exact ⟨ret_bool (leap_q y (by assumption)), rfl⟩
theorem refDays_any (y m : Nat) (i : Int) (w : World) (hi : i = (m : Int) + 1) (hy : y ≤ 1099511627776) (hm : m < 12) : Calls Tryz.prog 155 #[.int .i64 y, .int .i64 i] w fun e w' => e = .returned (.int .i64 (mLen y m : Nat)) ∧ w = w' := by
 subst hi;have HC := Lib.hid (fun w => refLeap_any y w hy);have HL : Hid (leapY y = true → mLen y 1 = 29) := Lib.hid fun h => by simp [mLen, h]
 have HL2 : Hid (leapY y = false → mLen y 1 = 28) := Lib.hid fun h => by simp [mLen, h, mLens]
 match m, hm with
 | 1, _ =>
  cases hl : leapY y with
  | true =>
   have e := Lib.hid (HL.out hl);rw [hl] at HC;clear hl HL HL2;simp only [show ((1 : Nat) : Int) + 1 = 2 from rfl];go_enter Tryz.func155, Tryz.ntmps155
   go_wp2_with fail;refine (HC.out w).mono ?_;rintro e w1 ⟨rfl, rfl⟩;go_wp2;go_ret;exact ⟨ret_int (by rw [e.out];rfl), rfl⟩
  | false =>
   have e := Lib.hid (HL2.out hl);rw [hl] at HC;clear hl HL HL2;simp only [show ((1 : Nat) : Int) + 1 = 2 from rfl];go_enter Tryz.func155, Tryz.ntmps155
   go_wp2_with fail;refine (HC.out w).mono ?_;rintro e w1 ⟨rfl, rfl⟩;go_wp2;go_ret;exact ⟨ret_int (by rw [e.out];rfl), rfl⟩
 | 0, _ =>
  have e : Hid (mLen y 0 = 31) := mLen_no y 0 (fun h => absurd h.1 (by decide));clear HC HL HL2;simp only [show ((0 : Nat) : Int) + 1 = 1 from rfl];go_enter Tryz.func155, Tryz.ntmps155
  go_wp2;go_ret;exact ⟨ret_int (by rw [e.out];rfl), rfl⟩
 | 2, _ =>
  have e : Hid (mLen y 2 = 31) := mLen_no y 2 (fun h => absurd h.1 (by decide));clear HC HL HL2;simp only [show ((2 : Nat) : Int) + 1 = 3 from rfl];go_enter Tryz.func155, Tryz.ntmps155
  go_wp2;go_ret;exact ⟨ret_int (by rw [e.out];rfl), rfl⟩
 | 3, _ =>
  have e : Hid (mLen y 3 = 30) := mLen_no y 3 (fun h => absurd h.1 (by decide));clear HC HL HL2;simp only [show ((3 : Nat) : Int) + 1 = 4 from rfl];go_enter Tryz.func155, Tryz.ntmps155
  go_wp2;go_ret;exact ⟨ret_int (by rw [e.out];rfl), rfl⟩
 | 4, _ =>
  have e : Hid (mLen y 4 = 31) := mLen_no y 4 (fun h => absurd h.1 (by decide));clear HC HL HL2;simp only [show ((4 : Nat) : Int) + 1 = 5 from rfl];go_enter Tryz.func155, Tryz.ntmps155
  go_wp2;go_ret;exact ⟨ret_int (by rw [e.out];rfl), rfl⟩
 | 5, _ =>
  have e : Hid (mLen y 5 = 30) := mLen_no y 5 (fun h => absurd h.1 (by decide));clear HC HL HL2;simp only [show ((5 : Nat) : Int) + 1 = 6 from rfl];go_enter Tryz.func155, Tryz.ntmps155
  go_wp2;go_ret;exact ⟨ret_int (by rw [e.out];rfl), rfl⟩
 | 6, _ =>
  have e : Hid (mLen y 6 = 31) := mLen_no y 6 (fun h => absurd h.1 (by decide));clear HC HL HL2;simp only [show ((6 : Nat) : Int) + 1 = 7 from rfl];go_enter Tryz.func155, Tryz.ntmps155
  go_wp2;go_ret;exact ⟨ret_int (by rw [e.out];rfl), rfl⟩
 | 7, _ =>
  have e : Hid (mLen y 7 = 31) := mLen_no y 7 (fun h => absurd h.1 (by decide));clear HC HL HL2;simp only [show ((7 : Nat) : Int) + 1 = 8 from rfl];go_enter Tryz.func155, Tryz.ntmps155
  go_wp2;go_ret;exact ⟨ret_int (by rw [e.out];rfl), rfl⟩
 | 8, _ =>
  have e : Hid (mLen y 8 = 30) := mLen_no y 8 (fun h => absurd h.1 (by decide));clear HC HL HL2;simp only [show ((8 : Nat) : Int) + 1 = 9 from rfl];go_enter Tryz.func155, Tryz.ntmps155
  go_wp2;go_ret;exact ⟨ret_int (by rw [e.out];rfl), rfl⟩
 | 9, _ =>
  have e : Hid (mLen y 9 = 31) := mLen_no y 9 (fun h => absurd h.1 (by decide));clear HC HL HL2;simp only [show ((9 : Nat) : Int) + 1 = 10 from rfl];go_enter Tryz.func155, Tryz.ntmps155
  go_wp2;go_ret;exact ⟨ret_int (by rw [e.out];rfl), rfl⟩
 | 10, _ =>
  have e : Hid (mLen y 10 = 30) := mLen_no y 10 (fun h => absurd h.1 (by decide));clear HC HL HL2;simp only [show ((10 : Nat) : Int) + 1 = 11 from rfl];go_enter Tryz.func155, Tryz.ntmps155
  go_wp2;go_ret;exact ⟨ret_int (by rw [e.out];rfl), rfl⟩
 | 11, _ =>
  have e : Hid (mLen y 11 = 31) := mLen_no y 11 (fun h => absurd h.1 (by decide));clear HC HL HL2;simp only [show ((11 : Nat) : Int) + 1 = 12 from rfl];go_enter Tryz.func155, Tryz.ntmps155
  go_wp2;go_ret;exact ⟨ret_int (by rw [e.out];rfl), rfl⟩
theorem ret_of {W : World} {tmps : Array Value} {b : Nat} {y0 y1 y2 y3 y4 y5 y6 : Int} {R : Ending → World → Prop} (hs : tmps[2]? = some (.pointer (some ⟨b, 0, none⟩))) (h : Blk W b 165 #[.int .i64 y0, .int .i64 y1, .int .i64 y2, .int .i64 y3, .int .i64 y4, .int .i64 y5, .int .i64 y6]) (hR : R (.returned (.agg #[.int .i64 y0, .int .i64 y1, .int .i64 y2, .int .i64 y3, .int .i64 y4, .int .i64 y5, .int .i64 y6])) W) :
  bodyPost Tryz.prog Tryz.f132 R .ret { tmps := tmps, defers := [] } W := by
 have g0 : W.cell? ⟨b, 0, none⟩ = some (.int .i64 y0) := h.cell 0;have g1 : W.cell? ⟨b, 1, none⟩ = some (.int .i64 y1) := h.cell 1;have g2 : W.cell? ⟨b, 2, none⟩ = some (.int .i64 y2) := h.cell 2;have g3 : W.cell? ⟨b, 3, none⟩ = some (.int .i64 y3) := h.cell 3;have g4 : W.cell? ⟨b, 4, none⟩ = some (.int .i64 y4) := h.cell 4;have g5 : W.cell? ⟨b, 5, none⟩ = some (.int .i64 y5) := h.cell 5;have g6 : W.cell? ⟨b, 6, none⟩ = some (.int .i64 y6) := h.cell 6;exact bodyPost_ret (v := .agg #[.int .i64 y0, .int .i64 y1, .int .i64 y2, .int .i64 y3, .int .i64 y4, .int .i64 y5, .int .i64 y6]) (by simp [results, Tryz.results132, go_sem, hs, g0, g1, g2, g3, g4, g5, g6]) rfl hR
theorem cells7 (a0 a1 a2 a3 a4 a5 a6 b0 b1 b2 b3 b4 b5 b6 : Value) : (((((((#[a0, a1, a2, a3, a4, a5, a6] : Array Value).setIfInBounds 0 b0).setIfInBounds 1 b1).setIfInBounds 2 b2).setIfInBounds 3 b3).setIfInBounds 4 b4).setIfInBounds 5 b5).setIfInBounds 6 b6 = #[b0, b1, b2, b3, b4, b5, b6] := by simp
theorem mLen_pos (y m : Nat) (hm : m < 12) : 28 ≤ mLen y m := by
 unfold mLen
 split
 ·decide
 ·match m, hm with
  | 0, _ | 1, _ | 2, _ | 3, _ | 4, _ | 5, _ | 6, _ | 7, _ | 8, _ | 9, _ | 10, _ | 11, _ => decide
theorem begY_1970 : begY 1970 = 0 := by decide
theorem yl_int (y : Nat) (h : 1970 ≤ y) : begY (y + 1) = begY y + (365 + (if leapY y = true then 1 else 0)) := by rw [begY_step y h];omega
theorem ahead_lt (y m d : Nat) (h : d < 365 + (if leapY y = true then 1 else 0)) (hm : aheadM y m ≤ d) : m < 12 := by
 by_cases h1 : m < 12
 ·exact h1
 ·have h2 := aheadM_mono y 12 (m - 12)
  rw [show 12 + (m - 12) = m by omega, aheadM_12] at h2;omega
theorem refOf_any (v : Nat) (w : World) (hv : v ≤ 900000000000) : Calls Tryz.prog 132 #[.int .i64 v] w fun e w' => ∃ x : Dt, IsDt v x ∧ e = .returned x.val ∧ Below w.heap.size w w' := by
 obtain ⟨D, hD⟩ : ∃ D, D = v / 86400 := ⟨_, rfl⟩;obtain ⟨s, hs⟩ : ∃ s, s = v % 86400 := ⟨_, rfl⟩;have e1 : ((v : Int) / 86400) = (D : Int) := (by omega);have e2 : ((v : Int) % 86400) = (s : Int) := (by omega);have hD2 : D ≤ 10500000 := (by omega);have hs2 : s < 86400 := (by omega);have HV : Hid (v = D * 86400 + s) := (by show _ = _;omega);clear hD hs;go_enter Tryz.func132, Tryz.ntmps132
 go_wp2;clear e1 e2;obtain ⟨w0, ew⟩ : ∃ w0 : World, w0 = (w.alloc (.cells #[.int .i64 0, .int .i64 0, .int .i64 0, .int .i64 0, .int .i64 0, .int .i64 0, .int .i64 0] 165)).alloc (.cells #[.int .i64 1970, .int .i64 1, .int .i64 0, .int .i64 ((s : Int) / 3600), .int .i64 ((s : Int) / 60 % 60), .int .i64 ((s : Int) % 60), .int .i64 ((D : Int) % 7)] 165) := ⟨_, rfl⟩;have hR0 : Blk w0 w.heap.size 165 #[.int .i64 0, .int .i64 0, .int .i64 0, .int .i64 0, .int .i64 0, .int .i64 0, .int .i64 0] := (by rw [ew];exact (Blk.new _ _ _).alloc _)
 have hX0 : Blk w0 (w.heap.size + 1) 165 #[.int .i64 1970, .int .i64 1, .int .i64 0, .int .i64 ((s : Int) / 3600), .int .i64 ((s : Int) / 60 % 60), .int .i64 ((s : Int) % 60), .int .i64 ((D : Int) % 7)] := by
  rw [ew];have := Blk.new (w.alloc (.cells #[.int .i64 0, .int .i64 0, .int .i64 0, .int .i64 0, .int .i64 0, .int .i64 0, .int .i64 0] 165)) 165 #[.int .i64 1970, .int .i64 1, .int .i64 0, .int .i64 ((s : Int) / 3600), .int .i64 ((s : Int) / 60 % 60), .int .i64 ((s : Int) % 60), .int .i64 ((D : Int) % 7)]
  rwa [show (w.alloc (.cells #[.int .i64 0, .int .i64 0, .int .i64 0, .int .i64 0, .int .i64 0, .int .i64 0, .int .i64 0] 165)).heap.size = w.heap.size + 1 by simp] at this
 have hb0 : Below w.heap.size w w0 := (by rw [ew];exact ((Below.refl _ _).alloc (Nat.le_refl _) _).alloc (by simp) _);rw [← ew];clear ew
 have HT : ∀ (y m d2 : Nat), 1970 ≤ y → m < 12 → d2 + 1 ≤ mLen y m → begY y + (aheadM y m + d2) = D → IsDt v ⟨y, m, d2 + 1, s / 3600, s / 60 % 60, s % 60, D % 7⟩ := fun y m d2 h1 h2 h3 h4 => by
  have hd : Dt.days ⟨y, m, d2 + 1, s / 3600, s / 60 % 60, s % 60, D % 7⟩ = D := by
   show dayOf y m (d2 + 1) = D
   unfold dayOf;omega
  refine ⟨h1, h2, by show 1 ≤ d2 + 1;omega, h3, by show s / 3600 ≤ 23;omega, by show s / 60 % 60 ≤ 59;omega, by show s % 60 ≤ 59;omega, by rw [hd], ?_⟩;unfold Dt.at;rw [hd, HV.out]
  show D * 86400 + s = D * 86400 + (3600 * (s / 3600) + 60 * (s / 60 % 60) + s % 60)
  omega
 have HT := Lib.hid HT
 go_loopw [3, 6] (fun d n wr => ∃ y dd : Nat, d = .int .i64 dd ∧ 1970 ≤ y ∧ begY y + dd = D ∧ Blk wr w.heap.size 165 #[.int .i64 0, .int .i64 0, .int .i64 0, .int .i64 0, .int .i64 0, .int .i64 0, .int .i64 0] ∧ Blk wr (w.heap.size + 1) 165 #[.int .i64 (y : Nat), .int .i64 1, .int .i64 0, .int .i64 ((s : Int) / 3600), .int .i64 ((s : Int) / 60 % 60), .int .i64 ((s : Int) % 60), .int .i64 ((D : Int) % 7)] ∧ Below w.heap.size w wr) (fun d _ _ => (intOf d).toNat)
 case atStart => exact ⟨1970, D, rfl, by omega, by rw [begY_1970];omega, hR0, hX0, hb0⟩
 case round =>
  obtain ⟨y, dd, rfl, hy, hbd, hZ, hX, hbel⟩ := hrel;have hy2 := begY_high y hy;have k0 : wr.cell? ⟨w.heap.size + 1, 0, none⟩ = some (.int .i64 (y : Nat)) := hX.cell 0;have f0 := hX.free 0;have HY := Lib.hid (yl_int y hy);have HA := fun m h1 h2 => Lib.hid (ahead_lt y m dd h1 h2)
  have HBD := Lib.hid hbd;have hdd : dd ≤ 10500000 := (by omega);have hyb : y ≤ 40000 := (by omega);have hlp := refLeap_any y wr (by omega);have hML := fun m => mLen_le y m
  clear hR0 hX0 hb0 hbd hy2;go_wp2_with fail;refine hlp.mono ?_;rintro e w1 ⟨rfl, hw1⟩;obtain rfl : wr = w1 := hw1;clear hlp
  cases hl : leapY y with
  | true =>
   rw [hl] at HY HA;by_cases hbrk : dd < 366
   ·have hA12 : ∀ m, aheadM y m ≤ dd → m < 12 := fun m h => (HA m (by simp;omega) h).out
    have HA12 := Lib.hid hA12;have gb : decide ((dd : Int) < 366) = true := (by simp;omega);clear hA12 HA HY hl hbrk;obtain ⟨wo, hwo⟩ : ∃ wo : World, wo = wr := ⟨_, rfl⟩;rw [← hwo] at hZ hX hbel k0 f0 ⊢;clear hwo;go_wp2;clear k0 f0
    go_loopw [3] (fun d wr => ∃ m d2 : Nat, d = .int .i64 d2 ∧ m < 12 ∧ Hid (aheadM y m + d2 = dd) ∧ d2 ≤ dd ∧ Blk wr w.heap.size 165 #[.int .i64 0, .int .i64 0, .int .i64 0, .int .i64 0, .int .i64 0, .int .i64 0, .int .i64 0] ∧ Blk wr (w.heap.size + 1) 165 #[.int .i64 (y : Nat), .int .i64 ((m : Int) + 1), .int .i64 0, .int .i64 ((s : Int) / 3600), .int .i64 ((s : Int) / 60 % 60), .int .i64 ((s : Int) % 60), .int .i64 ((D : Int) % 7)] ∧ Below w.heap.size w wr) (fun d _ => (intOf d).toNat)
    case atStart => exact ⟨0, dd, rfl, by decide, by show _ = _;simp [aheadM], Nat.le_refl _, hZ, hX, hbel⟩
    case round =>
     clear hZ hX hbel;obtain ⟨m, d2, rfl, hm, HM, hd2, hZ, hX, hbel⟩ := hrel;have k0 : wr.cell? ⟨w.heap.size + 1, 0, none⟩ = some (.int .i64 (y : Nat)) := hX.cell 0;have k1 : wr.cell? ⟨w.heap.size + 1, 1, none⟩ = some (.int .i64 ((m : Int) + 1)) := hX.cell 1;have f1 := hX.free 1;have f2 := hX.free 2;have hdy := refDays_any y m ((m : Int) + 1) wr rfl (by omega) hm;have hpos := mLen_pos y m hm;have hle := hML m;have HS : Hid (aheadM y (m + 1) = aheadM y m + mLen y m) := rfl;have HTm := Lib.hid (HT.out y m d2 hy hm);generalize mLen y m = L at *;go_wp2_with fail;refine hdy.mono ?_;rintro e w1 ⟨rfl, hw1⟩;obtain rfl : wr = w1 := hw1;by_cases hgo : L ≤ d2
     ·have HM2 : Hid (aheadM y (m + 1) + (d2 - L) = dd) := by show _ = _;have := HM.out;have := HS.out;omega
      have hm2 : m + 1 < 12 := HA12.out (m + 1) (by have := HM2.out;omega);clear HM HS HTm;go_wp2_with fail;refine hdy.mono ?_;rintro e w1 ⟨rfl, hw1⟩;obtain rfl : wr = w1 := hw1;have hX2 := hX.set 1 (.int .i64 ((m : Int) + 1 + 1));clear hdy;go_wp2
      go_roundw
      case rel => exact ⟨m + 1, d2 - L, by go_num, hm2, HM2, by omega, hZ.other (p := ⟨w.heap.size + 1, 1, none⟩) (by simp) _, by simpa using hX2, hbel.setCell (p := ⟨w.heap.size + 1, 1, none⟩) (by simp) _⟩
      case measure => simp [intOf];omega
     ·have HTx := Lib.hid (HTm.out (by omega) (by have h1 := HM.out;have h2 := HBD.out;omega))
      clear HM HS HTm hdy HT;have k3 : wr.cell? ⟨w.heap.size + 1, 3, none⟩ = some (.int .i64 ((s : Int) / 3600)) := hX.cell 3;have k4 : wr.cell? ⟨w.heap.size + 1, 4, none⟩ = some (.int .i64 ((s : Int) / 60 % 60)) := hX.cell 4;have k5 : wr.cell? ⟨w.heap.size + 1, 5, none⟩ = some (.int .i64 ((s : Int) % 60)) := hX.cell 5;have k6 : wr.cell? ⟨w.heap.size + 1, 6, none⟩ = some (.int .i64 ((D : Int) % 7)) := hX.cell 6;have k2 : wr.cell? ⟨w.heap.size + 1, 2, none⟩ = some (.int .i64 0) := hX.cell 2;obtain ⟨z0, z1, z2, z3, z4, z5, z6⟩ := hZ.c7;have fz := hZ.free;go_wp2;have hR := ((((((((hZ.other (p := ⟨w.heap.size + 1, 2, none⟩) (by simp) (.int .i64 ((d2 : Int) + 1))).set 0 (.int .i64 (y : Nat))).set 1 (.int .i64 ((m : Int) + 1))).set 2 (.int .i64 ((d2 : Int) + 1))).set 3 (.int .i64 ((s : Int) / 3600))).set 4 (.int .i64 ((s : Int) / 60 % 60))).set 5 (.int .i64 ((s : Int) % 60))).set 6 (.int .i64 ((D : Int) % 7)));rw [cells7] at hR;exact ret_of rfl hR ⟨_, HTx.out, by simp [Dt.val], (((((((hbel.setCell (by simp) _).setCell (Nat.le_refl _) _).setCell (Nat.le_refl _) _).setCell (Nat.le_refl _) _).setCell (Nat.le_refl _) _).setCell (Nat.le_refl _) _).setCell (Nat.le_refl _) _).setCell (Nat.le_refl _) _⟩
   ·have HY2 : Hid (begY (y + 1) + (dd - 366) = D) := by show _ = _;have h1 := HY.out;have h2 := HBD.out;simp at h1;omega
    have hX2 := hX.set 0 (.int .i64 ((y : Int) + 1));clear HY HA HBD hl;go_wp2
    go_roundw
    case rel => exact ⟨y + 1, dd - 366, by go_num, by omega, HY2.out, hZ.other (by simp) _, by simpa using hX2, hbel.setCell (by simp) _⟩
    case measure => simp [intOf];omega
  | false =>
   rw [hl] at HY HA;by_cases hbrk : dd < 365
   ·have hA12 : ∀ m, aheadM y m ≤ dd → m < 12 := fun m h => (HA m (by simp;omega) h).out
    have HA12 := Lib.hid hA12;have gb : decide ((dd : Int) < 365) = true := (by simp;omega);clear hA12 HA HY hl hbrk;obtain ⟨wo, hwo⟩ : ∃ wo : World, wo = wr := ⟨_, rfl⟩;rw [← hwo] at hZ hX hbel k0 f0 ⊢;clear hwo;go_wp2;clear k0 f0
    go_loopw [3] (fun d wr => ∃ m d2 : Nat, d = .int .i64 d2 ∧ m < 12 ∧ Hid (aheadM y m + d2 = dd) ∧ d2 ≤ dd ∧ Blk wr w.heap.size 165 #[.int .i64 0, .int .i64 0, .int .i64 0, .int .i64 0, .int .i64 0, .int .i64 0, .int .i64 0] ∧ Blk wr (w.heap.size + 1) 165 #[.int .i64 (y : Nat), .int .i64 ((m : Int) + 1), .int .i64 0, .int .i64 ((s : Int) / 3600), .int .i64 ((s : Int) / 60 % 60), .int .i64 ((s : Int) % 60), .int .i64 ((D : Int) % 7)] ∧ Below w.heap.size w wr) (fun d _ => (intOf d).toNat)
    case atStart => exact ⟨0, dd, rfl, by decide, by show _ = _;simp [aheadM], Nat.le_refl _, hZ, hX, hbel⟩
    case round =>
     clear hZ hX hbel;obtain ⟨m, d2, rfl, hm, HM, hd2, hZ, hX, hbel⟩ := hrel;have k0 : wr.cell? ⟨w.heap.size + 1, 0, none⟩ = some (.int .i64 (y : Nat)) := hX.cell 0;have k1 : wr.cell? ⟨w.heap.size + 1, 1, none⟩ = some (.int .i64 ((m : Int) + 1)) := hX.cell 1;have f1 := hX.free 1;have f2 := hX.free 2;have hdy := refDays_any y m ((m : Int) + 1) wr rfl (by omega) hm;have hpos := mLen_pos y m hm;have hle := hML m;have HS : Hid (aheadM y (m + 1) = aheadM y m + mLen y m) := rfl;have HTm := Lib.hid (HT.out y m d2 hy hm);generalize mLen y m = L at *;go_wp2_with fail;refine hdy.mono ?_;rintro e w1 ⟨rfl, hw1⟩;obtain rfl : wr = w1 := hw1;by_cases hgo : L ≤ d2
     ·have HM2 : Hid (aheadM y (m + 1) + (d2 - L) = dd) := by show _ = _;have := HM.out;have := HS.out;omega
      have hm2 : m + 1 < 12 := HA12.out (m + 1) (by have := HM2.out;omega);clear HM HS HTm;go_wp2_with fail;refine hdy.mono ?_;rintro e w1 ⟨rfl, hw1⟩;obtain rfl : wr = w1 := hw1;have hX2 := hX.set 1 (.int .i64 ((m : Int) + 1 + 1));clear hdy;go_wp2
      go_roundw
      case rel => exact ⟨m + 1, d2 - L, by go_num, hm2, HM2, by omega, hZ.other (p := ⟨w.heap.size + 1, 1, none⟩) (by simp) _, by simpa using hX2, hbel.setCell (p := ⟨w.heap.size + 1, 1, none⟩) (by simp) _⟩
      case measure => simp [intOf];omega
     ·have HTx := Lib.hid (HTm.out (by omega) (by have h1 := HM.out;have h2 := HBD.out;omega))
      clear HM HS HTm hdy HT;have k3 : wr.cell? ⟨w.heap.size + 1, 3, none⟩ = some (.int .i64 ((s : Int) / 3600)) := hX.cell 3;have k4 : wr.cell? ⟨w.heap.size + 1, 4, none⟩ = some (.int .i64 ((s : Int) / 60 % 60)) := hX.cell 4;have k5 : wr.cell? ⟨w.heap.size + 1, 5, none⟩ = some (.int .i64 ((s : Int) % 60)) := hX.cell 5;have k6 : wr.cell? ⟨w.heap.size + 1, 6, none⟩ = some (.int .i64 ((D : Int) % 7)) := hX.cell 6;have k2 : wr.cell? ⟨w.heap.size + 1, 2, none⟩ = some (.int .i64 0) := hX.cell 2;obtain ⟨z0, z1, z2, z3, z4, z5, z6⟩ := hZ.c7;have fz := hZ.free;go_wp2;have hR := ((((((((hZ.other (p := ⟨w.heap.size + 1, 2, none⟩) (by simp) (.int .i64 ((d2 : Int) + 1))).set 0 (.int .i64 (y : Nat))).set 1 (.int .i64 ((m : Int) + 1))).set 2 (.int .i64 ((d2 : Int) + 1))).set 3 (.int .i64 ((s : Int) / 3600))).set 4 (.int .i64 ((s : Int) / 60 % 60))).set 5 (.int .i64 ((s : Int) % 60))).set 6 (.int .i64 ((D : Int) % 7)));rw [cells7] at hR;exact ret_of rfl hR ⟨_, HTx.out, by simp [Dt.val], (((((((hbel.setCell (by simp) _).setCell (Nat.le_refl _) _).setCell (Nat.le_refl _) _).setCell (Nat.le_refl _) _).setCell (Nat.le_refl _) _).setCell (Nat.le_refl _) _).setCell (Nat.le_refl _) _).setCell (Nat.le_refl _) _⟩
   ·have HY2 : Hid (begY (y + 1) + (dd - 365) = D) := by show _ = _;have h1 := HY.out;have h2 := HBD.out;simp at h1;omega
    have hX2 := hX.set 0 (.int .i64 ((y : Int) + 1));clear HY HA HBD hl;go_wp2
    go_roundw
    case rel => exact ⟨y + 1, dd - 365, by go_num, by omega, HY2.out, hZ.other (by simp) _, by simpa using hX2, hbel.setCell (by simp) _⟩
    case measure => simp [intOf];omega
end Go.Proofs.YtahapblgmehngaaGreatDoor
namespace Go.Dr
def padF (n size : Nat) : Bytes := List.replicate (size - (digs n).length) 48 ++ digs n
theorem padF_2 (n : Nat) (h : n < 100) : padF n 2 = pad2 n := by
 unfold padF;by_cases h1 : n < 10
 ·rw [digs_small h1]
  have e : dg (n / 10) = 48 := by
   apply UInt8.toNat_inj.1
   rw [dg_nat];simp;omega
  simp [pad2, e]
 ·rw [digs_step h1, digs_small (show n / 10 < 10 by omega)]
  simp [pad2]
theorem padF_4 (n : Nat) (h0 : 1000 ≤ n) (h : n < 10000) : padF n 4 = pad4 n := by
 unfold padF;rw [digs_step (show ¬ n < 10 by omega), digs_step (show ¬ n / 10 < 10 by omega), digs_step (show ¬ n / 10 / 10 < 10 by omega), digs_small (show n / 10 / 10 / 10 < 10 by omega)];have e1 : n / 10 / 10 = n / 100 := (by omega);have e2 : n / 10 / 10 / 10 = n / 1000 := (by omega);rw [e2, e1];simp [pad4]
end Go.Dr
namespace Go.Proofs.YtahapblgmehngaaGreatDoor
open Go.RowKit Go.Dr
theorem refPad_any (n size : Nat) (w : World) (hn : n ≤ 1099511627776) (hs : size ≤ 10) : Calls Tryz.prog 158 #[.int .i64 n, .int .i64 size] w fun e w' => e = .returned (S (padF n size)) ∧ Below w.heap.size w w' := by
 have HP : Hid (padF n size = List.replicate (size - (digs n).length) 48 ++ digs n) := rfl;have hl := digs_length n 12 (by omega);generalize padF n size = pf at *;go_enter Tryz.func158, Tryz.ntmps158
 go_wp2_with fail;refine (refDigits_any n w (by omega)).mono ?_;rintro e w1 ⟨rfl, hb1⟩;generalize digs n = d at *;go_wp2
 go_loopw [5] (fun s wr => ∃ k : Nat, s = S (List.replicate k 48 ++ d) ∧ (k = 0 ∨ k + d.length ≤ size) ∧ wr = w1) (fun s _ => size - (match s with | .string b => b.size | _ => 0))
 case atStart => exact ⟨0, rfl, .inl rfl, rfl⟩
 case round =>
  obtain ⟨k, rfl, hk, hwe⟩ := hrel;obtain rfl : w1 = wr := hwe.symm;have hlen : (List.replicate k (48 : UInt8) ++ d).length = k + d.length := (by simp);have hbig : k + d.length ≤ 30 := (by omega);by_cases hlt : k + d.length < size
  ·have g : decide (((List.replicate k (48 : UInt8) ++ d).length : Int) < (size : Int)) = true := by rw [hlen];simp;omega
   have hadd : ∀ w' : World, (Op.stringOp .add ⟨#[48]⟩ ⟨(List.replicate k (48 : UInt8) ++ d).toArray⟩).run Tryz.prog w' = .ok (S (List.replicate (k + 1) 48 ++ d)) w' := fun w' => by
    have := run_string_add_sum (P := Tryz.prog) (w := w') ⟨#[48]⟩ ⟨(List.replicate k (48 : UInt8) ++ d).toArray⟩ (by simp [ByteArray.size];omega)
    rw [this];rw [show (⟨#[48]⟩ : ByteArray) = ⟨([48] : Bytes).toArray⟩ from rfl, ba_append];rfl
   have hmeas : size - (k + 1 + d.length) < size - (k + d.length) := (by omega);have hl1 : (⟨(List.replicate (k + 1) (48 : UInt8) ++ d).toArray⟩ : ByteArray).size = k + 1 + d.length := (by simp [ByteArray.size]);have hl2 : (⟨(List.replicate k (48 : UInt8) ++ d).toArray⟩ : ByteArray).size = k + d.length := (by simp [ByteArray.size]);generalize hq : (List.replicate k (48 : UInt8) ++ d) = q at *;clear hq;go_wp2
   go_roundw
   case rel => exact ⟨k + 1, rfl, .inr (by omega), trivial⟩
   case measure => simp only [hl1, hl2];exact hmeas
  ·have HF : Hid (List.replicate k (48 : UInt8) ++ d = pf) := by
    show _ = _
    rw [HP.out]
    congr 2
    omega
   have g : decide (((List.replicate k (48 : UInt8) ++ d).length : Int) < (size : Int)) = false := (by rw [hlen];simp;omega);generalize hq : (List.replicate k (48 : UInt8) ++ d) = q at *;clear hq;go_wp2;go_ret;exact ⟨ret_S HF.out, hb1⟩
theorem refPad2 (n : Nat) (w : World) (hn : n ≤ 1099511627776) : Calls Tryz.prog 158 #[.int .i64 n, .int .i64 2] w fun e w' => e = .returned (S (padF n 2)) ∧ Below w.heap.size w w' := refPad_any n 2 w hn (by decide)
theorem refPad4 (n : Nat) (w : World) (hn : n ≤ 1099511627776) : Calls Tryz.prog 158 #[.int .i64 n, .int .i64 4] w fun e w' => e = .returned (S (padF n 4)) ∧ Below w.heap.size w w' := refPad_any n 4 w hn (by decide)
theorem Months_any (w : World) : Calls Tryz.prog 157 #[] w (RetSs 9 w monTab) := by
 go_enter Tryz.func157, Tryz.ntmps157
 go_wp2;go_ret;exact ⟨_, rfl, World.ownsRow_lit (base := w.heap.size) (e := 9) (size := 1) w (monTab.map S).toArray 12 (Nat.le_refl _) (by decide) rfl, (Below.refl _ _).alloc (Nat.le_refl _) _⟩
theorem Weekdays_any (w : World) : Calls Tryz.prog 156 #[] w (RetSs 9 w longTab) := by
 go_enter Tryz.func156, Tryz.ntmps156
 go_wp2;go_ret;exact ⟨_, rfl, World.ownsRow_lit (base := w.heap.size) (e := 9) (size := 1) w (longTab.map S).toArray 7 (Nat.le_refl _) (by decide) rfl, (Below.refl _ _).alloc (Nat.le_refl _) _⟩
end Go.Proofs.YtahapblgmehngaaGreatDoor
namespace Go.Dr
theorem isDig_i (c : UInt8) (h : isDig c = true) : (48 : Int) ≤ (c.toNat : Int) ∧ (c.toNat : Int) ≤ 57 := by
 simp only [isDig, decide_eq_true_iff] at h;omega
theorem twoF_no1 {s : Bytes} {a : Int} (h : a < 0) : twoF s a = -1 := by unfold twoF;rw [if_neg];omega
theorem twoF_no2 {s : Bytes} {a : Int} (h : (s.length : Int) < a + 2) : twoF s a = -1 := by unfold twoF;rw [if_neg];omega
theorem getD_at (s : Bytes) (k : Nat) (h : k < s.length) : s.getD k 0 = s[k] := by simp [List.getD, List.getElem?_eq_getElem h]
theorem twoF_no3 {s : Bytes} {k : Nat} (h : k + 1 < s.length) (hd : isDig s[k] = false) : twoF s (k : Int) = -1 := by
 unfold twoF;rw [if_neg];intro e;have := e.2.2.1
 rw [Int.toNat_natCast, getD_at s k (by omega), hd] at this
 cases this
theorem twoF_no4 {s : Bytes} {k : Nat} (h : k + 1 < s.length) (hd : isDig s[k + 1] = false) : twoF s (k : Int) = -1 := by
 unfold twoF;rw [if_neg];intro e;have := e.2.2.2
 rw [Int.toNat_natCast, getD_at s (k + 1) (by omega), hd] at this
 cases this
theorem twoF_yes {s : Bytes} {k : Nat} (h : k + 1 < s.length) (h1 : isDig s[k] = true) (h2 : isDig s[k + 1] = true) : twoF s (k : Int) = ((s[k].toNat : Int) - 48) * 10 + ((s[k + 1].toNat : Int) - 48) := by
 unfold twoF;rw [Int.toNat_natCast, getD_at s k (by omega), getD_at s (k + 1) (by omega), if_pos ⟨by omega, by omega, h1, h2⟩]
end Go.Dr
namespace Go.Proofs.YtahapblgmehngaaGreatDoor
open Go.RowKit Go.Dr
theorem refTwo_any (s : Bytes) (a : Int) (w : World) (hs : s.length ≤ 1099511627776) (ha : -1000 ≤ a) (ha2 : a ≤ 2199023255552) : Calls Tryz.prog 151 #[S s, .int .i64 a] w fun e w' => e = .returned (.int .i64 (twoF s a)) ∧ Below w.heap.size w w' := by
 by_cases h0 : a < 0
 ·have H := Lib.hid (twoF_no1 (s := s) h0)
  go_enter Tryz.func151, Tryz.ntmps151
  go_wp2;go_ret;exact ⟨ret_int H.out.symm, Below.refl _ _⟩
 obtain ⟨k, rfl⟩ := Int.eq_ofNat_of_zero_le (show 0 ≤ a by omega);by_cases h1 : (s.length : Int) < (k : Int) + 2
 ·have H := Lib.hid (twoF_no2 (s := s) h1)
  go_enter Tryz.func151, Tryz.ntmps151
  go_wp2;go_ret;exact ⟨ret_int H.out.symm, Below.refl _ _⟩
 have hk : k + 1 < s.length := (by omega);have D1 := Lib.hid (fun w => refDigit_any s[k] w);have D2 := Lib.hid (fun w => refDigit_any s[k + 1] w);clear h0
 cases hd1 : isDig s[k] with
 | false =>
  have H := Lib.hid (twoF_no3 hk hd1);rw [hd1] at D1;clear hd1 D2;go_enter Tryz.func151, Tryz.ntmps151
  go_wp2_with fail;refine (D1.out _).mono ?_;rintro e w1 ⟨rfl, rfl⟩;go_wp2;go_ret;exact ⟨ret_int H.out.symm, Below.refl _ _⟩
 | true =>
  cases hd2 : isDig s[k + 1] with
  | false =>
   have H := Lib.hid (twoF_no4 hk hd2);rw [hd1] at D1;rw [hd2] at D2;clear hd1 hd2;go_enter Tryz.func151, Tryz.ntmps151
   go_wp2_with fail;refine (D1.out _).mono ?_;rintro e w1 ⟨rfl, rfl⟩;go_wp2_with fail;refine (D2.out _).mono ?_;rintro e w1 ⟨rfl, rfl⟩;go_wp2;go_ret;exact ⟨ret_int H.out.symm, Below.refl _ _⟩
  | true =>
   have H := Lib.hid (twoF_yes hk hd1 hd2);have b1 := isDig_i _ hd1;have b2 := isDig_i _ hd2;rw [hd1] at D1;rw [hd2] at D2;clear hd1 hd2;go_enter Tryz.func151, Tryz.ntmps151
   go_wp2_with fail;refine (D1.out _).mono ?_;rintro e w1 ⟨rfl, rfl⟩;go_wp2_with fail;refine (D2.out _).mono ?_;rintro e w1 ⟨rfl, rfl⟩;go_wp2;go_quiet (fail)
   go_wp2;go_ret;exact ⟨ret_int H.out.symm, below_drewN (Below.refl _ _) _⟩
end Go.Proofs.YtahapblgmehngaaGreatDoor
