/- Parts of the proof of DealLacks_holds: the texts Stor2. -/
import Derived.Test.YtahapblgmehngaaGreatDoorC39
set_option linter.unusedSimpArgs false
set_option linter.unusedVariables false
set_option linter.unnecessarySimpa false
namespace Go.Proofs.YtahapblgmehngaaGreatDoor
open Go.RowKit Go.Dr

theorem req_box {wx : World} {w : Nat} {rm rs ra rp : Bytes} {vr vf : Value} (hQ : Blk wx w 28 #[S rm, S rs, S ra, S rp, vr]) (hE : Blk wx (w + 2) 26 #[vf]) :
    (wx.cell? ⟨w, 0, none⟩ = some (S rm) ∧ wx.cell? ⟨w, 1, none⟩ = some (S rs) ∧ wx.cell? ⟨w, 2, none⟩ = some (S ra) ∧ wx.cell? ⟨w, 3, none⟩ = some (S rp) ∧ wx.cell? ⟨w, 4, none⟩ = some (vr)) ∧ wx.cell? ⟨w + 2, 0, none⟩ = some vf :=
  ⟨⟨hQ.cell 0, hQ.cell 1, hQ.cell 2, hQ.cell 3, hQ.cell 4⟩, hE.cell 0⟩
abbrev Zb : Obj := .cells #[.bool false] 4

set_option maxRecDepth 100000 in
set_option maxHeartbeats 16000000 in
theorem Storable_any (r : Rq) (st : Int) (v : Value) (lr lf : List F) (w : World) (hr : Fs w.heap.size w r.v lr) (hf : Fs w.heap.size w v lf) (hl : fsum lr ≤ 1099511627776) (hl2 : fsum lf ≤ 1099511627776) :
    Calls Tryz.prog 49 #[r.val, .int .i64 st, v] w fun e w' => e = .returned (.bool (storF r.m st lr lf)) ∧ Below w.heap.size w w' := by
  obtain ⟨pr, cr, hrv, -⟩ := hr.form
  obtain ⟨pf, cf, rfl, -⟩ := hf.form
  obtain ⟨rm, rs, ra, rp, rv⟩ := r
  simp only at hrv hr
  subst hrv
  simp only [Rq.val]
  have hmf : ∀ (fn : Fn) (first cap : Array Value) (w : World), (Instr.makeFunc fn first cap).run Tryz.prog w = .ok (.func fn first cap) w := fun _ _ _ _ => rfl
  have HR := Lib.hid (fun w h => Read_any lf (.slice pf lf.length cf) w h hl2)
  have HS := Lib.hid (fun w h => Read_any lr (.slice pr lr.length cr) w h hl)
  have HX := Lib.hid (fun w h => frHas_any lf expiresN (.slice pf lf.length cf) w h hl2 (by decide))
  have K3 : Hid ((!(readC lr).ns && !(readC lf).ns && !(readC lf).pr) = ask3 (readC lr) (readC lf)) := rfl
  have K4 := Lib.hid (fun R B w h hf hB => keep4_any R B (readC lf) lr (.slice pr lr.length cr) w h hf hl hB)
  have K5 := Lib.hid (fun L w h hf => keep5_any L lf (.slice pf lf.length cf) w h hf hl2)
  have K6 := Lib.hid (fun C T L w hC hT hL hf => keep6_any C T L (toldB18 (readC lf) lf) st lf (.slice pf lf.length cf) w hC hT hL hf hl2)
  have K2 := Lib.hid (fun T w h => keep2_any T st w h)
  have HT : Hid (toldB18 (readC lf) lf = (decide (0 ≤ (readC lf).ma) || decide (0 ≤ (readC lf).sm) || (readC lf).pu || hasN lf expiresN)) := rfl
  have HG : Hid (storF rm st lr lf = ((rm == [71, 69, 84]) && ask2 st && ask3 (readC lr) (readC lf) && ask4 lr (readC lf) && ask5 lf && ask6 (toldB18 (readC lf) lf) st lf)) := rfl
  have K1 := Lib.hid (fun R w h => keep1_any R rm w h)
  generalize (rm == [71, 69, 84]) = r1 at *
  generalize storF rm st lr lf = G at *
  generalize ask6 (toldB18 (readC lf) lf) st lf = r6 at *
  generalize toldB18 (readC lf) lf = told at *
  generalize hasN lf expiresN = he at *
  generalize ask5 lf = r5 at *
  generalize ask4 lr (readC lf) = r4 at *
  generalize ask3 (readC lr) (readC lf) = r3 at *
  generalize ask2 st = r2 at *
  generalize readC lr = a at *
  generalize readC lf = b at *
  obtain ⟨u1, eu1⟩ : ∃ u1 : World, u1 = w.alloc (.cells #[S rm, S rs, S ra, S rp, .slice pr lr.length cr] 28) := ⟨_, rfl⟩
  have hu1 : u1.heap.size = w.heap.size + 1 := by rw [eu1]; simp
  obtain ⟨u2, eu2⟩ : ∃ u2 : World, u2 = u1.alloc (.cells #[.int .i64 st] 3) := ⟨_, rfl⟩
  have hu2 : u2.heap.size = w.heap.size + 2 := by rw [eu2]; simp [hu1]
  obtain ⟨w0, ew⟩ : ∃ w0 : World, w0 = u2.alloc (.cells #[.slice pf lf.length cf] 26) := ⟨_, rfl⟩
  have hQ0 : Blk w0 w.heap.size 28 #[S rm, S rs, S ra, S rp, .slice pr lr.length cr] := by rw [ew, eu2, eu1]; exact ((Blk.new _ _ _).alloc _).alloc _
  have hT0 : Blk w0 (w.heap.size + 1) 3 #[.int .i64 st] := by
    rw [ew]
    have := Blk.new u1 3 #[.int .i64 st]
    rw [hu1, ← eu2] at this
    exact this.alloc _
  have hE0 : Blk w0 (w.heap.size + 2) 26 #[.slice pf lf.length cf] := by
    rw [ew]
    have := Blk.new u2 26 #[.slice pf lf.length cf]
    rwa [hu2] at this
  have hb0 : Below w.heap.size w w0 := by rw [ew]; exact Below.alloc (by rw [eu2]; exact Below.alloc (by rw [eu1]; exact (Below.refl _ _).alloc (Nat.le_refl _) _) (by omega) _) (by omega) _
  have hr0 := (hr.below hb0).mono hb0.size
  have hf0 := (hf.below hb0).mono hb0.size
  have hz0 := hE0.lt
  rw [eu2, eu1] at ew
  clear eu2 eu1 hu1 hu2 u2 u1
  go_enter Tryz.func49, Tryz.ntmps49
  go_upto_region 1 with fail
  rw [← ew]
  clear ew hr hf
  (have x0 : w0.cell? ⟨w.heap.size, 0, none⟩ = some (S rm) := hQ0.cell 0; have x1 : w0.cell? ⟨w.heap.size, 1, none⟩ = some (S rs) := hQ0.cell 1; have x2 : w0.cell? ⟨w.heap.size, 2, none⟩ = some (S ra) := hQ0.cell 2; have x3 : w0.cell? ⟨w.heap.size, 3, none⟩ = some (S rp) := hQ0.cell 3; have x4 : w0.cell? ⟨w.heap.size, 4, none⟩ = some (.slice pr lr.length cr) := hQ0.cell 4)
  have y0 : w0.cell? ⟨w.heap.size + 2, 0, none⟩ = some (.slice pf lf.length cf) := hE0.cell 0
  go_cut [7, 8] (fun s7 s8 wx => ∃ b7 b8 : Nat, s7 = .pointer (some ⟨b7, 0, none⟩) ∧ s8 = .pointer (some ⟨b8, 0, none⟩) ∧ Blk wx b7 80 a.cells ∧ Blk wx b8 80 b.cells ∧ Below w0.heap.size w0 wx)
  case first =>
    have hs0 : Fs (w0.drew).heap.size (w0.drew) (.slice pr lr.length cr) lr := (hr0.below (Below.refl w0.heap.size w0).drew).mono (by show w0.heap.size ≤ w0.heap.size; simp; try omega)
    have hs1 : Fs ((w0.alloc Zc).drew).heap.size ((w0.alloc Zc).drew) (.slice pr lr.length cr) lr := (hr0.below ((Below.refl w0.heap.size w0).alloc (by simp) Zc).drew).mono (by show w0.heap.size ≤ (w0.alloc Zc).heap.size; simp; try omega)
    have hs2 : Fs (((w0.alloc Zc).alloc Zc).drew).heap.size (((w0.alloc Zc).alloc Zc).drew) (.slice pr lr.length cr) lr := (hr0.below (((Below.refl w0.heap.size w0).alloc (by simp) Zc).alloc (by simp) Zc).drew).mono (by show w0.heap.size ≤ ((w0.alloc Zc).alloc Zc).heap.size; simp; try omega)
    go_region_held3 (fun w' => (w'.cell? ⟨w.heap.size, 0, none⟩ = some (S rm) ∧ w'.cell? ⟨w.heap.size, 1, none⟩ = some (S rs) ∧ w'.cell? ⟨w.heap.size, 2, none⟩ = some (S ra) ∧ w'.cell? ⟨w.heap.size, 3, none⟩ = some (S rp) ∧ w'.cell? ⟨w.heap.size, 4, none⟩ = some (.slice pr lr.length cr)) ∧ w'.cell? ⟨w.heap.size + 2, 0, none⟩ = some (.slice pf lf.length cf))
      (first | (with_reducible exact req_box (w := w.heap.size) hQ hE) | (have tk := hlt2; exact req_box (w := w.heap.size) (by repeat (first | (with_reducible exact hQ) | (with_reducible refine Blk.alloc ?_ _) | ((with_reducible refine Blk.other ?_ ?_ _); rotate_left; (dsimp only; omega)))) (by repeat (first | (with_reducible exact hE) | (with_reducible refine Blk.alloc ?_ _) | ((with_reducible refine Blk.other ?_ ?_ _); rotate_left; (dsimp only; omega))))) | (have tk := hlt1; with_reducible exact req_box (w := w.heap.size) (hQ.alloc _) (hE.alloc _)) | (have tk := hlt1; with_reducible exact req_box (w := w.heap.size) ((hQ.alloc _).alloc _) ((hE.alloc _).alloc _)) | go_keep)
      (first
        | (go_at_call 84; (with_reducible refine (HS.out w0.drew hs0).mono ?_); rintro e w1 ⟨rfl, hb1⟩; have hw1 : Below w0.heap.size w0 w1 := (Below.refl w0.heap.size w0).drew.trans (hb1.mono (by show w0.heap.size ≤ w0.heap.size; simp; try omega)); have hf1 := (hf0.below hw1).mono hw1.size; have hlt1 : w0.heap.size + 0 ≤ w1.heap.size := (by have q : w0.heap.size ≤ w1.heap.size := hb1.size; (try simp at q); omega); have hq0 : Fs (w1).heap.size (w1) (.slice pf lf.length cf) lf := (hf1.below (Below.refl w1.heap.size w1)).mono (by simp; try omega); have hq1 : Fs ((w1.alloc Zc)).heap.size ((w1.alloc Zc)) (.slice pf lf.length cf) lf := (hf1.below ((Below.refl w1.heap.size w1).alloc (by simp) Zc)).mono (by simp; try omega); have hq2 : Fs (((w1.alloc Zc).alloc Zc)).heap.size (((w1.alloc Zc).alloc Zc)) (.slice pf lf.length cf) lf := (hf1.below (((Below.refl w1.heap.size w1).alloc (by simp) Zc).alloc (by simp) Zc)).mono (by simp; try omega); have tok0 := True.intro; have hQ := hQ0.on hw1; have hE := hE0.on hw1; have hzz := hw1.size)
        | (go_at_call 84; (with_reducible refine (HS.out (w0.alloc Zc).drew hs1).mono ?_); rintro e w1 ⟨rfl, hb1⟩; have hw1 : Below w0.heap.size w0 w1 := ((Below.refl w0.heap.size w0).alloc (by simp) Zc).drew.trans (hb1.mono (by show w0.heap.size ≤ (w0.alloc Zc).heap.size; simp; try omega)); have hf1 := (hf0.below hw1).mono hw1.size; have hlt1 : w0.heap.size + 1 ≤ w1.heap.size := (by have q : (w0.alloc Zc).heap.size ≤ w1.heap.size := hb1.size; (try simp at q); omega); have hA1 : Blk w1 w0.heap.size 80 Zv := ((Blk.new w0 _ _).drew).on hb1; have hq0 : Fs (w1).heap.size (w1) (.slice pf lf.length cf) lf := (hf1.below (Below.refl w1.heap.size w1)).mono (by simp; try omega); have hq1 : Fs ((w1.alloc Zc)).heap.size ((w1.alloc Zc)) (.slice pf lf.length cf) lf := (hf1.below ((Below.refl w1.heap.size w1).alloc (by simp) Zc)).mono (by simp; try omega); have tok1 := True.intro; have hQ := hQ0.on hw1; have hE := hE0.on hw1; have hzz := hw1.size; obtain ⟨z0_0, z0_1, z0_2, z0_3, z0_4, z0_5, z0_6, z0_7, z0_8, z0_9, z0_10, z0_11⟩ := z12 hA1; have fz0 := hA1.free; have lz0 := hA1.lt)
        | (go_at_call 84; (with_reducible refine (HS.out ((w0.alloc Zc).alloc Zc).drew hs2).mono ?_); rintro e w1 ⟨rfl, hb1⟩; have hw1 : Below w0.heap.size w0 w1 := (((Below.refl w0.heap.size w0).alloc (by simp) Zc).alloc (by simp) Zc).drew.trans (hb1.mono (by show w0.heap.size ≤ ((w0.alloc Zc).alloc Zc).heap.size; simp; try omega)); have hf1 := (hf0.below hw1).mono hw1.size; have hlt1 : w0.heap.size + 2 ≤ w1.heap.size := (by have q : ((w0.alloc Zc).alloc Zc).heap.size ≤ w1.heap.size := hb1.size; (try simp at q); omega); have hA1 : Blk w1 w0.heap.size 80 Zv := (((Blk.new w0 _ _).alloc _).drew).on hb1; have hB1 : Blk w1 (w0.heap.size + 1) 80 Zv := (show Blk ((w0.alloc Zc).alloc Zc).drew (w0.heap.size + 1) 80 Zv from (by have q := Blk.new (w0.alloc Zc) 80 Zv; rw [show (w0.alloc Zc).heap.size = w0.heap.size + 1 by simp] at q; exact q.drew)).on hb1; have hq0 : Fs (w1).heap.size (w1) (.slice pf lf.length cf) lf := (hf1.below (Below.refl w1.heap.size w1)).mono (by simp; try omega); have tok2 := True.intro; have hQ := hQ0.on hw1; have hE := hE0.on hw1; have hzz := hw1.size; obtain ⟨z0_0, z0_1, z0_2, z0_3, z0_4, z0_5, z0_6, z0_7, z0_8, z0_9, z0_10, z0_11⟩ := z12 hA1; have fz0 := hA1.free; have lz0 := hA1.lt; obtain ⟨z1_0, z1_1, z1_2, z1_3, z1_4, z1_5, z1_6, z1_7, z1_8, z1_9, z1_10, z1_11⟩ := z12 hB1; have fz1 := hB1.free; have lz1 := hB1.lt)
        | (go_at_call 84; have tk := tok0; (with_reducible refine (HR.out w1 hq0).mono ?_); rintro e w2 ⟨rfl, hb2⟩; have hw12 : Below w1.heap.size w1 w2 := (Below.refl w1.heap.size w1).trans (hb2.mono (by simp; try omega)); have hw2 := Bl.tr hw1 hw12; have hlt2 : w1.heap.size + 0 ≤ w2.heap.size := (by have := hb2.size; (try simp at this); omega); have tik00 := True.intro; have hQ := hQ0.on hw2; have hE := hE0.on hw2; have hzz := hw2.size)
        | (go_at_call 84; have tk := tok0; (with_reducible refine (HR.out (w1.alloc Zc) hq1).mono ?_); rintro e w2 ⟨rfl, hb2⟩; have hw12 : Below w1.heap.size w1 w2 := ((Below.refl w1.heap.size w1).alloc (by simp) Zc).trans (hb2.mono (by simp; try omega)); have hw2 := Bl.tr hw1 hw12; have hlt2 : w1.heap.size + 1 ≤ w2.heap.size := (by have := hb2.size; (try simp at this); omega); have hA2 : Blk w2 w1.heap.size 80 Zv := ((Blk.new w1 _ _)).on hb2; have tik01 := True.intro; have hQ := hQ0.on hw2; have hE := hE0.on hw2; have hzz := hw2.size; obtain ⟨z0_0, z0_1, z0_2, z0_3, z0_4, z0_5, z0_6, z0_7, z0_8, z0_9, z0_10, z0_11⟩ := z12 hA2; have fz0 := hA2.free; have lz0 := hA2.lt)
        | (go_at_call 84; have tk := tok0; (with_reducible refine (HR.out ((w1.alloc Zc).alloc Zc) hq2).mono ?_); rintro e w2 ⟨rfl, hb2⟩; have hw12 : Below w1.heap.size w1 w2 := (((Below.refl w1.heap.size w1).alloc (by simp) Zc).alloc (by simp) Zc).trans (hb2.mono (by simp; try omega)); have hw2 := Bl.tr hw1 hw12; have hlt2 : w1.heap.size + 2 ≤ w2.heap.size := (by have := hb2.size; (try simp at this); omega); have hA2 : Blk w2 w1.heap.size 80 Zv := ((Blk.new w1 _ _).alloc _).on hb2; have hB2 : Blk w2 (w1.heap.size + 1) 80 Zv := (show Blk ((w1.alloc Zc).alloc Zc) (w1.heap.size + 1) 80 Zv from (by have q := Blk.new (w1.alloc Zc) 80 Zv; rwa [show (w1.alloc Zc).heap.size = w1.heap.size + 1 by simp] at q)).on hb2; have tik02 := True.intro; have hQ := hQ0.on hw2; have hE := hE0.on hw2; have hzz := hw2.size; obtain ⟨z0_0, z0_1, z0_2, z0_3, z0_4, z0_5, z0_6, z0_7, z0_8, z0_9, z0_10, z0_11⟩ := z12 hA2; have fz0 := hA2.free; have lz0 := hA2.lt; obtain ⟨z1_0, z1_1, z1_2, z1_3, z1_4, z1_5, z1_6, z1_7, z1_8, z1_9, z1_10, z1_11⟩ := z12 hB2; have fz1 := hB2.free; have lz1 := hB2.lt)
        | (go_at_call 84; have tk := tok1; (with_reducible refine (HR.out w1 hq0).mono ?_); rintro e w2 ⟨rfl, hb2⟩; have hw12 : Below w1.heap.size w1 w2 := (Below.refl w1.heap.size w1).trans (hb2.mono (by simp; try omega)); have hw2 := Bl.tr hw1 hw12; have hlt2 : w1.heap.size + 0 ≤ w2.heap.size := (by have := hb2.size; (try simp at this); omega); have hA2 := hA1.on hw12; have tik10 := True.intro; have hQ := hQ0.on hw2; have hE := hE0.on hw2; have hzz := hw2.size; obtain ⟨z0_0, z0_1, z0_2, z0_3, z0_4, z0_5, z0_6, z0_7, z0_8, z0_9, z0_10, z0_11⟩ := z12 hA2; have fz0 := hA2.free; have lz0 := hA2.lt)
        | (go_at_call 84; have tk := tok1; (with_reducible refine (HR.out (w1.alloc Zc) hq1).mono ?_); rintro e w2 ⟨rfl, hb2⟩; have hw12 : Below w1.heap.size w1 w2 := ((Below.refl w1.heap.size w1).alloc (by simp) Zc).trans (hb2.mono (by simp; try omega)); have hw2 := Bl.tr hw1 hw12; have hlt2 : w1.heap.size + 1 ≤ w2.heap.size := (by have := hb2.size; (try simp at this); omega); have hA2 := hA1.on hw12; have hB2 : Blk w2 w1.heap.size 80 Zv := ((Blk.new w1 _ _)).on hb2; have tik11 := True.intro; have hQ := hQ0.on hw2; have hE := hE0.on hw2; have hzz := hw2.size; obtain ⟨z0_0, z0_1, z0_2, z0_3, z0_4, z0_5, z0_6, z0_7, z0_8, z0_9, z0_10, z0_11⟩ := z12 hA2; have fz0 := hA2.free; have lz0 := hA2.lt; obtain ⟨z1_0, z1_1, z1_2, z1_3, z1_4, z1_5, z1_6, z1_7, z1_8, z1_9, z1_10, z1_11⟩ := z12 hB2; have fz1 := hB2.free; have lz1 := hB2.lt)
        | (go_at_call 84; have tk := tok2; (with_reducible refine (HR.out w1 hq0).mono ?_); rintro e w2 ⟨rfl, hb2⟩; have hw12 : Below w1.heap.size w1 w2 := (Below.refl w1.heap.size w1).trans (hb2.mono (by simp; try omega)); have hw2 := Bl.tr hw1 hw12; have hlt2 : w1.heap.size + 0 ≤ w2.heap.size := (by have := hb2.size; (try simp at this); omega); have hA2 := hA1.on hw12; have hB2 := hB1.on hw12; have tik20 := True.intro; have hQ := hQ0.on hw2; have hE := hE0.on hw2; have hzz := hw2.size; obtain ⟨z0_0, z0_1, z0_2, z0_3, z0_4, z0_5, z0_6, z0_7, z0_8, z0_9, z0_10, z0_11⟩ := z12 hA2; have fz0 := hA2.free; have lz0 := hA2.lt; obtain ⟨z1_0, z1_1, z1_2, z1_3, z1_4, z1_5, z1_6, z1_7, z1_8, z1_9, z1_10, z1_11⟩ := z12 hB2; have fz1 := hB2.free; have lz1 := hB2.lt))
    all_goals
      go_wp2_with fail
      go_meet
      refine ⟨_, _, rfl, rfl, ?_, ?_, ?_⟩
      · unfold Ctl.cells; repeat (first | (with_reducible exact hA2) | (with_reducible exact hB2) | (with_reducible exact Blk.new _ _ _) | ((with_reducible refine Blk.new_at _ _ _ _ ?_); simp; done) | (with_reducible refine Blk.alloc ?_ _) | (with_reducible refine set12z ?_ _ _ _ _ _ _ _ _ _ _ _ _) | ((with_reducible refine Blk.other ?_ ?_ _); rotate_left; (dsimp only; omega)))
      · unfold Ctl.cells; repeat (first | (with_reducible exact hA2) | (with_reducible exact hB2) | (with_reducible exact Blk.new _ _ _) | ((with_reducible refine Blk.new_at _ _ _ _ ?_); simp; done) | (with_reducible refine Blk.alloc ?_ _) | (with_reducible refine set12z ?_ _ _ _ _ _ _ _ _ _ _ _ _) | ((with_reducible refine Blk.other ?_ ?_ _); rotate_left; (dsimp only; omega)))
      · repeat (first | (with_reducible exact hw2) | ((with_reducible refine Below.alloc ?_ ?_ _); rotate_left; (first | omega | (simp; done) | (simp; omega))) | ((with_reducible refine Below.setCell ?_ ?_ _); rotate_left; (dsimp only; omega)))
  case rest =>
    obtain ⟨b7, b8, rfl, rfl, hA, hB, hw1⟩ := hcut
    obtain ⟨wq, rfl⟩ : ∃ wq : World, wq = wc := ⟨_, rfl⟩
    have hwq := Bl.tr hb0 hw1
    have hQc := hQ0.on hw1
    have hTc := hT0.on hw1
    have hEc := hE0.on hw1
    have hrc := (hr0.below hw1).mono hw1.size
    have hfc := (hf0.below hw1).mono hw1.size
    clear x0 x1 x2 x3 x4 y0 hQ0 hT0 hE0 hr0 hf0 hw1 hb0 hz0 HS HR
    obtain ⟨ans, anc, ant, apu, apr, amr, apx, aoi, ama, asm', amf, ams⟩ := a
    obtain ⟨bns, bnc, bnt, bpu, bpr, bmr, bpx, boi, bma, bsm, bmf, bms⟩ := b
    simp only at K3 HT
    have z8 : wq.cell? ⟨b8, 8, none⟩ = some (.int .i64 bma) := hB.cell 8
    have z9 : wq.cell? ⟨b8, 9, none⟩ = some (.int .i64 bsm) := hB.cell 9
    have z3 : wq.cell? ⟨b8, 3, none⟩ = some (.bool bpu) := hB.cell 3
    have y0 : wq.cell? ⟨w.heap.size + 2, 0, none⟩ = some (.slice pf lf.length cf) := hEc.cell 0
    go_upto_region 2 with fail
    go_cut [9] (fun s9 wx => ∃ b9 : Nat, s9 = .pointer (some ⟨b9, 0, none⟩) ∧ Blk wx b9 4 #[.bool told] ∧ Below wq.heap.size wq wx)
    case first =>
      by_cases h1 : 0 ≤ bma
      · have HX1 : Hid (told = true) := by show _ = _; rw [HT.out]; simp [h1]
        clear HT HX
        go_wp2
        go_meet
        refine ⟨_, rfl, ?_, ?_⟩
        · rw [HX1.out]; first | exact Blk.new _ _ _ | exact (Blk.new _ _ _).set 0 (.bool true)
        · first | exact (Below.refl wq.heap.size wq).alloc (Nat.le_refl _) _ | exact ((Below.refl wq.heap.size wq).alloc (Nat.le_refl _) Zb).setCell (p := ⟨wq.heap.size, 0, none⟩) (Nat.le_refl _) _
      · by_cases h2 : 0 ≤ bsm
        · have HX1 : Hid (told = true) := by show _ = _; rw [HT.out]; simp [h2]
          clear HT HX
          go_wp2
          go_meet
          refine ⟨_, rfl, ?_, ?_⟩
          · rw [HX1.out]; first | exact Blk.new _ _ _ | exact (Blk.new _ _ _).set 0 (.bool true)
          · first | exact (Below.refl wq.heap.size wq).alloc (Nat.le_refl _) _ | exact ((Below.refl wq.heap.size wq).alloc (Nat.le_refl _) Zb).setCell (p := ⟨wq.heap.size, 0, none⟩) (Nat.le_refl _) _
        · cases bpu with
          | true =>
            have HX1 : Hid (told = true) := by show _ = _; rw [HT.out]; simp
            clear HT HX
            go_wp2
            go_meet
            refine ⟨_, rfl, ?_, ?_⟩
            · rw [HX1.out]; first | exact Blk.new _ _ _ | exact (Blk.new _ _ _).set 0 (.bool true)
            · first | exact (Below.refl wq.heap.size wq).alloc (Nat.le_refl _) _ | exact ((Below.refl wq.heap.size wq).alloc (Nat.le_refl _) Zb).setCell (p := ⟨wq.heap.size, 0, none⟩) (Nat.le_refl _) _
          | false =>
            have HX1 : Hid (told = he) := by show _ = _; rw [HT.out]; simp [h1, h2]
            clear HT
            go_wp2_with fail
            refine (HX.out wq hfc).mono ?_
            rintro e w3 ⟨rfl, hb3⟩
            go_wp2
            go_meet
            refine ⟨_, rfl, ?_, ?_⟩
            · rw [HX1.out]; first | exact Blk.new _ _ _ | exact (Blk.new _ _ _).set 0 (.bool he)
            · first | exact hb3.alloc hb3.size _ | exact (hb3.alloc hb3.size Zb).setCell (p := ⟨w3.heap.size, 0, none⟩) hb3.size _
    case rest =>
      obtain ⟨b9, rfl, hC, hwd⟩ := hcut
      have hwE := Bl.tr hwq hwd
      have hQ := hQc.on hwd
      have hT := hTc.on hwd
      have hE := hEc.on hwd
      have hA2 := hA.on hwd
      have hB2 := hB.on hwd
      have hr := (hrc.below hwd).mono hwd.size
      have hf := (hfc.below hwd).mono hwd.size
      clear hwq hQc hTc hEc hA hB hrc hfc hwd HX HT z8 z9 z3 y0
      obtain ⟨wl, ewl⟩ : ∃ wl : World, wl = wc.alloc (.cells #[(.func (.func 86) #[] #[.pointer (some ⟨w.heap.size, 0, none⟩)]), (.func (.func 87) #[] #[.pointer (some ⟨w.heap.size + 1, 0, none⟩)]), (.func (.func 88) #[] #[.pointer (some ⟨b7, 0, none⟩), .pointer (some ⟨b8, 0, none⟩)]), (.func (.func 89) #[] #[.pointer (some ⟨w.heap.size, 0, none⟩), .pointer (some ⟨b8, 0, none⟩)]), (.func (.func 90) #[] #[.pointer (some ⟨w.heap.size + 2, 0, none⟩)]), (.func (.func 91) #[] #[.pointer (some ⟨b9, 0, none⟩), .pointer (some ⟨w.heap.size + 1, 0, none⟩), .pointer (some ⟨w.heap.size + 2, 0, none⟩)])] 24) := ⟨_, rfl⟩
      have hRow : Blk wl wc.heap.size 24 #[(.func (.func 86) #[] #[.pointer (some ⟨w.heap.size, 0, none⟩)]), (.func (.func 87) #[] #[.pointer (some ⟨w.heap.size + 1, 0, none⟩)]), (.func (.func 88) #[] #[.pointer (some ⟨b7, 0, none⟩), .pointer (some ⟨b8, 0, none⟩)]), (.func (.func 89) #[] #[.pointer (some ⟨w.heap.size, 0, none⟩), .pointer (some ⟨b8, 0, none⟩)]), (.func (.func 90) #[] #[.pointer (some ⟨w.heap.size + 2, 0, none⟩)]), (.func (.func 91) #[] #[.pointer (some ⟨b9, 0, none⟩), .pointer (some ⟨w.heap.size + 1, 0, none⟩), .pointer (some ⟨w.heap.size + 2, 0, none⟩)])] := by rw [ewl]; exact Blk.new _ _ _
      have hbl : Below wc.heap.size wc wl := by rw [ewl]; exact (Below.refl _ _).alloc (Nat.le_refl _) _
      have hwl := Bl.tr hwE hbl
      have hQl := hQ.on hbl
      have hTl := hT.on hbl
      have hEl := hE.on hbl
      have hAl := hA2.on hbl
      have hBl := hB2.on hbl
      have hCl := hC.on hbl
      have hrl := (hr.below hbl).mono hbl.size
      have hfl := (hf.below hbl).mono hbl.size
      clear hwE hQ hT hE hA2 hB2 hC hr hf hbl
      go_upto_region 4 with fail
      rw [← ewl]
      clear ewl hmf
      go_wp2
      go_loopw [43] (fun i wr => ∃ k : Nat, i = .int .i64 k ∧ k ≤ 6 ∧ Hid ((1 ≤ k → r1 = true) ∧ (2 ≤ k → r2 = true) ∧ (3 ≤ k → r3 = true) ∧ (4 ≤ k → r4 = true) ∧ (5 ≤ k → r5 = true) ∧ (6 ≤ k → r6 = true)) ∧ Below wl.heap.size wl wr) (fun i _ => 6 - (intOf i).toNat)
      case atStart => exact ⟨0, rfl, by omega, Lib.hid ⟨fun h => by omega, fun h => by omega, fun h => by omega, fun h => by omega, fun h => by omega, fun h => by omega⟩, Below.refl _ _⟩
      case round =>
        obtain ⟨k, rfl, hk, HK, hbel⟩ := hrel
        obtain ⟨wo, rfl⟩ : ∃ wo : World, wo = wr := ⟨_, rfl⟩
        have hwo := Bl.tr hwl hbel
        have hRr := hRow.on hbel
        have hQr := hQl.on hbel
        have hTr := hTl.on hbel
        have hEr := hEl.on hbel
        have hAr := hAl.on hbel
        have hBr := hBl.on hbel
        have hCr := hCl.on hbel
        have hrr := (hrl.below hbel).mono hbel.size
        have hfr := (hfl.below hbel).mono hbel.size
        obtain hk | rfl : k ≤ 5 ∨ k = 6 := by omega
        · obtain rfl | rfl | rfl | rfl | rfl | rfl : k = 0 ∨ k = 1 ∨ k = 2 ∨ k = 3 ∨ k = 4 ∨ k = 5 := by omega
          · have cF : wo.cell? ⟨wc.heap.size, 0, none⟩ = some (.func (.func 86) #[] #[.pointer (some ⟨w.heap.size, 0, none⟩)]) := hRr.cell 0
            have KK := Lib.hid HK.out
            go_wp2_with fail
            refine (K1.out w.heap.size wo (hQr.cell 0)).mono ?_
            rintro e w5 ⟨rfl, hb5⟩
            cases r1 with
            | false =>
              go_wp2
              go_ret
              exact ⟨ret_bool (by rw [HG.out]; simp), Bl.tr hwo hb5⟩
            | true =>
              go_wp2
              go_roundw
              case rel => exact ⟨1, by go_num, by omega, Lib.hid ⟨fun _ => by trivial, fun h => by omega, fun h => by omega, fun h => by omega, fun h => by omega, fun h => by omega⟩, Bl.tr hbel hb5⟩
              case measure => simp [intOf]
          · have cF : wo.cell? ⟨wc.heap.size, 1, none⟩ = some (.func (.func 87) #[] #[.pointer (some ⟨w.heap.size + 1, 0, none⟩)]) := hRr.cell 1
            have KK := Lib.hid HK.out
            go_wp2_with fail
            refine (K2.out (w.heap.size + 1) wo (hTr.cell 0)).mono ?_
            rintro e w5 ⟨rfl, hb5⟩
            cases r2 with
            | false =>
              go_wp2
              go_ret
              exact ⟨ret_bool (by rw [HG.out]; simp), Bl.tr hwo hb5⟩
            | true =>
              go_wp2
              go_roundw
              case rel => exact ⟨2, by go_num, by omega, Lib.hid ⟨fun _ => KK.out.1 (by omega), fun _ => by trivial, fun h => by omega, fun h => by omega, fun h => by omega, fun h => by omega⟩, Bl.tr hbel hb5⟩
              case measure => simp [intOf]
          · have cF : wo.cell? ⟨wc.heap.size, 2, none⟩ = some (.func (.func 88) #[] #[.pointer (some ⟨b7, 0, none⟩), .pointer (some ⟨b8, 0, none⟩)]) := hRr.cell 2
            have K3' := keep3_any b7 b8 ans bns bpr wo (hAr.cell 0) (hBr.cell 0) (hBr.cell 4)
            rw [K3.out] at K3'
            have KK := Lib.hid HK.out
            go_wp2_with fail
            refine (K3').mono ?_
            rintro e w5 ⟨rfl, hb5⟩
            cases r3 with
            | false =>
              go_wp2
              go_ret
              exact ⟨ret_bool (by rw [HG.out]; simp), Bl.tr hwo hb5⟩
            | true =>
              go_wp2
              go_roundw
              case rel => exact ⟨3, by go_num, by omega, Lib.hid ⟨fun _ => KK.out.1 (by omega), fun _ => KK.out.2.1 (by omega), fun _ => by trivial, fun h => by omega, fun h => by omega, fun h => by omega⟩, Bl.tr hbel hb5⟩
              case measure => simp [intOf]
          · have cF : wo.cell? ⟨wc.heap.size, 3, none⟩ = some (.func (.func 89) #[] #[.pointer (some ⟨w.heap.size, 0, none⟩), .pointer (some ⟨b8, 0, none⟩)]) := hRr.cell 3
            have KK := Lib.hid HK.out
            go_wp2_with fail
            refine (K4.out w.heap.size b8 wo (hQr.cell 4) hrr hBr).mono ?_
            rintro e w5 ⟨rfl, hb5⟩
            cases r4 with
            | false =>
              go_wp2
              go_ret
              exact ⟨ret_bool (by rw [HG.out]; simp), Bl.tr hwo hb5⟩
            | true =>
              go_wp2
              go_roundw
              case rel => exact ⟨4, by go_num, by omega, Lib.hid ⟨fun _ => KK.out.1 (by omega), fun _ => KK.out.2.1 (by omega), fun _ => KK.out.2.2.1 (by omega), fun _ => by trivial, fun h => by omega, fun h => by omega⟩, Bl.tr hbel hb5⟩
              case measure => simp [intOf]
          · have cF : wo.cell? ⟨wc.heap.size, 4, none⟩ = some (.func (.func 90) #[] #[.pointer (some ⟨w.heap.size + 2, 0, none⟩)]) := hRr.cell 4
            have KK := Lib.hid HK.out
            go_wp2_with fail
            refine (K5.out (w.heap.size + 2) wo (hEr.cell 0) hfr).mono ?_
            rintro e w5 ⟨rfl, hb5⟩
            cases r5 with
            | false =>
              go_wp2
              go_ret
              exact ⟨ret_bool (by rw [HG.out]; simp), Bl.tr hwo hb5⟩
            | true =>
              go_wp2
              go_roundw
              case rel => exact ⟨5, by go_num, by omega, Lib.hid ⟨fun _ => KK.out.1 (by omega), fun _ => KK.out.2.1 (by omega), fun _ => KK.out.2.2.1 (by omega), fun _ => KK.out.2.2.2.1 (by omega), fun _ => by trivial, fun h => by omega⟩, Bl.tr hbel hb5⟩
              case measure => simp [intOf]
          · have cF : wo.cell? ⟨wc.heap.size, 5, none⟩ = some (.func (.func 91) #[] #[.pointer (some ⟨b9, 0, none⟩), .pointer (some ⟨w.heap.size + 1, 0, none⟩), .pointer (some ⟨w.heap.size + 2, 0, none⟩)]) := hRr.cell 5
            have KK := Lib.hid HK.out
            go_wp2_with fail
            refine (K6.out b9 (w.heap.size + 1) (w.heap.size + 2) wo (hCr.cell 0) (hTr.cell 0) hEr hfr).mono ?_
            rintro e w5 ⟨rfl, hb5⟩
            cases r6 with
            | false =>
              go_wp2
              go_ret
              exact ⟨ret_bool (by rw [HG.out]; simp), Bl.tr hwo hb5⟩
            | true =>
              go_wp2
              go_roundw
              case rel => exact ⟨6, by go_num, by omega, Lib.hid ⟨fun _ => KK.out.1 (by omega), fun _ => KK.out.2.1 (by omega), fun _ => KK.out.2.2.1 (by omega), fun _ => KK.out.2.2.2.1 (by omega), fun _ => KK.out.2.2.2.2.1 (by omega), fun _ => by trivial⟩, Bl.tr hbel hb5⟩
              case measure => simp [intOf]
        · obtain ⟨e1, e2, e3, e4, e5, e6⟩ := HK.out
          have HGt : Hid (G = true) := by show _ = _; rw [HG.out, e1 (by omega), e2 (by omega), e3 (by omega), e4 (by omega), e5 (by omega), e6 (by omega)]; rfl
          clear e1 e2 e3 e4 e5 e6
          go_wp2
          go_ret
          exact ⟨ret_bool HGt.out.symm, hwo⟩
end Go.Proofs.YtahapblgmehngaaGreatDoor

