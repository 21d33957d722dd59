/- Parts of the proof of DealLacks_holds: the texts Rs2. -/
import Derived.Test.YtahapblgmehngaaGreatDoorC34
set_option linter.unusedSimpArgs false
set_option linter.unusedVariables false
set_option linter.unnecessarySimpa false
namespace Go.Proofs.YtahapblgmehngaaGreatDoor
open Go.RowKit Go.Dr

def lenIn (w : World) (r : Nat) : Nat := match w.cell? ⟨r, 2, none⟩ with | some (.slice _ n _) => n | _ => 0
theorem lenIn_eq {B : Nat} {w : World} {r : Nat} {most last : Int} {v : Value} {er : List Ev} (h : Rs B w r most last v er) : lenIn w r = er.length := by
  obtain ⟨a, c, hv⟩ := row_form h.row
  unfold lenIn
  rw [show w.cell? ⟨r, 2, none⟩ = some v from h.blk.cell 2, hv]
set_option maxRecDepth 100000 in
set_option maxHeartbeats 4000000 in
theorem refLay_long {B r : Nat} {most last : Int} {v : Value} {er : List Ev} (id : Int) (q : En) (lp lf : List F) (w : World) (h : Rs B w r most last v er) (hp : Fo 89 B w q.vp lp) (hf : Fo 60 B w q.vf lf) (hk : q.key.length ≤ 1099511627776) (hb : q.body.length ≤ 1099511627776) (hl : fsum lp ≤ 1099511627776) (hl2 : fsum lf ≤ 1048576) (hc : most < (costF q lp lf : Nat)) :
    Calls Tryz.prog 62 #[Ptr r, .int .i64 id, q.val] w fun e w' => e = .returned (.bool false) ∧ Below w.heap.size w w' := by
  have HC := Lib.hid (fun w h1 h2 => refCost_any q lp lf w h1 h2 hk hb hl hl2)
  obtain ⟨key, vp, st, vf, body, asked, came⟩ := q
  simp only [En.val] at *
  obtain ⟨c, ec⟩ : ∃ c, c = costF ⟨key, vp, st, vf, body, asked, came⟩ lp lf := ⟨_, rfl⟩
  rw [← ec] at hc HC
  have HEC := Lib.hid ec
  clear ec
  obtain ⟨w0, ew⟩ : ∃ w0 : World, w0 = w.alloc (.cells #[S key, vp, .int .i64 st, vf, S body, .int .i64 asked, .int .i64 came] 36) := ⟨_, rfl⟩
  have hb0 : Below w.heap.size w w0 := by rw [ew]; exact (Below.refl _ _).alloc (Nat.le_refl _) _
  obtain ⟨G, eG⟩ : ∃ G, G = w.heap.size := ⟨_, rfl⟩
  have hQ0 : Blk w0 G 36 #[S key, vp, .int .i64 st, vf, S body, .int .i64 asked, .int .i64 came] := by rw [ew, eG]; exact Blk.new _ _ _
  have HG := Lib.hid eG
  have hGr : r < G := by rw [eG]; exact h.blk.lt
  have h0 := h.below hb0
  have hBw : B ≤ w.heap.size := Nat.le_of_lt h.at
  have hp0 := hp.below hb0 hBw
  have hf0 := hf.below hb0 hBw
  have hBw0 : B ≤ w0.drew.heap.size := Nat.le_of_lt h0.at
  have hC := HC.out w0.drew (show Fs w0.drew.heap.size w0.drew vp lp from (hp0.fs hBw0)) (show Fs w0.drew.heap.size w0.drew vf lf from (hf0.fs hBw0))
  have x0 : w0.cell? ⟨r, 0, none⟩ = some (.int .i64 most) := h0.blk.cell 0
  (have y0 : w0.cell? ⟨G, 0, none⟩ = some (S key) := hQ0.cell 0; have y1 : w0.cell? ⟨G, 1, none⟩ = some (vp) := hQ0.cell 1; have y2 : w0.cell? ⟨G, 2, none⟩ = some (.int .i64 st) := hQ0.cell 2; have y3 : w0.cell? ⟨G, 3, none⟩ = some (vf) := hQ0.cell 3; have y4 : w0.cell? ⟨G, 4, none⟩ = some (S body) := hQ0.cell 4; have y5 : w0.cell? ⟨G, 5, none⟩ = some (.int .i64 asked) := hQ0.cell 5; have y6 : w0.cell? ⟨G, 6, none⟩ = some (.int .i64 came) := hQ0.cell 6)
  have t1 : decide (most < (c : Int)) = true := by simpa using hc
  clear HC
  clear eG
  go_enter Tryz.func62, Tryz.ntmps62
  go_upto_region 1 with fail
  rw [← HG.out, ← ew]
  clear ew
  refine wp_region_held_drew (S := (fun wx => wx.cell? ⟨G, 0, none⟩ = some (S key) ∧ wx.cell? ⟨G, 1, none⟩ = some (vp) ∧ wx.cell? ⟨G, 2, none⟩ = some (.int .i64 st) ∧ wx.cell? ⟨G, 3, none⟩ = some (vf) ∧ wx.cell? ⟨G, 4, none⟩ = some (S body) ∧ wx.cell? ⟨G, 5, none⟩ = some (.int .i64 asked) ∧ wx.cell? ⟨G, 6, none⟩ = some (.int .i64 came) ∧ wx.cell? ⟨r, 0, none⟩ = some (.int .i64 most))) (by kernel_rfl) ⟨y0, y1, y2, y3, y4, y5, y6, x0⟩ (fun hHeld => ?_)
  (refine tkA 0 ?_ ?_ hHeld ?_; rotate_left; (intro w hSw; (try dsimp only at hSw); go_simp; try with_reducible rfl); simp only [Act.put, PT])
  (refine tkA 2 ?_ ?_ hHeld ?_; rotate_left; (intro w hSw; (try dsimp only at hSw); go_simp; try with_reducible rfl); simp only [Act.put, PT])
  (refine tkA 3 ?_ ?_ hHeld ?_; rotate_left; (intro w hSw; (try dsimp only at hSw); go_simp; try with_reducible rfl); simp only [Act.put, PT])
  (refine tkA 4 ?_ ?_ hHeld ?_; rotate_left; (intro w hSw; (try dsimp only at hSw); go_simp; try with_reducible rfl); simp only [Act.put, PT])
  (refine tkA 5 ?_ ?_ hHeld ?_; rotate_left; (intro w hSw; (try dsimp only at hSw); go_simp; try with_reducible rfl); simp only [Act.put, PT])
  refine wpAnyH_ready (rs := [1]) (by kernel_rfl) (by simp) ?_
  refine AllReadyH.cons (by rfl) (fun K hK => ?_) AllReadyH.nil
  go_simp
  (with_reducible refine hC.mono ?_); rintro e w1 ⟨rfl, hb1⟩; replace hb1 := Bl.undrew hb1; have h1 := h0.below hb1; have hQ1 := hQ0.on hb1; have x0 : w1.cell? ⟨r, 0, none⟩ = some (.int .i64 most) := h1.blk.cell 0; have y0 : w1.cell? ⟨G, 0, none⟩ = some (S key) := hQ1.cell 0; have y1 : w1.cell? ⟨G, 1, none⟩ = some (vp) := hQ1.cell 1; have y2 : w1.cell? ⟨G, 2, none⟩ = some (.int .i64 st) := hQ1.cell 2; have y3 : w1.cell? ⟨G, 3, none⟩ = some (vf) := hQ1.cell 3; have y4 : w1.cell? ⟨G, 4, none⟩ = some (S body) := hQ1.cell 4; have y5 : w1.cell? ⟨G, 5, none⟩ = some (.int .i64 asked) := hQ1.cell 5; have y6 : w1.cell? ⟨G, 6, none⟩ = some (.int .i64 came) := hQ1.cell 6
  refine hK.out _ _ ⟨y0, y1, y2, y3, y4, y5, y6, x0⟩ (fun hHeld => ?_)
  clear hK K
  try simp only [Act.put, PT]
  (refine tkA 6 ?_ ?_ hHeld ?_; rotate_left; (intro w hSw; (try dsimp only at hSw); go_simp; try with_reducible rfl); simp only [Act.put, PT])
  try simp only [Act.put, PT]
  refine wpAnyH_done (by kernel_rfl) ?_ _
  go_wp2
  go_ret
  exact ⟨rfl, Bl.tr hb0 hb1⟩

set_option maxRecDepth 100000 in
set_option maxHeartbeats 4000000 in
theorem refLay_any {B r M : Nat} {last : Int} {v : Value} {er : List Ev} (id : Int) (q : En) (lp lf : List F) (w : World) (h : Rs B w r (M : Int) last v er) (hp : Fo 89 B w q.vp lp) (hf : Fo 60 B w q.vf lf) (hk : q.key.length ≤ 1099511627776) (hb : q.body.length ≤ 1099511627776) (hl : fsum lp ≤ 1099511627776) (hl2 : fsum lf ≤ 1048576) (hc : costF q lp lf ≤ M) :
    Calls Tryz.prog 62 #[Ptr r, .int .i64 id, q.val] w fun e w' => e = .returned (.bool true) ∧ (∃ v', Rs B w' r (M : Int) last v' (roomE (M - costF q lp lf) er ++ [⟨q.vp, q.vf, It.of id q lp lf⟩])) ∧ But (fun k => k = r) w w' := by
  have HC := Lib.hid (fun w h1 h2 => refCost_any q lp lf w h1 h2 hk hb hl hl2)
  obtain ⟨key, vp, st, vf, body, asked, came⟩ := q
  simp only [En.val] at *
  obtain ⟨c, ec⟩ : ∃ c, c = costF ⟨key, vp, st, vf, body, asked, came⟩ lp lf := ⟨_, rfl⟩
  rw [← ec] at hc HC ⊢
  have HEC := Lib.hid ec
  clear ec
  obtain ⟨w0, ew⟩ : ∃ w0 : World, w0 = w.alloc (.cells #[S key, vp, .int .i64 st, vf, S body, .int .i64 asked, .int .i64 came] 36) := ⟨_, rfl⟩
  have hb0 : Below w.heap.size w w0 := by rw [ew]; exact (Below.refl _ _).alloc (Nat.le_refl _) _
  obtain ⟨G, eG⟩ : ∃ G, G = w.heap.size := ⟨_, rfl⟩
  have hQ0 : Blk w0 G 36 #[S key, vp, .int .i64 st, vf, S body, .int .i64 asked, .int .i64 came] := by rw [ew, eG]; exact Blk.new _ _ _
  have HG := Lib.hid eG
  have hGr : r < G := by rw [eG]; exact h.blk.lt
  have h0 := h.below hb0
  have hBw : B ≤ w.heap.size := Nat.le_of_lt h.at
  have hp0 := hp.below hb0 hBw
  have hf0 := hf.below hb0 hBw
  have hBw0 : B ≤ w0.drew.heap.size := Nat.le_of_lt h0.at
  have hC := HC.out w0.drew (show Fs w0.drew.heap.size w0.drew vp lp from (hp0.fs hBw0)) (show Fs w0.drew.heap.size w0.drew vf lf from (hf0.fs hBw0))
  have x0 : w0.cell? ⟨r, 0, none⟩ = some (.int .i64 (M : Int)) := h0.blk.cell 0
  (have y0 : w0.cell? ⟨G, 0, none⟩ = some (S key) := hQ0.cell 0; have y1 : w0.cell? ⟨G, 1, none⟩ = some (vp) := hQ0.cell 1; have y2 : w0.cell? ⟨G, 2, none⟩ = some (.int .i64 st) := hQ0.cell 2; have y3 : w0.cell? ⟨G, 3, none⟩ = some (vf) := hQ0.cell 3; have y4 : w0.cell? ⟨G, 4, none⟩ = some (S body) := hQ0.cell 4; have y5 : w0.cell? ⟨G, 5, none⟩ = some (.int .i64 asked) := hQ0.cell 5; have y6 : w0.cell? ⟨G, 6, none⟩ = some (.int .i64 came) := hQ0.cell 6)
  have t1 : decide ((M : Int) < (c : Int)) = false := by simp; omega
  have t2 : decide (M < c) = false := by simp; omega
  clear eG
  go_enter Tryz.func62, Tryz.ntmps62
  go_upto_region 1 with fail
  rw [← HG.out, ← ew]
  clear ew
  refine wp_region_held_drew (S := (fun wx => wx.cell? ⟨G, 0, none⟩ = some (S key) ∧ wx.cell? ⟨G, 1, none⟩ = some (vp) ∧ wx.cell? ⟨G, 2, none⟩ = some (.int .i64 st) ∧ wx.cell? ⟨G, 3, none⟩ = some (vf) ∧ wx.cell? ⟨G, 4, none⟩ = some (S body) ∧ wx.cell? ⟨G, 5, none⟩ = some (.int .i64 asked) ∧ wx.cell? ⟨G, 6, none⟩ = some (.int .i64 came) ∧ wx.cell? ⟨r, 0, none⟩ = some (.int .i64 (M : Int)))) (by kernel_rfl) ⟨y0, y1, y2, y3, y4, y5, y6, x0⟩ (fun hHeld => ?_)
  (refine tkA 0 ?_ ?_ hHeld ?_; rotate_left; (intro w hSw; (try dsimp only at hSw); go_simp; try with_reducible rfl); simp only [Act.put, PT])
  (refine tkA 2 ?_ ?_ hHeld ?_; rotate_left; (intro w hSw; (try dsimp only at hSw); go_simp; try with_reducible rfl); simp only [Act.put, PT])
  (refine tkA 3 ?_ ?_ hHeld ?_; rotate_left; (intro w hSw; (try dsimp only at hSw); go_simp; try with_reducible rfl); simp only [Act.put, PT])
  (refine tkA 4 ?_ ?_ hHeld ?_; rotate_left; (intro w hSw; (try dsimp only at hSw); go_simp; try with_reducible rfl); simp only [Act.put, PT])
  (refine tkA 5 ?_ ?_ hHeld ?_; rotate_left; (intro w hSw; (try dsimp only at hSw); go_simp; try with_reducible rfl); simp only [Act.put, PT])
  refine wpAnyH_ready (rs := [1]) (by kernel_rfl) (by simp) ?_
  refine AllReadyH.cons (by rfl) (fun K hK => ?_) AllReadyH.nil
  go_simp
  (with_reducible refine hC.mono ?_); rintro e w1 ⟨rfl, hb1⟩; replace hb1 := Bl.undrew hb1; have h1 := h0.below hb1; have hQ1 := hQ0.on hb1; have x0 : w1.cell? ⟨r, 0, none⟩ = some (.int .i64 (M : Int)) := h1.blk.cell 0; have y0 : w1.cell? ⟨G, 0, none⟩ = some (S key) := hQ1.cell 0; have y1 : w1.cell? ⟨G, 1, none⟩ = some (vp) := hQ1.cell 1; have y2 : w1.cell? ⟨G, 2, none⟩ = some (.int .i64 st) := hQ1.cell 2; have y3 : w1.cell? ⟨G, 3, none⟩ = some (vf) := hQ1.cell 3; have y4 : w1.cell? ⟨G, 4, none⟩ = some (S body) := hQ1.cell 4; have y5 : w1.cell? ⟨G, 5, none⟩ = some (.int .i64 asked) := hQ1.cell 5; have y6 : w1.cell? ⟨G, 6, none⟩ = some (.int .i64 came) := hQ1.cell 6
  refine hK.out _ _ ⟨y0, y1, y2, y3, y4, y5, y6, x0⟩ (fun hHeld => ?_)
  clear hK K
  try simp only [Act.put, PT]
  (refine tkA 6 ?_ ?_ hHeld ?_; rotate_left; (intro w hSw; (try dsimp only at hSw); go_simp; try with_reducible rfl); simp only [Act.put, PT])
  try simp only [Act.put, PT]
  refine wpAnyH_done (by kernel_rfl) ?_ _
  clear hC h0 hQ0 hp0 hf0 t1 t2 hBw0
  have hw1 : But (fun k => k = r) w w1 := (But.of_below hb0).trans (But.of_below hb1)
  have hM1 : M ≤ 1048576 := by have := h1.most1; omega
  go_wp2
  go_loopw [] (fun wr => ∃ v' cur, roomE (M - c) cur = roomE (M - c) er ∧ Rs B wr r (M : Int) last v' cur ∧ But (fun k => k = r) w1 wr) (fun wr => lenIn wr r)
  case atStart => exact ⟨v, er, rfl, h1, But.refl _ _⟩
  case round =>
    obtain ⟨v', cur, hro, hr, hbr⟩ := hrel
    have hlen := hr.len
    have hQr : Blk wr G 36 #[S key, vp, .int .i64 st, vf, S body, .int .i64 asked, .int .i64 came] := hQ1.but hbr (by omega)
    have hwr := hw1.trans hbr
    have hpr := hp.but_r h.blk h.lo hwr (by decide)
    have hfr := hf.but_r h.blk h.lo hwr (by decide)
    have x0 : wr.cell? ⟨r, 0, none⟩ = some (.int .i64 (M : Int)) := hr.blk.cell 0
    (have y0 : wr.cell? ⟨G, 0, none⟩ = some (S key) := hQr.cell 0; have y1 : wr.cell? ⟨G, 1, none⟩ = some (vp) := hQr.cell 1; have y2 : wr.cell? ⟨G, 2, none⟩ = some (.int .i64 st) := hQr.cell 2; have y3 : wr.cell? ⟨G, 3, none⟩ = some (vf) := hQr.cell 3; have y4 : wr.cell? ⟨G, 4, none⟩ = some (S body) := hQr.cell 4; have y5 : wr.cell? ⟨G, 5, none⟩ = some (.int .i64 asked) := hQr.cell 5; have y6 : wr.cell? ⟨G, 6, none⟩ = some (.int .i64 came) := hQr.cell 6)
    have hBy := refBytes_any wr.drew hr.drew
    obtain ⟨cr, ecr⟩ : ∃ cr, cr = costs (cur.map Ev.x) := ⟨_, rfl⟩
    rw [← ecr] at hBy
    have hcm : cr ≤ M := by have := hr.room; rw [← ecr] at this; omega
    have HCR := Lib.hid ecr
    have tw : IntKind.i64.wrap ((cr : Int) + (c : Int)) = (cr : Int) + (c : Int) := IntWalk.i64_in _ (by omega)
    clear ecr
    by_cases hgt : M < cr + c
    · have t1 : decide ((M : Int) < (cr : Int) + (c : Int)) = true := by simp; omega
      go_wp2_with fail
      refine wp_region_held_drew (S := (fun wx => wx.cell? ⟨G, 0, none⟩ = some (S key) ∧ wx.cell? ⟨G, 1, none⟩ = some (vp) ∧ wx.cell? ⟨G, 2, none⟩ = some (.int .i64 st) ∧ wx.cell? ⟨G, 3, none⟩ = some (vf) ∧ wx.cell? ⟨G, 4, none⟩ = some (S body) ∧ wx.cell? ⟨G, 5, none⟩ = some (.int .i64 asked) ∧ wx.cell? ⟨G, 6, none⟩ = some (.int .i64 came) ∧ wx.cell? ⟨r, 0, none⟩ = some (.int .i64 (M : Int)))) (by kernel_rfl) ⟨y0, y1, y2, y3, y4, y5, y6, x0⟩ (fun hHeld => ?_)
      (refine tkA 0 ?_ ?_ hHeld ?_; rotate_left; (intro w hSw; (try dsimp only at hSw); go_simp; try with_reducible rfl); simp only [Act.put, PT])
      (refine tkA 2 ?_ ?_ hHeld ?_; rotate_left; (intro w hSw; (try dsimp only at hSw); go_simp; try with_reducible rfl); simp only [Act.put, PT])
      (refine tkA 5 ?_ ?_ hHeld ?_; rotate_left; (intro w hSw; (try dsimp only at hSw); go_simp; try with_reducible rfl); simp only [Act.put, PT])
      (refine tkA 6 ?_ ?_ hHeld ?_; rotate_left; (intro w hSw; (try dsimp only at hSw); go_simp; try with_reducible rfl); simp only [Act.put, PT])
      (refine tkA 7 ?_ ?_ hHeld ?_; rotate_left; (intro w hSw; (try dsimp only at hSw); go_simp; try with_reducible rfl); simp only [Act.put, PT])
      (refine tkA 8 ?_ ?_ hHeld ?_; rotate_left; (intro w hSw; (try dsimp only at hSw); go_simp; try with_reducible rfl); simp only [Act.put, PT])
      refine wpAnyH_ready (rs := [1]) (by kernel_rfl) (by simp) ?_
      refine AllReadyH.cons (by rfl) (fun K hK => ?_) AllReadyH.nil
      go_simp
      (with_reducible refine hBy.mono ?_); rintro e w3 ⟨rfl, hb3⟩; replace hb3 := Bl.undrew hb3; have hr3 := hr.below hb3; have hQ1 := hQr.on hb3; have x0 : w3.cell? ⟨r, 0, none⟩ = some (.int .i64 (M : Int)) := hr3.blk.cell 0; have y0 : w3.cell? ⟨G, 0, none⟩ = some (S key) := hQ1.cell 0; have y1 : w3.cell? ⟨G, 1, none⟩ = some (vp) := hQ1.cell 1; have y2 : w3.cell? ⟨G, 2, none⟩ = some (.int .i64 st) := hQ1.cell 2; have y3 : w3.cell? ⟨G, 3, none⟩ = some (vf) := hQ1.cell 3; have y4 : w3.cell? ⟨G, 4, none⟩ = some (S body) := hQ1.cell 4; have y5 : w3.cell? ⟨G, 5, none⟩ = some (.int .i64 asked) := hQ1.cell 5; have y6 : w3.cell? ⟨G, 6, none⟩ = some (.int .i64 came) := hQ1.cell 6; have hC := HC.out w3 ((hpr.below hb3 (Nat.le_of_lt hr.at)).fs (Nat.le_of_lt hr3.at)) ((hfr.below hb3 (Nat.le_of_lt hr.at)).fs (Nat.le_of_lt hr3.at))
      refine hK.out _ _ ⟨y0, y1, y2, y3, y4, y5, y6, x0⟩ (fun hHeld => ?_)
      clear hK K
      try simp only [Act.put, PT]
      refine wpAnyH_ready (rs := [3]) (by kernel_rfl) (by simp) ?_
      refine AllReadyH.cons (by rfl) (fun K hK => ?_) AllReadyH.nil
      go_simp
      (with_reducible refine hC.mono ?_); rintro e w4 ⟨rfl, hb4⟩; have hr4 := hr3.below hb4; replace hQ1 := hQ1.on hb4; have x0 : w4.cell? ⟨r, 0, none⟩ = some (.int .i64 (M : Int)) := hr4.blk.cell 0; have y0 : w4.cell? ⟨G, 0, none⟩ = some (S key) := hQ1.cell 0; have y1 : w4.cell? ⟨G, 1, none⟩ = some (vp) := hQ1.cell 1; have y2 : w4.cell? ⟨G, 2, none⟩ = some (.int .i64 st) := hQ1.cell 2; have y3 : w4.cell? ⟨G, 3, none⟩ = some (vf) := hQ1.cell 3; have y4 : w4.cell? ⟨G, 4, none⟩ = some (S body) := hQ1.cell 4; have y5 : w4.cell? ⟨G, 5, none⟩ = some (.int .i64 asked) := hQ1.cell 5; have y6 : w4.cell? ⟨G, 6, none⟩ = some (.int .i64 came) := hQ1.cell 6
      refine hK.out _ _ ⟨y0, y1, y2, y3, y4, y5, y6, x0⟩ (fun hHeld => ?_)
      clear hK K
      try simp only [Act.put, PT]
      (refine tkA 4 ?_ ?_ hHeld ?_; rotate_left; (intro w hSw; (try dsimp only at hSw); go_simp; try with_reducible rfl); simp only [Act.put, PT])
      (refine tkA 9 ?_ ?_ hHeld ?_; rotate_left; (intro w hSw; (try dsimp only at hSw); go_simp; try with_reducible rfl); simp only [Act.put, PT])
      try simp only [Act.put, PT]
      refine wpAnyH_done (by kernel_rfl) ?_ _
      have hb14 : But (fun k => k = r) w1 w4 := (hbr.trans (But.of_below hb3)).trans (But.of_below hb4)
      cases cur with
      | nil =>
        have := HCR.out
        simp [costs] at this
        omega
      | cons e cs =>
        obtain ⟨a, cp, hv⟩ := row_form hr4.row
        subst hv
        have hW := without_any (e :: cs) _ w4 0 B hr4.row hr4.lists (by simp) hr4.len
        have hWc : Calls Tryz.prog 70 #[.slice a (e :: cs).length cp, .int .i64 0] w4 fun e' w' => ∃ v', e' = .returned v' ∧ w'.ownsRow w4.heap.size 105 8 v' cs.length (icells cs) ∧ Below w4.heap.size w4 w' := hW
        have x2 : w4.cell? ⟨r, 2, none⟩ = some (.slice a (e :: cs).length cp) := hr4.blk.cell 2
        have hl0 : lenIn wr r = cs.length + 1 := lenIn_eq hr
        have hro2 : roomE (M - c) cs = roomE (M - c) er := by
          rw [← hro]
          exact (roomE_less (by rw [← HCR.out]; omega)).symm
        have hcs : (costs (cs.map Ev.x) : Int) ≤ (M : Int) := by
          have := hr4.room
          rw [List.map_cons, costs_cons] at this
          omega
        have hl1 : cs.length + 1 ≤ 16384 := hlen
        have HL0 := Lib.hid hl0
        obtain ⟨nl, enl⟩ : ∃ nl, nl = (e :: cs).length := ⟨_, rfl⟩
        rw [← enl] at hWc x2
        clear hW enl hl0
        go_wp2_with fail
        refine hWc.mono ?_
        rintro e' w5 ⟨v5, rfl, ho5, hb5⟩
        obtain ⟨a5, c5, hv5⟩ := row_form ho5
        subst hv5
        have hr5 := hr4.below hb5
        have z2 : w5.cell? ⟨r, 2, none⟩ = some _ := hr5.blk.cell 2
        have f2 := hr5.blk.free 2
        have hr6 := hr5.row_set (own_base ho5 (Nat.le_of_lt hr4.at)) (fun e' he => hr5.lists e' (List.mem_cons_of_mem _ he)) hcs
        have hb16 : But (fun k => k = r) w1 (w5.setCell ⟨r, 2, none⟩ (.slice a5 cs.length c5)) := (hb14.trans (But.of_below hb5)).setCell (p := ⟨r, 2, none⟩) (.inl rfl) _
        have HL1 := Lib.hid (lenIn_eq hr6)
        clear hWc hb14 hr4 hr3
        go_wp2
        go_roundw
        case rel => exact ⟨_, cs, hro2, hr6, hb16⟩
        case measure => rw [HL0.out, HL1.out]; omega
    · have t1 : decide ((M : Int) < (cr : Int) + (c : Int)) = false := by simp; omega
      go_wp2_with fail
      refine wp_region_held_drew (S := (fun wx => wx.cell? ⟨G, 0, none⟩ = some (S key) ∧ wx.cell? ⟨G, 1, none⟩ = some (vp) ∧ wx.cell? ⟨G, 2, none⟩ = some (.int .i64 st) ∧ wx.cell? ⟨G, 3, none⟩ = some (vf) ∧ wx.cell? ⟨G, 4, none⟩ = some (S body) ∧ wx.cell? ⟨G, 5, none⟩ = some (.int .i64 asked) ∧ wx.cell? ⟨G, 6, none⟩ = some (.int .i64 came) ∧ wx.cell? ⟨r, 0, none⟩ = some (.int .i64 (M : Int)))) (by kernel_rfl) ⟨y0, y1, y2, y3, y4, y5, y6, x0⟩ (fun hHeld => ?_)
      (refine tkA 0 ?_ ?_ hHeld ?_; rotate_left; (intro w hSw; (try dsimp only at hSw); go_simp; try with_reducible rfl); simp only [Act.put, PT])
      (refine tkA 2 ?_ ?_ hHeld ?_; rotate_left; (intro w hSw; (try dsimp only at hSw); go_simp; try with_reducible rfl); simp only [Act.put, PT])
      (refine tkA 5 ?_ ?_ hHeld ?_; rotate_left; (intro w hSw; (try dsimp only at hSw); go_simp; try with_reducible rfl); simp only [Act.put, PT])
      (refine tkA 6 ?_ ?_ hHeld ?_; rotate_left; (intro w hSw; (try dsimp only at hSw); go_simp; try with_reducible rfl); simp only [Act.put, PT])
      (refine tkA 7 ?_ ?_ hHeld ?_; rotate_left; (intro w hSw; (try dsimp only at hSw); go_simp; try with_reducible rfl); simp only [Act.put, PT])
      (refine tkA 8 ?_ ?_ hHeld ?_; rotate_left; (intro w hSw; (try dsimp only at hSw); go_simp; try with_reducible rfl); simp only [Act.put, PT])
      refine wpAnyH_ready (rs := [1]) (by kernel_rfl) (by simp) ?_
      refine AllReadyH.cons (by rfl) (fun K hK => ?_) AllReadyH.nil
      go_simp
      (with_reducible refine hBy.mono ?_); rintro e w3 ⟨rfl, hb3⟩; replace hb3 := Bl.undrew hb3; have hr3 := hr.below hb3; have hQ1 := hQr.on hb3; have x0 : w3.cell? ⟨r, 0, none⟩ = some (.int .i64 (M : Int)) := hr3.blk.cell 0; have y0 : w3.cell? ⟨G, 0, none⟩ = some (S key) := hQ1.cell 0; have y1 : w3.cell? ⟨G, 1, none⟩ = some (vp) := hQ1.cell 1; have y2 : w3.cell? ⟨G, 2, none⟩ = some (.int .i64 st) := hQ1.cell 2; have y3 : w3.cell? ⟨G, 3, none⟩ = some (vf) := hQ1.cell 3; have y4 : w3.cell? ⟨G, 4, none⟩ = some (S body) := hQ1.cell 4; have y5 : w3.cell? ⟨G, 5, none⟩ = some (.int .i64 asked) := hQ1.cell 5; have y6 : w3.cell? ⟨G, 6, none⟩ = some (.int .i64 came) := hQ1.cell 6; have hC := HC.out w3 ((hpr.below hb3 (Nat.le_of_lt hr.at)).fs (Nat.le_of_lt hr3.at)) ((hfr.below hb3 (Nat.le_of_lt hr.at)).fs (Nat.le_of_lt hr3.at))
      refine hK.out _ _ ⟨y0, y1, y2, y3, y4, y5, y6, x0⟩ (fun hHeld => ?_)
      clear hK K
      try simp only [Act.put, PT]
      refine wpAnyH_ready (rs := [3]) (by kernel_rfl) (by simp) ?_
      refine AllReadyH.cons (by rfl) (fun K hK => ?_) AllReadyH.nil
      go_simp
      (with_reducible refine hC.mono ?_); rintro e w4 ⟨rfl, hb4⟩; have hr4 := hr3.below hb4; replace hQ1 := hQ1.on hb4; have x0 : w4.cell? ⟨r, 0, none⟩ = some (.int .i64 (M : Int)) := hr4.blk.cell 0; have y0 : w4.cell? ⟨G, 0, none⟩ = some (S key) := hQ1.cell 0; have y1 : w4.cell? ⟨G, 1, none⟩ = some (vp) := hQ1.cell 1; have y2 : w4.cell? ⟨G, 2, none⟩ = some (.int .i64 st) := hQ1.cell 2; have y3 : w4.cell? ⟨G, 3, none⟩ = some (vf) := hQ1.cell 3; have y4 : w4.cell? ⟨G, 4, none⟩ = some (S body) := hQ1.cell 4; have y5 : w4.cell? ⟨G, 5, none⟩ = some (.int .i64 asked) := hQ1.cell 5; have y6 : w4.cell? ⟨G, 6, none⟩ = some (.int .i64 came) := hQ1.cell 6
      refine hK.out _ _ ⟨y0, y1, y2, y3, y4, y5, y6, x0⟩ (fun hHeld => ?_)
      clear hK K
      try simp only [Act.put, PT]
      (refine tkA 4 ?_ ?_ hHeld ?_; rotate_left; (intro w hSw; (try dsimp only at hSw); go_simp; try with_reducible rfl); simp only [Act.put, PT])
      (refine tkA 9 ?_ ?_ hHeld ?_; rotate_left; (intro w hSw; (try dsimp only at hSw); go_simp; try with_reducible rfl); simp only [Act.put, PT])
      try simp only [Act.put, PT]
      refine wpAnyH_done (by kernel_rfl) ?_ _
      have hb14 : But (fun k => k = r) w w4 := (hwr.trans (But.of_below hb3)).trans (But.of_below hb4)
      have hfit : roomE (M - c) cur = cur := roomE_fit (by rw [← HCR.out]; omega)
      rw [hfit] at hro
      have HRO := Lib.hid hro
      clear hro hfit
      obtain ⟨a, cp, hv⟩ := row_form hr4.row
      subst hv
      have hp4 := hp.but_r h.blk h.lo hb14 (by decide)
      have hf4 := hf.but_r h.blk h.lo hb14 (by decide)
      obtain ⟨ap, kp, hvp, -⟩ := hp4.form
      obtain ⟨af, kf, hvf, -⟩ := hf4.form
      subst hvp hvf
      have hp4w := hp4.fs (Nat.le_of_lt hr4.at)
      obtain ⟨nd, end'⟩ : ∃ nd : Ev, nd = ⟨.slice ap lp.length kp, .slice af lf.length kf, It.of id ⟨key, .slice ap lp.length kp, st, .slice af lf.length kf, body, asked, came⟩ lp lf⟩ := ⟨_, rfl⟩
      have hndF : EvFs B w4 nd := by rw [end']; exact ⟨hp4, hf4⟩
      have hndc : nd.x.cost = c := by rw [end', HEC.out]; rfl
      have hnd : icells [nd] = [.int .i64 id, S key, .slice ap lp.length kp, .int .i64 st, .slice af lf.length kf, S body, .int .i64 asked, .int .i64 came] := by rw [end']; rfl
      have h1c := icells_one hr4.lists
      have h1n : ∀ u ∈ icells [nd], u.oneCell' = true := icells_one (l := [nd]) (fun e he => by rw [List.mem_singleton.1 he]; exact hndF)
      rw [hnd] at h1n
      have HND := Lib.hid hnd
      have HNE := Lib.hid end'
      have hroom : (costs ((cur ++ [nd]).map Ev.x) : Int) ≤ (M : Int) := by
        rw [List.map_append, costs_append, ← HCR.out]
        have : costs ([nd].map Ev.x) = c := by rw [← hndc]; simp [costs]
        rw [this]
        omega
      have hlists : ∀ e ∈ cur ++ [nd], EvFs B w4 e := by
        intro e he
        rcases List.mem_append.1 he with he | he
        · exact hr4.lists e he
        · rw [List.mem_singleton.1 he]; exact hndF
      have hL : Rd w4.heap.size w4 8 (.slice a cur.length cp) cur.length (icells cur) := Rd.own hr4.row
      have x2 : w4.cell? ⟨r, 2, none⟩ = some (.slice a cur.length cp) := hr4.blk.cell 2
      have x2a : ∀ o, (w4.alloc o).cell? ⟨r, 2, none⟩ = some (.slice a cur.length cp) := fun o => (hr4.blk.alloc o).cell 2
      have x2b : ∀ o o', ((w4.alloc o).alloc o').cell? ⟨r, 2, none⟩ = some (.slice a cur.length cp) := fun o o' => ((hr4.blk.alloc o).alloc o').cell 2
      have x2c : ∀ o, (w4.alloc o).drew.cell? ⟨r, 2, none⟩ = some (.slice a cur.length cp) := fun o => (hr4.blk.alloc o).cell 2
      have x2d : ∀ o o', ((w4.alloc o).alloc o').drew.cell? ⟨r, 2, none⟩ = some (.slice a cur.length cp) := fun o o' => ((hr4.blk.alloc o).alloc o').cell 2
      have hq1 : ¬ r = G := by omega
      have hq2 : ¬ G = r := by omega
      have hQ4 : Blk w4 G 36 #[S key, .slice ap lp.length kp, .int .i64 st, .slice af lf.length kf, S body, .int .i64 asked, .int .i64 came] := hQ1
      have hmx : cur.length ≤ 16384 := hlen
      clear hnd end' hndF hndc x0 hQ1 hC hBy hr3 hQr hb3 hb4 hr hbr hwr tw t1
      go_wp2_with fail
      have hSS : ∀ wx, But (fun k => k = r) w4 wx → wx.cell? ⟨G, 0, none⟩ = some (S key) ∧ wx.cell? ⟨G, 1, none⟩ = some (.slice ap lp.length kp) ∧ wx.cell? ⟨G, 2, none⟩ = some (.int .i64 st) ∧ wx.cell? ⟨G, 3, none⟩ = some (.slice af lf.length kf) ∧ wx.cell? ⟨G, 4, none⟩ = some (S body) ∧ wx.cell? ⟨G, 5, none⟩ = some (.int .i64 asked) ∧ wx.cell? ⟨G, 6, none⟩ = some (.int .i64 came) := fun wx hb => ⟨(hQ4.but hb hq2).cell 0, (hQ4.but hb hq2).cell 1, (hQ4.but hb hq2).cell 2, (hQ4.but hb hq2).cell 3, (hQ4.but hb hq2).cell 4, (hQ4.but hb hq2).cell 5, (hQ4.but hb hq2).cell 6⟩
      refine wp_region_held_drew (S := (fun wx => wx.cell? ⟨G, 0, none⟩ = some (S key) ∧ wx.cell? ⟨G, 1, none⟩ = some (.slice ap lp.length kp) ∧ wx.cell? ⟨G, 2, none⟩ = some (.int .i64 st) ∧ wx.cell? ⟨G, 3, none⟩ = some (.slice af lf.length kf) ∧ wx.cell? ⟨G, 4, none⟩ = some (S body) ∧ wx.cell? ⟨G, 5, none⟩ = some (.int .i64 asked) ∧ wx.cell? ⟨G, 6, none⟩ = some (.int .i64 came))) (by kernel_rfl) (hSS _ (But.refl _ _).drew) (fun hHeld => ?_)
      (refine tkA 0 ?_ ?_ hHeld ?_; rotate_left; (intro w hSw; (try dsimp only at hSw); go_simp; try with_reducible rfl); simp only [Act.put, PT])
      (refine tkA 2 ?_ ?_ hHeld ?_; rotate_left; (intro w hSw; (try dsimp only at hSw); go_simp; try with_reducible rfl); simp only [Act.put, PT])
      (refine tkA 3 ?_ ?_ hHeld ?_; rotate_left; (intro w hSw; (try dsimp only at hSw); go_simp; try with_reducible rfl); simp only [Act.put, PT])
      (refine tkA 4 ?_ ?_ hHeld ?_; rotate_left; (intro w hSw; (try dsimp only at hSw); go_simp; try with_reducible rfl); simp only [Act.put, PT])
      (refine tkA 7 ?_ ?_ hHeld ?_; rotate_left; (intro w hSw; (try dsimp only at hSw); go_simp; try with_reducible rfl); simp only [Act.put, PT])
      (refine tkA 8 ?_ ?_ hHeld ?_; rotate_left; (intro w hSw; (try dsimp only at hSw); go_simp; try with_reducible rfl); simp only [Act.put, PT])
      (refine tkA 9 ?_ ?_ hHeld ?_; rotate_left; (intro w hSw; (try dsimp only at hSw); go_simp; try with_reducible rfl); simp only [Act.put, PT])
      refine wpAnyH_ready (rs := [1, 5, 10]) (by kernel_rfl) (by simp) ?_
      refine AllReadyH.cons (by rfl) (fun K hK => ?_) ?_
      ·
        go_simp
        skip
        refine hK.out _ _ (hSS _ (But.of_below (by first | exact (Below.refl _ _).drew.alloc (Nat.le_refl _) _ | exact ((Below.refl _ _).drew.alloc (Nat.le_refl _) _).alloc (by simp) _ | exact hw8.alloc (by omega) _ | exact hw8 | exact (Below.refl _ _).drew))) (fun hHeld => ?_)
        clear hK K
        try simp only [Act.put, PT]
        refine wpAnyH_ready (rs := [5, 10]) (by kernel_rfl) (by simp) ?_
        refine AllReadyH.cons (by rfl) (fun K hK => ?_) ?_
        ·
          go_simp
          skip
          refine hK.out _ _ (hSS _ (But.of_below (by first | exact (Below.refl _ _).drew.alloc (Nat.le_refl _) _ | exact ((Below.refl _ _).drew.alloc (Nat.le_refl _) _).alloc (by simp) _ | exact hw8.alloc (by omega) _ | exact hw8 | exact (Below.refl _ _).drew))) (fun hHeld => ?_)
          clear hK K
          try simp only [Act.put, PT]
          refine wpAnyH_ready (rs := [6, 10]) (by kernel_rfl) (by simp) ?_
          refine AllReadyH.cons (by rfl) (fun K hK => ?_) ?_
          ·
            (refine step_of ?_ (by rfl); refine wp_appG0 _ _ 68 rfl w4.heap.size 105 (.agg Itz) 8 112 Tryz.underlying68 (by kernel_rfl) rfl (by decide) _ rfl (by first | exact own_lit w4.drew w4.heap.size rfl w4.heap.size (Nat.le_refl _) _ _ | exact (own_lit w4.drew w4.heap.size rfl w4.heap.size (Nat.le_refl _) _ _).alloc _ | exact own_lit (w4.drew.alloc _) (w4.heap.size + 1) (by simp) w4.heap.size (by omega) _ _) _ _ _ _ rfl (by first | exact hL.below ((Below.refl _ _).drew.alloc (Nat.le_refl _) _) | exact hL.below (((Below.refl _ _).drew.alloc (Nat.le_refl _) _).alloc (by simp) _)) h1c (by unfold maxLen; omega) (by omega) (by first | omega | (simp; done) | (simp; omega)) ?_; intro a8 c8 w8 hown8 hb8 hg8; have hz8 : w4.heap.size + 1 ≤ w8.heap.size := (by have := hb8.size; simp at this; omega); have hw8 : Below w4.heap.size w4 w8 := (by first | exact ((Below.refl w4.heap.size w4).drew.alloc (Nat.le_refl _) _).trans hb8 | exact (((Below.refl w4.heap.size w4).drew.alloc (Nat.le_refl _) _).alloc (by simp) _).trans hb8); have x2 : w8.cell? ⟨r, 2, none⟩ = some (.slice a cur.length cp) := (hr4.below hw8).blk.cell 2)
            refine hK.out _ _ (hSS _ (But.of_below hw8)) (fun hHeld => ?_)
            clear hK K
            try simp only [Act.put, PT]
            refine wpAnyH_ready (rs := [10]) (by kernel_rfl) (by simp) ?_
            refine AllReadyH.cons (by rfl) (fun K hK => ?_) AllReadyH.nil
            go_simp
            skip
            refine hK.out _ _ (hSS _ (But.of_below (by first | exact (Below.refl _ _).drew.alloc (Nat.le_refl _) _ | exact ((Below.refl _ _).drew.alloc (Nat.le_refl _) _).alloc (by simp) _ | exact hw8.alloc (by omega) _ | exact hw8 | exact (Below.refl _ _).drew))) (fun hHeld => ?_)
            clear hK K
            try simp only [Act.put, PT]
            refine wpAnyH_ready (rs := [11]) (by kernel_rfl) (by simp) ?_
            refine AllReadyH.cons (by rfl) (fun K hK => ?_) AllReadyH.nil
            (refine step_of ?_ (by rfl); refine wp_appG _ _ 68 rfl w4.heap.size 105 (.agg Itz) 8 112 Tryz.underlying68 (by kernel_rfl) rfl (by decide) _ _ _ rfl (by first | exact hown8.alloc _ | exact hown8) _ _ _ [.int .i64 id, S key, .slice ap lp.length kp, .int .i64 st, .slice af lf.length kf, S body, .int .i64 asked, .int .i64 came] rfl (by first | exact Rd.lit w8 105 #[.int .i64 id, S key, .slice ap lp.length kp, .int .i64 st, .slice af lf.length kf, S body, .int .i64 asked, .int .i64 came] 8 1 rfl (by decide) | exact (Rd.lit_at (w4.drew.alloc (.cells #[] 105)) (w4.heap.size + 1) (by simp) 105 #[.int .i64 id, S key, .slice ap lp.length kp, .int .i64 st, .slice af lf.length kf, S body, .int .i64 asked, .int .i64 came] 8 1 rfl (by decide)).block (B' := w8.heap.size) (hg8.block _ (by simp) (by show some _ ≠ some w4.heap.size; simp)) (by have q : w4.heap.size + 1 + 1 ≤ w8.heap.size := (by have := hg8.size; simpa using this); omega) | exact (Rd.lit_at w4 w4.heap.size rfl 105 #[.int .i64 id, S key, .slice ap lp.length kp, .int .i64 st, .slice af lf.length kf, S body, .int .i64 asked, .int .i64 came] 8 1 rfl (by decide)).block (B' := w8.heap.size) ((hg8.block w4.heap.size (by simp; omega) (by show some _ ≠ some (w4.heap.size + 1); simp)).trans (Below.heap_alloc (w4.alloc (.cells #[.int .i64 id, S key, .slice ap lp.length kp, .int .i64 st, .slice af lf.length kf, S body, .int .i64 asked, .int .i64 came] 105)) _ w4.heap.size (by simp))) (by have q : w4.heap.size + 1 + 1 ≤ w8.heap.size := (by have := hg8.size; simpa using this); omega)) h1n (by unfold maxLen; omega) (by omega) (by first | omega | (simp; done) | (simp; omega)) ?_; intro a9 c9 w9 hown9 hb9 hg9; have hw9 : Below w4.heap.size w4 w9 := (by first | exact (hw8.alloc (by omega) _).trans hb9 | exact hw8.trans hb9); have hr9 := hr4.below hw9; have z2 : w9.cell? ⟨r, 2, none⟩ = some (.slice a cur.length cp) := hr9.blk.cell 2; have f2 := hr9.blk.free 2)
            refine hK.out _ _ (hSS _ (But.of_below hw9)) (fun hHeld => ?_)
            clear hK K
            try simp only [Act.put, PT]
            (refine tkA 12 ?_ ?_ hHeld ?_; rotate_left; (intro w hSw; (try dsimp only at hSw); go_simp; try with_reducible rfl); simp only [Act.put, PT])
            (refine tkA 13 ?_ ?_ hHeld ?_; rotate_left; (intro w hSw; (try dsimp only at hSw); go_simp; try with_reducible rfl); simp only [Act.put, PT])
            refine wpAnyH_ready (rs := [14]) (by kernel_rfl) (by simp) ?_
            refine AllReadyH.cons (by rfl) (fun K hK => ?_) AllReadyH.nil
            go_simp
            skip
            refine hK.out _ _ (hSS _ (But.setCell (S := fun k => k = r) (But.of_below hw9) (p := ⟨r, 2, none⟩) (.inl rfl) _)) (fun hHeld => ?_)
            clear hK K
            try simp only [Act.put, PT]
            try simp only [Act.put, PT]
            refine wpAnyH_done (by kernel_rfl) ?_ _
            have hrow : w9.ownsRow B 105 8 (.slice a9 (cur.length + 1) c9) (cur ++ [nd]).length (icells (cur ++ [nd])) := by
              rw [icells_append, HND.out, List.length_append]
              exact own_base hown9 (Nat.le_of_lt hr4.at)
            have hr10 := hr9.row_set hrow (fun e he => (hlists e he).below hw9 (Nat.le_of_lt hr4.at)) hroom
            have hb10 : But (fun k => k = r) w (w9.setCell ⟨r, 2, none⟩ (.slice a9 (cur.length + 1) c9)) := (hb14.trans (But.of_below hw9)).setCell (p := ⟨r, 2, none⟩) (.inl rfl) _
            clear hrow hown8 hown9 hb8 hb9 hg8 hg9 hL h1c h1n hlists hroom x2a x2b x2c x2d
            go_wp2
            go_ret
            refine ⟨rfl, ⟨.slice a9 (cur.length + 1) c9, ?_⟩, hb10⟩
            rw [← HRO.out, ← HNE.out]
            exact hr10
          refine AllReadyH.cons (by rfl) (fun K hK => ?_) AllReadyH.nil
          go_simp
          skip
          refine hK.out _ _ (hSS _ (But.of_below (by first | exact (Below.refl _ _).drew.alloc (Nat.le_refl _) _ | exact ((Below.refl _ _).drew.alloc (Nat.le_refl _) _).alloc (by simp) _ | exact hw8.alloc (by omega) _ | exact hw8 | exact (Below.refl _ _).drew))) (fun hHeld => ?_)
          clear hK K
          try simp only [Act.put, PT]
          refine wpAnyH_ready (rs := [6]) (by kernel_rfl) (by simp) ?_
          refine AllReadyH.cons (by rfl) (fun K hK => ?_) AllReadyH.nil
          (refine step_of ?_ (by rfl); refine wp_appG0 _ _ 68 rfl w4.heap.size 105 (.agg Itz) 8 112 Tryz.underlying68 (by kernel_rfl) rfl (by decide) _ rfl (by first | exact own_lit w4.drew w4.heap.size rfl w4.heap.size (Nat.le_refl _) _ _ | exact (own_lit w4.drew w4.heap.size rfl w4.heap.size (Nat.le_refl _) _ _).alloc _ | exact own_lit (w4.drew.alloc _) (w4.heap.size + 1) (by simp) w4.heap.size (by omega) _ _) _ _ _ _ rfl (by first | exact hL.below ((Below.refl _ _).drew.alloc (Nat.le_refl _) _) | exact hL.below (((Below.refl _ _).drew.alloc (Nat.le_refl _) _).alloc (by simp) _)) h1c (by unfold maxLen; omega) (by omega) (by first | omega | (simp; done) | (simp; omega)) ?_; intro a8 c8 w8 hown8 hb8 hg8; have hz8 : w4.heap.size + 1 ≤ w8.heap.size := (by have := hb8.size; simp at this; omega); have hw8 : Below w4.heap.size w4 w8 := (by first | exact ((Below.refl w4.heap.size w4).drew.alloc (Nat.le_refl _) _).trans hb8 | exact (((Below.refl w4.heap.size w4).drew.alloc (Nat.le_refl _) _).alloc (by simp) _).trans hb8); have x2 : w8.cell? ⟨r, 2, none⟩ = some (.slice a cur.length cp) := (hr4.below hw8).blk.cell 2)
          refine hK.out _ _ (hSS _ (But.of_below hw8)) (fun hHeld => ?_)
          clear hK K
          try simp only [Act.put, PT]
          refine wpAnyH_ready (rs := [11]) (by kernel_rfl) (by simp) ?_
          refine AllReadyH.cons (by rfl) (fun K hK => ?_) AllReadyH.nil
          (refine step_of ?_ (by rfl); refine wp_appG _ _ 68 rfl w4.heap.size 105 (.agg Itz) 8 112 Tryz.underlying68 (by kernel_rfl) rfl (by decide) _ _ _ rfl (by first | exact hown8.alloc _ | exact hown8) _ _ _ [.int .i64 id, S key, .slice ap lp.length kp, .int .i64 st, .slice af lf.length kf, S body, .int .i64 asked, .int .i64 came] rfl (by first | exact Rd.lit w8 105 #[.int .i64 id, S key, .slice ap lp.length kp, .int .i64 st, .slice af lf.length kf, S body, .int .i64 asked, .int .i64 came] 8 1 rfl (by decide) | exact (Rd.lit_at (w4.drew.alloc (.cells #[] 105)) (w4.heap.size + 1) (by simp) 105 #[.int .i64 id, S key, .slice ap lp.length kp, .int .i64 st, .slice af lf.length kf, S body, .int .i64 asked, .int .i64 came] 8 1 rfl (by decide)).block (B' := w8.heap.size) (hg8.block _ (by simp) (by show some _ ≠ some w4.heap.size; simp)) (by have q : w4.heap.size + 1 + 1 ≤ w8.heap.size := (by have := hg8.size; simpa using this); omega) | exact (Rd.lit_at w4 w4.heap.size rfl 105 #[.int .i64 id, S key, .slice ap lp.length kp, .int .i64 st, .slice af lf.length kf, S body, .int .i64 asked, .int .i64 came] 8 1 rfl (by decide)).block (B' := w8.heap.size) ((hg8.block w4.heap.size (by simp; omega) (by show some _ ≠ some (w4.heap.size + 1); simp)).trans (Below.heap_alloc (w4.alloc (.cells #[.int .i64 id, S key, .slice ap lp.length kp, .int .i64 st, .slice af lf.length kf, S body, .int .i64 asked, .int .i64 came] 105)) _ w4.heap.size (by simp))) (by have q : w4.heap.size + 1 + 1 ≤ w8.heap.size := (by have := hg8.size; simpa using this); omega)) h1n (by unfold maxLen; omega) (by omega) (by first | omega | (simp; done) | (simp; omega)) ?_; intro a9 c9 w9 hown9 hb9 hg9; have hw9 : Below w4.heap.size w4 w9 := (by first | exact (hw8.alloc (by omega) _).trans hb9 | exact hw8.trans hb9); have hr9 := hr4.below hw9; have z2 : w9.cell? ⟨r, 2, none⟩ = some (.slice a cur.length cp) := hr9.blk.cell 2; have f2 := hr9.blk.free 2)
          refine hK.out _ _ (hSS _ (But.of_below hw9)) (fun hHeld => ?_)
          clear hK K
          try simp only [Act.put, PT]
          (refine tkA 12 ?_ ?_ hHeld ?_; rotate_left; (intro w hSw; (try dsimp only at hSw); go_simp; try with_reducible rfl); simp only [Act.put, PT])
          (refine tkA 13 ?_ ?_ hHeld ?_; rotate_left; (intro w hSw; (try dsimp only at hSw); go_simp; try with_reducible rfl); simp only [Act.put, PT])
          refine wpAnyH_ready (rs := [14]) (by kernel_rfl) (by simp) ?_
          refine AllReadyH.cons (by rfl) (fun K hK => ?_) AllReadyH.nil
          go_simp
          skip
          refine hK.out _ _ (hSS _ (But.setCell (S := fun k => k = r) (But.of_below hw9) (p := ⟨r, 2, none⟩) (.inl rfl) _)) (fun hHeld => ?_)
          clear hK K
          try simp only [Act.put, PT]
          try simp only [Act.put, PT]
          refine wpAnyH_done (by kernel_rfl) ?_ _
          have hrow : w9.ownsRow B 105 8 (.slice a9 (cur.length + 1) c9) (cur ++ [nd]).length (icells (cur ++ [nd])) := by
            rw [icells_append, HND.out, List.length_append]
            exact own_base hown9 (Nat.le_of_lt hr4.at)
          have hr10 := hr9.row_set hrow (fun e he => (hlists e he).below hw9 (Nat.le_of_lt hr4.at)) hroom
          have hb10 : But (fun k => k = r) w (w9.setCell ⟨r, 2, none⟩ (.slice a9 (cur.length + 1) c9)) := (hb14.trans (But.of_below hw9)).setCell (p := ⟨r, 2, none⟩) (.inl rfl) _
          clear hrow hown8 hown9 hb8 hb9 hg8 hg9 hL h1c h1n hlists hroom x2a x2b x2c x2d
          go_wp2
          go_ret
          refine ⟨rfl, ⟨.slice a9 (cur.length + 1) c9, ?_⟩, hb10⟩
          rw [← HRO.out, ← HNE.out]
          exact hr10
        refine AllReadyH.cons (by rfl) (fun K hK => ?_) AllReadyH.nil
        go_simp
        skip
        refine hK.out _ _ (hSS _ (But.of_below (by first | exact (Below.refl _ _).drew.alloc (Nat.le_refl _) _ | exact ((Below.refl _ _).drew.alloc (Nat.le_refl _) _).alloc (by simp) _ | exact hw8.alloc (by omega) _ | exact hw8 | exact (Below.refl _ _).drew))) (fun hHeld => ?_)
        clear hK K
        try simp only [Act.put, PT]
        refine wpAnyH_ready (rs := [5]) (by kernel_rfl) (by simp) ?_
        refine AllReadyH.cons (by rfl) (fun K hK => ?_) AllReadyH.nil
        go_simp
        skip
        refine hK.out _ _ (hSS _ (But.of_below (by first | exact (Below.refl _ _).drew.alloc (Nat.le_refl _) _ | exact ((Below.refl _ _).drew.alloc (Nat.le_refl _) _).alloc (by simp) _ | exact hw8.alloc (by omega) _ | exact hw8 | exact (Below.refl _ _).drew))) (fun hHeld => ?_)
        clear hK K
        try simp only [Act.put, PT]
        refine wpAnyH_ready (rs := [6]) (by kernel_rfl) (by simp) ?_
        refine AllReadyH.cons (by rfl) (fun K hK => ?_) AllReadyH.nil
        (refine step_of ?_ (by rfl); refine wp_appG0 _ _ 68 rfl w4.heap.size 105 (.agg Itz) 8 112 Tryz.underlying68 (by kernel_rfl) rfl (by decide) _ rfl (by first | exact own_lit w4.drew w4.heap.size rfl w4.heap.size (Nat.le_refl _) _ _ | exact (own_lit w4.drew w4.heap.size rfl w4.heap.size (Nat.le_refl _) _ _).alloc _ | exact own_lit (w4.drew.alloc _) (w4.heap.size + 1) (by simp) w4.heap.size (by omega) _ _) _ _ _ _ rfl (by first | exact hL.below ((Below.refl _ _).drew.alloc (Nat.le_refl _) _) | exact hL.below (((Below.refl _ _).drew.alloc (Nat.le_refl _) _).alloc (by simp) _)) h1c (by unfold maxLen; omega) (by omega) (by first | omega | (simp; done) | (simp; omega)) ?_; intro a8 c8 w8 hown8 hb8 hg8; have hz8 : w4.heap.size + 1 ≤ w8.heap.size := (by have := hb8.size; simp at this; omega); have hw8 : Below w4.heap.size w4 w8 := (by first | exact ((Below.refl w4.heap.size w4).drew.alloc (Nat.le_refl _) _).trans hb8 | exact (((Below.refl w4.heap.size w4).drew.alloc (Nat.le_refl _) _).alloc (by simp) _).trans hb8); have x2 : w8.cell? ⟨r, 2, none⟩ = some (.slice a cur.length cp) := (hr4.below hw8).blk.cell 2)
        refine hK.out _ _ (hSS _ (But.of_below hw8)) (fun hHeld => ?_)
        clear hK K
        try simp only [Act.put, PT]
        refine wpAnyH_ready (rs := [11]) (by kernel_rfl) (by simp) ?_
        refine AllReadyH.cons (by rfl) (fun K hK => ?_) AllReadyH.nil
        (refine step_of ?_ (by rfl); refine wp_appG _ _ 68 rfl w4.heap.size 105 (.agg Itz) 8 112 Tryz.underlying68 (by kernel_rfl) rfl (by decide) _ _ _ rfl (by first | exact hown8.alloc _ | exact hown8) _ _ _ [.int .i64 id, S key, .slice ap lp.length kp, .int .i64 st, .slice af lf.length kf, S body, .int .i64 asked, .int .i64 came] rfl (by first | exact Rd.lit w8 105 #[.int .i64 id, S key, .slice ap lp.length kp, .int .i64 st, .slice af lf.length kf, S body, .int .i64 asked, .int .i64 came] 8 1 rfl (by decide) | exact (Rd.lit_at (w4.drew.alloc (.cells #[] 105)) (w4.heap.size + 1) (by simp) 105 #[.int .i64 id, S key, .slice ap lp.length kp, .int .i64 st, .slice af lf.length kf, S body, .int .i64 asked, .int .i64 came] 8 1 rfl (by decide)).block (B' := w8.heap.size) (hg8.block _ (by simp) (by show some _ ≠ some w4.heap.size; simp)) (by have q : w4.heap.size + 1 + 1 ≤ w8.heap.size := (by have := hg8.size; simpa using this); omega) | exact (Rd.lit_at w4 w4.heap.size rfl 105 #[.int .i64 id, S key, .slice ap lp.length kp, .int .i64 st, .slice af lf.length kf, S body, .int .i64 asked, .int .i64 came] 8 1 rfl (by decide)).block (B' := w8.heap.size) ((hg8.block w4.heap.size (by simp; omega) (by show some _ ≠ some (w4.heap.size + 1); simp)).trans (Below.heap_alloc (w4.alloc (.cells #[.int .i64 id, S key, .slice ap lp.length kp, .int .i64 st, .slice af lf.length kf, S body, .int .i64 asked, .int .i64 came] 105)) _ w4.heap.size (by simp))) (by have q : w4.heap.size + 1 + 1 ≤ w8.heap.size := (by have := hg8.size; simpa using this); omega)) h1n (by unfold maxLen; omega) (by omega) (by first | omega | (simp; done) | (simp; omega)) ?_; intro a9 c9 w9 hown9 hb9 hg9; have hw9 : Below w4.heap.size w4 w9 := (by first | exact (hw8.alloc (by omega) _).trans hb9 | exact hw8.trans hb9); have hr9 := hr4.below hw9; have z2 : w9.cell? ⟨r, 2, none⟩ = some (.slice a cur.length cp) := hr9.blk.cell 2; have f2 := hr9.blk.free 2)
        refine hK.out _ _ (hSS _ (But.of_below hw9)) (fun hHeld => ?_)
        clear hK K
        try simp only [Act.put, PT]
        (refine tkA 12 ?_ ?_ hHeld ?_; rotate_left; (intro w hSw; (try dsimp only at hSw); go_simp; try with_reducible rfl); simp only [Act.put, PT])
        (refine tkA 13 ?_ ?_ hHeld ?_; rotate_left; (intro w hSw; (try dsimp only at hSw); go_simp; try with_reducible rfl); simp only [Act.put, PT])
        refine wpAnyH_ready (rs := [14]) (by kernel_rfl) (by simp) ?_
        refine AllReadyH.cons (by rfl) (fun K hK => ?_) AllReadyH.nil
        go_simp
        skip
        refine hK.out _ _ (hSS _ (But.setCell (S := fun k => k = r) (But.of_below hw9) (p := ⟨r, 2, none⟩) (.inl rfl) _)) (fun hHeld => ?_)
        clear hK K
        try simp only [Act.put, PT]
        try simp only [Act.put, PT]
        refine wpAnyH_done (by kernel_rfl) ?_ _
        have hrow : w9.ownsRow B 105 8 (.slice a9 (cur.length + 1) c9) (cur ++ [nd]).length (icells (cur ++ [nd])) := by
          rw [icells_append, HND.out, List.length_append]
          exact own_base hown9 (Nat.le_of_lt hr4.at)
        have hr10 := hr9.row_set hrow (fun e he => (hlists e he).below hw9 (Nat.le_of_lt hr4.at)) hroom
        have hb10 : But (fun k => k = r) w (w9.setCell ⟨r, 2, none⟩ (.slice a9 (cur.length + 1) c9)) := (hb14.trans (But.of_below hw9)).setCell (p := ⟨r, 2, none⟩) (.inl rfl) _
        clear hrow hown8 hown9 hb8 hb9 hg8 hg9 hL h1c h1n hlists hroom x2a x2b x2c x2d
        go_wp2
        go_ret
        refine ⟨rfl, ⟨.slice a9 (cur.length + 1) c9, ?_⟩, hb10⟩
        rw [← HRO.out, ← HNE.out]
        exact hr10
      refine AllReadyH.cons (by rfl) (fun K hK => ?_) ?_
      ·
        go_simp
        skip
        refine hK.out _ _ (hSS _ (But.of_below (by first | exact (Below.refl _ _).drew.alloc (Nat.le_refl _) _ | exact ((Below.refl _ _).drew.alloc (Nat.le_refl _) _).alloc (by simp) _ | exact hw8.alloc (by omega) _ | exact hw8 | exact (Below.refl _ _).drew))) (fun hHeld => ?_)
        clear hK K
        try simp only [Act.put, PT]
        refine wpAnyH_ready (rs := [1, 10]) (by kernel_rfl) (by simp) ?_
        refine AllReadyH.cons (by rfl) (fun K hK => ?_) ?_
        ·
          go_simp
          skip
          refine hK.out _ _ (hSS _ (But.of_below (by first | exact (Below.refl _ _).drew.alloc (Nat.le_refl _) _ | exact ((Below.refl _ _).drew.alloc (Nat.le_refl _) _).alloc (by simp) _ | exact hw8.alloc (by omega) _ | exact hw8 | exact (Below.refl _ _).drew))) (fun hHeld => ?_)
          clear hK K
          try simp only [Act.put, PT]
          refine wpAnyH_ready (rs := [6, 10]) (by kernel_rfl) (by simp) ?_
          refine AllReadyH.cons (by rfl) (fun K hK => ?_) ?_
          ·
            (refine step_of ?_ (by rfl); refine wp_appG0 _ _ 68 rfl w4.heap.size 105 (.agg Itz) 8 112 Tryz.underlying68 (by kernel_rfl) rfl (by decide) _ rfl (by first | exact own_lit w4.drew w4.heap.size rfl w4.heap.size (Nat.le_refl _) _ _ | exact (own_lit w4.drew w4.heap.size rfl w4.heap.size (Nat.le_refl _) _ _).alloc _ | exact own_lit (w4.drew.alloc _) (w4.heap.size + 1) (by simp) w4.heap.size (by omega) _ _) _ _ _ _ rfl (by first | exact hL.below ((Below.refl _ _).drew.alloc (Nat.le_refl _) _) | exact hL.below (((Below.refl _ _).drew.alloc (Nat.le_refl _) _).alloc (by simp) _)) h1c (by unfold maxLen; omega) (by omega) (by first | omega | (simp; done) | (simp; omega)) ?_; intro a8 c8 w8 hown8 hb8 hg8; have hz8 : w4.heap.size + 1 ≤ w8.heap.size := (by have := hb8.size; simp at this; omega); have hw8 : Below w4.heap.size w4 w8 := (by first | exact ((Below.refl w4.heap.size w4).drew.alloc (Nat.le_refl _) _).trans hb8 | exact (((Below.refl w4.heap.size w4).drew.alloc (Nat.le_refl _) _).alloc (by simp) _).trans hb8); have x2 : w8.cell? ⟨r, 2, none⟩ = some (.slice a cur.length cp) := (hr4.below hw8).blk.cell 2)
            refine hK.out _ _ (hSS _ (But.of_below hw8)) (fun hHeld => ?_)
            clear hK K
            try simp only [Act.put, PT]
            refine wpAnyH_ready (rs := [10]) (by kernel_rfl) (by simp) ?_
            refine AllReadyH.cons (by rfl) (fun K hK => ?_) AllReadyH.nil
            go_simp
            skip
            refine hK.out _ _ (hSS _ (But.of_below (by first | exact (Below.refl _ _).drew.alloc (Nat.le_refl _) _ | exact ((Below.refl _ _).drew.alloc (Nat.le_refl _) _).alloc (by simp) _ | exact hw8.alloc (by omega) _ | exact hw8 | exact (Below.refl _ _).drew))) (fun hHeld => ?_)
            clear hK K
            try simp only [Act.put, PT]
            refine wpAnyH_ready (rs := [11]) (by kernel_rfl) (by simp) ?_
            refine AllReadyH.cons (by rfl) (fun K hK => ?_) AllReadyH.nil
            (refine step_of ?_ (by rfl); refine wp_appG _ _ 68 rfl w4.heap.size 105 (.agg Itz) 8 112 Tryz.underlying68 (by kernel_rfl) rfl (by decide) _ _ _ rfl (by first | exact hown8.alloc _ | exact hown8) _ _ _ [.int .i64 id, S key, .slice ap lp.length kp, .int .i64 st, .slice af lf.length kf, S body, .int .i64 asked, .int .i64 came] rfl (by first | exact Rd.lit w8 105 #[.int .i64 id, S key, .slice ap lp.length kp, .int .i64 st, .slice af lf.length kf, S body, .int .i64 asked, .int .i64 came] 8 1 rfl (by decide) | exact (Rd.lit_at (w4.drew.alloc (.cells #[] 105)) (w4.heap.size + 1) (by simp) 105 #[.int .i64 id, S key, .slice ap lp.length kp, .int .i64 st, .slice af lf.length kf, S body, .int .i64 asked, .int .i64 came] 8 1 rfl (by decide)).block (B' := w8.heap.size) (hg8.block _ (by simp) (by show some _ ≠ some w4.heap.size; simp)) (by have q : w4.heap.size + 1 + 1 ≤ w8.heap.size := (by have := hg8.size; simpa using this); omega) | exact (Rd.lit_at w4 w4.heap.size rfl 105 #[.int .i64 id, S key, .slice ap lp.length kp, .int .i64 st, .slice af lf.length kf, S body, .int .i64 asked, .int .i64 came] 8 1 rfl (by decide)).block (B' := w8.heap.size) ((hg8.block w4.heap.size (by simp; omega) (by show some _ ≠ some (w4.heap.size + 1); simp)).trans (Below.heap_alloc (w4.alloc (.cells #[.int .i64 id, S key, .slice ap lp.length kp, .int .i64 st, .slice af lf.length kf, S body, .int .i64 asked, .int .i64 came] 105)) _ w4.heap.size (by simp))) (by have q : w4.heap.size + 1 + 1 ≤ w8.heap.size := (by have := hg8.size; simpa using this); omega)) h1n (by unfold maxLen; omega) (by omega) (by first | omega | (simp; done) | (simp; omega)) ?_; intro a9 c9 w9 hown9 hb9 hg9; have hw9 : Below w4.heap.size w4 w9 := (by first | exact (hw8.alloc (by omega) _).trans hb9 | exact hw8.trans hb9); have hr9 := hr4.below hw9; have z2 : w9.cell? ⟨r, 2, none⟩ = some (.slice a cur.length cp) := hr9.blk.cell 2; have f2 := hr9.blk.free 2)
            refine hK.out _ _ (hSS _ (But.of_below hw9)) (fun hHeld => ?_)
            clear hK K
            try simp only [Act.put, PT]
            (refine tkA 12 ?_ ?_ hHeld ?_; rotate_left; (intro w hSw; (try dsimp only at hSw); go_simp; try with_reducible rfl); simp only [Act.put, PT])
            (refine tkA 13 ?_ ?_ hHeld ?_; rotate_left; (intro w hSw; (try dsimp only at hSw); go_simp; try with_reducible rfl); simp only [Act.put, PT])
            refine wpAnyH_ready (rs := [14]) (by kernel_rfl) (by simp) ?_
            refine AllReadyH.cons (by rfl) (fun K hK => ?_) AllReadyH.nil
            go_simp
            skip
            refine hK.out _ _ (hSS _ (But.setCell (S := fun k => k = r) (But.of_below hw9) (p := ⟨r, 2, none⟩) (.inl rfl) _)) (fun hHeld => ?_)
            clear hK K
            try simp only [Act.put, PT]
            try simp only [Act.put, PT]
            refine wpAnyH_done (by kernel_rfl) ?_ _
            have hrow : w9.ownsRow B 105 8 (.slice a9 (cur.length + 1) c9) (cur ++ [nd]).length (icells (cur ++ [nd])) := by
              rw [icells_append, HND.out, List.length_append]
              exact own_base hown9 (Nat.le_of_lt hr4.at)
            have hr10 := hr9.row_set hrow (fun e he => (hlists e he).below hw9 (Nat.le_of_lt hr4.at)) hroom
            have hb10 : But (fun k => k = r) w (w9.setCell ⟨r, 2, none⟩ (.slice a9 (cur.length + 1) c9)) := (hb14.trans (But.of_below hw9)).setCell (p := ⟨r, 2, none⟩) (.inl rfl) _
            clear hrow hown8 hown9 hb8 hb9 hg8 hg9 hL h1c h1n hlists hroom x2a x2b x2c x2d
            go_wp2
            go_ret
            refine ⟨rfl, ⟨.slice a9 (cur.length + 1) c9, ?_⟩, hb10⟩
            rw [← HRO.out, ← HNE.out]
            exact hr10
          refine AllReadyH.cons (by rfl) (fun K hK => ?_) AllReadyH.nil
          go_simp
          skip
          refine hK.out _ _ (hSS _ (But.of_below (by first | exact (Below.refl _ _).drew.alloc (Nat.le_refl _) _ | exact ((Below.refl _ _).drew.alloc (Nat.le_refl _) _).alloc (by simp) _ | exact hw8.alloc (by omega) _ | exact hw8 | exact (Below.refl _ _).drew))) (fun hHeld => ?_)
          clear hK K
          try simp only [Act.put, PT]
          refine wpAnyH_ready (rs := [6]) (by kernel_rfl) (by simp) ?_
          refine AllReadyH.cons (by rfl) (fun K hK => ?_) AllReadyH.nil
          (refine step_of ?_ (by rfl); refine wp_appG0 _ _ 68 rfl w4.heap.size 105 (.agg Itz) 8 112 Tryz.underlying68 (by kernel_rfl) rfl (by decide) _ rfl (by first | exact own_lit w4.drew w4.heap.size rfl w4.heap.size (Nat.le_refl _) _ _ | exact (own_lit w4.drew w4.heap.size rfl w4.heap.size (Nat.le_refl _) _ _).alloc _ | exact own_lit (w4.drew.alloc _) (w4.heap.size + 1) (by simp) w4.heap.size (by omega) _ _) _ _ _ _ rfl (by first | exact hL.below ((Below.refl _ _).drew.alloc (Nat.le_refl _) _) | exact hL.below (((Below.refl _ _).drew.alloc (Nat.le_refl _) _).alloc (by simp) _)) h1c (by unfold maxLen; omega) (by omega) (by first | omega | (simp; done) | (simp; omega)) ?_; intro a8 c8 w8 hown8 hb8 hg8; have hz8 : w4.heap.size + 1 ≤ w8.heap.size := (by have := hb8.size; simp at this; omega); have hw8 : Below w4.heap.size w4 w8 := (by first | exact ((Below.refl w4.heap.size w4).drew.alloc (Nat.le_refl _) _).trans hb8 | exact (((Below.refl w4.heap.size w4).drew.alloc (Nat.le_refl _) _).alloc (by simp) _).trans hb8); have x2 : w8.cell? ⟨r, 2, none⟩ = some (.slice a cur.length cp) := (hr4.below hw8).blk.cell 2)
          refine hK.out _ _ (hSS _ (But.of_below hw8)) (fun hHeld => ?_)
          clear hK K
          try simp only [Act.put, PT]
          refine wpAnyH_ready (rs := [11]) (by kernel_rfl) (by simp) ?_
          refine AllReadyH.cons (by rfl) (fun K hK => ?_) AllReadyH.nil
          (refine step_of ?_ (by rfl); refine wp_appG _ _ 68 rfl w4.heap.size 105 (.agg Itz) 8 112 Tryz.underlying68 (by kernel_rfl) rfl (by decide) _ _ _ rfl (by first | exact hown8.alloc _ | exact hown8) _ _ _ [.int .i64 id, S key, .slice ap lp.length kp, .int .i64 st, .slice af lf.length kf, S body, .int .i64 asked, .int .i64 came] rfl (by first | exact Rd.lit w8 105 #[.int .i64 id, S key, .slice ap lp.length kp, .int .i64 st, .slice af lf.length kf, S body, .int .i64 asked, .int .i64 came] 8 1 rfl (by decide) | exact (Rd.lit_at (w4.drew.alloc (.cells #[] 105)) (w4.heap.size + 1) (by simp) 105 #[.int .i64 id, S key, .slice ap lp.length kp, .int .i64 st, .slice af lf.length kf, S body, .int .i64 asked, .int .i64 came] 8 1 rfl (by decide)).block (B' := w8.heap.size) (hg8.block _ (by simp) (by show some _ ≠ some w4.heap.size; simp)) (by have q : w4.heap.size + 1 + 1 ≤ w8.heap.size := (by have := hg8.size; simpa using this); omega) | exact (Rd.lit_at w4 w4.heap.size rfl 105 #[.int .i64 id, S key, .slice ap lp.length kp, .int .i64 st, .slice af lf.length kf, S body, .int .i64 asked, .int .i64 came] 8 1 rfl (by decide)).block (B' := w8.heap.size) ((hg8.block w4.heap.size (by simp; omega) (by show some _ ≠ some (w4.heap.size + 1); simp)).trans (Below.heap_alloc (w4.alloc (.cells #[.int .i64 id, S key, .slice ap lp.length kp, .int .i64 st, .slice af lf.length kf, S body, .int .i64 asked, .int .i64 came] 105)) _ w4.heap.size (by simp))) (by have q : w4.heap.size + 1 + 1 ≤ w8.heap.size := (by have := hg8.size; simpa using this); omega)) h1n (by unfold maxLen; omega) (by omega) (by first | omega | (simp; done) | (simp; omega)) ?_; intro a9 c9 w9 hown9 hb9 hg9; have hw9 : Below w4.heap.size w4 w9 := (by first | exact (hw8.alloc (by omega) _).trans hb9 | exact hw8.trans hb9); have hr9 := hr4.below hw9; have z2 : w9.cell? ⟨r, 2, none⟩ = some (.slice a cur.length cp) := hr9.blk.cell 2; have f2 := hr9.blk.free 2)
          refine hK.out _ _ (hSS _ (But.of_below hw9)) (fun hHeld => ?_)
          clear hK K
          try simp only [Act.put, PT]
          (refine tkA 12 ?_ ?_ hHeld ?_; rotate_left; (intro w hSw; (try dsimp only at hSw); go_simp; try with_reducible rfl); simp only [Act.put, PT])
          (refine tkA 13 ?_ ?_ hHeld ?_; rotate_left; (intro w hSw; (try dsimp only at hSw); go_simp; try with_reducible rfl); simp only [Act.put, PT])
          refine wpAnyH_ready (rs := [14]) (by kernel_rfl) (by simp) ?_
          refine AllReadyH.cons (by rfl) (fun K hK => ?_) AllReadyH.nil
          go_simp
          skip
          refine hK.out _ _ (hSS _ (But.setCell (S := fun k => k = r) (But.of_below hw9) (p := ⟨r, 2, none⟩) (.inl rfl) _)) (fun hHeld => ?_)
          clear hK K
          try simp only [Act.put, PT]
          try simp only [Act.put, PT]
          refine wpAnyH_done (by kernel_rfl) ?_ _
          have hrow : w9.ownsRow B 105 8 (.slice a9 (cur.length + 1) c9) (cur ++ [nd]).length (icells (cur ++ [nd])) := by
            rw [icells_append, HND.out, List.length_append]
            exact own_base hown9 (Nat.le_of_lt hr4.at)
          have hr10 := hr9.row_set hrow (fun e he => (hlists e he).below hw9 (Nat.le_of_lt hr4.at)) hroom
          have hb10 : But (fun k => k = r) w (w9.setCell ⟨r, 2, none⟩ (.slice a9 (cur.length + 1) c9)) := (hb14.trans (But.of_below hw9)).setCell (p := ⟨r, 2, none⟩) (.inl rfl) _
          clear hrow hown8 hown9 hb8 hb9 hg8 hg9 hL h1c h1n hlists hroom x2a x2b x2c x2d
          go_wp2
          go_ret
          refine ⟨rfl, ⟨.slice a9 (cur.length + 1) c9, ?_⟩, hb10⟩
          rw [← HRO.out, ← HNE.out]
          exact hr10
        refine AllReadyH.cons (by rfl) (fun K hK => ?_) AllReadyH.nil
        go_simp
        skip
        refine hK.out _ _ (hSS _ (But.of_below (by first | exact (Below.refl _ _).drew.alloc (Nat.le_refl _) _ | exact ((Below.refl _ _).drew.alloc (Nat.le_refl _) _).alloc (by simp) _ | exact hw8.alloc (by omega) _ | exact hw8 | exact (Below.refl _ _).drew))) (fun hHeld => ?_)
        clear hK K
        try simp only [Act.put, PT]
        refine wpAnyH_ready (rs := [1]) (by kernel_rfl) (by simp) ?_
        refine AllReadyH.cons (by rfl) (fun K hK => ?_) AllReadyH.nil
        go_simp
        skip
        refine hK.out _ _ (hSS _ (But.of_below (by first | exact (Below.refl _ _).drew.alloc (Nat.le_refl _) _ | exact ((Below.refl _ _).drew.alloc (Nat.le_refl _) _).alloc (by simp) _ | exact hw8.alloc (by omega) _ | exact hw8 | exact (Below.refl _ _).drew))) (fun hHeld => ?_)
        clear hK K
        try simp only [Act.put, PT]
        refine wpAnyH_ready (rs := [6]) (by kernel_rfl) (by simp) ?_
        refine AllReadyH.cons (by rfl) (fun K hK => ?_) AllReadyH.nil
        (refine step_of ?_ (by rfl); refine wp_appG0 _ _ 68 rfl w4.heap.size 105 (.agg Itz) 8 112 Tryz.underlying68 (by kernel_rfl) rfl (by decide) _ rfl (by first | exact own_lit w4.drew w4.heap.size rfl w4.heap.size (Nat.le_refl _) _ _ | exact (own_lit w4.drew w4.heap.size rfl w4.heap.size (Nat.le_refl _) _ _).alloc _ | exact own_lit (w4.drew.alloc _) (w4.heap.size + 1) (by simp) w4.heap.size (by omega) _ _) _ _ _ _ rfl (by first | exact hL.below ((Below.refl _ _).drew.alloc (Nat.le_refl _) _) | exact hL.below (((Below.refl _ _).drew.alloc (Nat.le_refl _) _).alloc (by simp) _)) h1c (by unfold maxLen; omega) (by omega) (by first | omega | (simp; done) | (simp; omega)) ?_; intro a8 c8 w8 hown8 hb8 hg8; have hz8 : w4.heap.size + 1 ≤ w8.heap.size := (by have := hb8.size; simp at this; omega); have hw8 : Below w4.heap.size w4 w8 := (by first | exact ((Below.refl w4.heap.size w4).drew.alloc (Nat.le_refl _) _).trans hb8 | exact (((Below.refl w4.heap.size w4).drew.alloc (Nat.le_refl _) _).alloc (by simp) _).trans hb8); have x2 : w8.cell? ⟨r, 2, none⟩ = some (.slice a cur.length cp) := (hr4.below hw8).blk.cell 2)
        refine hK.out _ _ (hSS _ (But.of_below hw8)) (fun hHeld => ?_)
        clear hK K
        try simp only [Act.put, PT]
        refine wpAnyH_ready (rs := [11]) (by kernel_rfl) (by simp) ?_
        refine AllReadyH.cons (by rfl) (fun K hK => ?_) AllReadyH.nil
        (refine step_of ?_ (by rfl); refine wp_appG _ _ 68 rfl w4.heap.size 105 (.agg Itz) 8 112 Tryz.underlying68 (by kernel_rfl) rfl (by decide) _ _ _ rfl (by first | exact hown8.alloc _ | exact hown8) _ _ _ [.int .i64 id, S key, .slice ap lp.length kp, .int .i64 st, .slice af lf.length kf, S body, .int .i64 asked, .int .i64 came] rfl (by first | exact Rd.lit w8 105 #[.int .i64 id, S key, .slice ap lp.length kp, .int .i64 st, .slice af lf.length kf, S body, .int .i64 asked, .int .i64 came] 8 1 rfl (by decide) | exact (Rd.lit_at (w4.drew.alloc (.cells #[] 105)) (w4.heap.size + 1) (by simp) 105 #[.int .i64 id, S key, .slice ap lp.length kp, .int .i64 st, .slice af lf.length kf, S body, .int .i64 asked, .int .i64 came] 8 1 rfl (by decide)).block (B' := w8.heap.size) (hg8.block _ (by simp) (by show some _ ≠ some w4.heap.size; simp)) (by have q : w4.heap.size + 1 + 1 ≤ w8.heap.size := (by have := hg8.size; simpa using this); omega) | exact (Rd.lit_at w4 w4.heap.size rfl 105 #[.int .i64 id, S key, .slice ap lp.length kp, .int .i64 st, .slice af lf.length kf, S body, .int .i64 asked, .int .i64 came] 8 1 rfl (by decide)).block (B' := w8.heap.size) ((hg8.block w4.heap.size (by simp; omega) (by show some _ ≠ some (w4.heap.size + 1); simp)).trans (Below.heap_alloc (w4.alloc (.cells #[.int .i64 id, S key, .slice ap lp.length kp, .int .i64 st, .slice af lf.length kf, S body, .int .i64 asked, .int .i64 came] 105)) _ w4.heap.size (by simp))) (by have q : w4.heap.size + 1 + 1 ≤ w8.heap.size := (by have := hg8.size; simpa using this); omega)) h1n (by unfold maxLen; omega) (by omega) (by first | omega | (simp; done) | (simp; omega)) ?_; intro a9 c9 w9 hown9 hb9 hg9; have hw9 : Below w4.heap.size w4 w9 := (by first | exact (hw8.alloc (by omega) _).trans hb9 | exact hw8.trans hb9); have hr9 := hr4.below hw9; have z2 : w9.cell? ⟨r, 2, none⟩ = some (.slice a cur.length cp) := hr9.blk.cell 2; have f2 := hr9.blk.free 2)
        refine hK.out _ _ (hSS _ (But.of_below hw9)) (fun hHeld => ?_)
        clear hK K
        try simp only [Act.put, PT]
        (refine tkA 12 ?_ ?_ hHeld ?_; rotate_left; (intro w hSw; (try dsimp only at hSw); go_simp; try with_reducible rfl); simp only [Act.put, PT])
        (refine tkA 13 ?_ ?_ hHeld ?_; rotate_left; (intro w hSw; (try dsimp only at hSw); go_simp; try with_reducible rfl); simp only [Act.put, PT])
        refine wpAnyH_ready (rs := [14]) (by kernel_rfl) (by simp) ?_
        refine AllReadyH.cons (by rfl) (fun K hK => ?_) AllReadyH.nil
        go_simp
        skip
        refine hK.out _ _ (hSS _ (But.setCell (S := fun k => k = r) (But.of_below hw9) (p := ⟨r, 2, none⟩) (.inl rfl) _)) (fun hHeld => ?_)
        clear hK K
        try simp only [Act.put, PT]
        try simp only [Act.put, PT]
        refine wpAnyH_done (by kernel_rfl) ?_ _
        have hrow : w9.ownsRow B 105 8 (.slice a9 (cur.length + 1) c9) (cur ++ [nd]).length (icells (cur ++ [nd])) := by
          rw [icells_append, HND.out, List.length_append]
          exact own_base hown9 (Nat.le_of_lt hr4.at)
        have hr10 := hr9.row_set hrow (fun e he => (hlists e he).below hw9 (Nat.le_of_lt hr4.at)) hroom
        have hb10 : But (fun k => k = r) w (w9.setCell ⟨r, 2, none⟩ (.slice a9 (cur.length + 1) c9)) := (hb14.trans (But.of_below hw9)).setCell (p := ⟨r, 2, none⟩) (.inl rfl) _
        clear hrow hown8 hown9 hb8 hb9 hg8 hg9 hL h1c h1n hlists hroom x2a x2b x2c x2d
        go_wp2
        go_ret
        refine ⟨rfl, ⟨.slice a9 (cur.length + 1) c9, ?_⟩, hb10⟩
        rw [← HRO.out, ← HNE.out]
        exact hr10
      refine AllReadyH.cons (by rfl) (fun K hK => ?_) AllReadyH.nil
      go_simp
      skip
      refine hK.out _ _ (hSS _ (But.of_below (by first | exact (Below.refl _ _).drew.alloc (Nat.le_refl _) _ | exact ((Below.refl _ _).drew.alloc (Nat.le_refl _) _).alloc (by simp) _ | exact hw8.alloc (by omega) _ | exact hw8 | exact (Below.refl _ _).drew))) (fun hHeld => ?_)
      clear hK K
      try simp only [Act.put, PT]
      refine wpAnyH_ready (rs := [1, 5]) (by kernel_rfl) (by simp) ?_
      refine AllReadyH.cons (by rfl) (fun K hK => ?_) ?_
      ·
        go_simp
        skip
        refine hK.out _ _ (hSS _ (But.of_below (by first | exact (Below.refl _ _).drew.alloc (Nat.le_refl _) _ | exact ((Below.refl _ _).drew.alloc (Nat.le_refl _) _).alloc (by simp) _ | exact hw8.alloc (by omega) _ | exact hw8 | exact (Below.refl _ _).drew))) (fun hHeld => ?_)
        clear hK K
        try simp only [Act.put, PT]
        refine wpAnyH_ready (rs := [5]) (by kernel_rfl) (by simp) ?_
        refine AllReadyH.cons (by rfl) (fun K hK => ?_) AllReadyH.nil
        go_simp
        skip
        refine hK.out _ _ (hSS _ (But.of_below (by first | exact (Below.refl _ _).drew.alloc (Nat.le_refl _) _ | exact ((Below.refl _ _).drew.alloc (Nat.le_refl _) _).alloc (by simp) _ | exact hw8.alloc (by omega) _ | exact hw8 | exact (Below.refl _ _).drew))) (fun hHeld => ?_)
        clear hK K
        try simp only [Act.put, PT]
        refine wpAnyH_ready (rs := [6]) (by kernel_rfl) (by simp) ?_
        refine AllReadyH.cons (by rfl) (fun K hK => ?_) AllReadyH.nil
        (refine step_of ?_ (by rfl); refine wp_appG0 _ _ 68 rfl w4.heap.size 105 (.agg Itz) 8 112 Tryz.underlying68 (by kernel_rfl) rfl (by decide) _ rfl (by first | exact own_lit w4.drew w4.heap.size rfl w4.heap.size (Nat.le_refl _) _ _ | exact (own_lit w4.drew w4.heap.size rfl w4.heap.size (Nat.le_refl _) _ _).alloc _ | exact own_lit (w4.drew.alloc _) (w4.heap.size + 1) (by simp) w4.heap.size (by omega) _ _) _ _ _ _ rfl (by first | exact hL.below ((Below.refl _ _).drew.alloc (Nat.le_refl _) _) | exact hL.below (((Below.refl _ _).drew.alloc (Nat.le_refl _) _).alloc (by simp) _)) h1c (by unfold maxLen; omega) (by omega) (by first | omega | (simp; done) | (simp; omega)) ?_; intro a8 c8 w8 hown8 hb8 hg8; have hz8 : w4.heap.size + 1 ≤ w8.heap.size := (by have := hb8.size; simp at this; omega); have hw8 : Below w4.heap.size w4 w8 := (by first | exact ((Below.refl w4.heap.size w4).drew.alloc (Nat.le_refl _) _).trans hb8 | exact (((Below.refl w4.heap.size w4).drew.alloc (Nat.le_refl _) _).alloc (by simp) _).trans hb8); have x2 : w8.cell? ⟨r, 2, none⟩ = some (.slice a cur.length cp) := (hr4.below hw8).blk.cell 2)
        refine hK.out _ _ (hSS _ (But.of_below hw8)) (fun hHeld => ?_)
        clear hK K
        try simp only [Act.put, PT]
        refine wpAnyH_ready (rs := [11]) (by kernel_rfl) (by simp) ?_
        refine AllReadyH.cons (by rfl) (fun K hK => ?_) AllReadyH.nil
        (refine step_of ?_ (by rfl); refine wp_appG _ _ 68 rfl w4.heap.size 105 (.agg Itz) 8 112 Tryz.underlying68 (by kernel_rfl) rfl (by decide) _ _ _ rfl (by first | exact hown8.alloc _ | exact hown8) _ _ _ [.int .i64 id, S key, .slice ap lp.length kp, .int .i64 st, .slice af lf.length kf, S body, .int .i64 asked, .int .i64 came] rfl (by first | exact Rd.lit w8 105 #[.int .i64 id, S key, .slice ap lp.length kp, .int .i64 st, .slice af lf.length kf, S body, .int .i64 asked, .int .i64 came] 8 1 rfl (by decide) | exact (Rd.lit_at (w4.drew.alloc (.cells #[] 105)) (w4.heap.size + 1) (by simp) 105 #[.int .i64 id, S key, .slice ap lp.length kp, .int .i64 st, .slice af lf.length kf, S body, .int .i64 asked, .int .i64 came] 8 1 rfl (by decide)).block (B' := w8.heap.size) (hg8.block _ (by simp) (by show some _ ≠ some w4.heap.size; simp)) (by have q : w4.heap.size + 1 + 1 ≤ w8.heap.size := (by have := hg8.size; simpa using this); omega) | exact (Rd.lit_at w4 w4.heap.size rfl 105 #[.int .i64 id, S key, .slice ap lp.length kp, .int .i64 st, .slice af lf.length kf, S body, .int .i64 asked, .int .i64 came] 8 1 rfl (by decide)).block (B' := w8.heap.size) ((hg8.block w4.heap.size (by simp; omega) (by show some _ ≠ some (w4.heap.size + 1); simp)).trans (Below.heap_alloc (w4.alloc (.cells #[.int .i64 id, S key, .slice ap lp.length kp, .int .i64 st, .slice af lf.length kf, S body, .int .i64 asked, .int .i64 came] 105)) _ w4.heap.size (by simp))) (by have q : w4.heap.size + 1 + 1 ≤ w8.heap.size := (by have := hg8.size; simpa using this); omega)) h1n (by unfold maxLen; omega) (by omega) (by first | omega | (simp; done) | (simp; omega)) ?_; intro a9 c9 w9 hown9 hb9 hg9; have hw9 : Below w4.heap.size w4 w9 := (by first | exact (hw8.alloc (by omega) _).trans hb9 | exact hw8.trans hb9); have hr9 := hr4.below hw9; have z2 : w9.cell? ⟨r, 2, none⟩ = some (.slice a cur.length cp) := hr9.blk.cell 2; have f2 := hr9.blk.free 2)
        refine hK.out _ _ (hSS _ (But.of_below hw9)) (fun hHeld => ?_)
        clear hK K
        try simp only [Act.put, PT]
        (refine tkA 12 ?_ ?_ hHeld ?_; rotate_left; (intro w hSw; (try dsimp only at hSw); go_simp; try with_reducible rfl); simp only [Act.put, PT])
        (refine tkA 13 ?_ ?_ hHeld ?_; rotate_left; (intro w hSw; (try dsimp only at hSw); go_simp; try with_reducible rfl); simp only [Act.put, PT])
        refine wpAnyH_ready (rs := [14]) (by kernel_rfl) (by simp) ?_
        refine AllReadyH.cons (by rfl) (fun K hK => ?_) AllReadyH.nil
        go_simp
        skip
        refine hK.out _ _ (hSS _ (But.setCell (S := fun k => k = r) (But.of_below hw9) (p := ⟨r, 2, none⟩) (.inl rfl) _)) (fun hHeld => ?_)
        clear hK K
        try simp only [Act.put, PT]
        try simp only [Act.put, PT]
        refine wpAnyH_done (by kernel_rfl) ?_ _
        have hrow : w9.ownsRow B 105 8 (.slice a9 (cur.length + 1) c9) (cur ++ [nd]).length (icells (cur ++ [nd])) := by
          rw [icells_append, HND.out, List.length_append]
          exact own_base hown9 (Nat.le_of_lt hr4.at)
        have hr10 := hr9.row_set hrow (fun e he => (hlists e he).below hw9 (Nat.le_of_lt hr4.at)) hroom
        have hb10 : But (fun k => k = r) w (w9.setCell ⟨r, 2, none⟩ (.slice a9 (cur.length + 1) c9)) := (hb14.trans (But.of_below hw9)).setCell (p := ⟨r, 2, none⟩) (.inl rfl) _
        clear hrow hown8 hown9 hb8 hb9 hg8 hg9 hL h1c h1n hlists hroom x2a x2b x2c x2d
        go_wp2
        go_ret
        refine ⟨rfl, ⟨.slice a9 (cur.length + 1) c9, ?_⟩, hb10⟩
        rw [← HRO.out, ← HNE.out]
        exact hr10
      refine AllReadyH.cons (by rfl) (fun K hK => ?_) AllReadyH.nil
      go_simp
      skip
      refine hK.out _ _ (hSS _ (But.of_below (by first | exact (Below.refl _ _).drew.alloc (Nat.le_refl _) _ | exact ((Below.refl _ _).drew.alloc (Nat.le_refl _) _).alloc (by simp) _ | exact hw8.alloc (by omega) _ | exact hw8 | exact (Below.refl _ _).drew))) (fun hHeld => ?_)
      clear hK K
      try simp only [Act.put, PT]
      refine wpAnyH_ready (rs := [1]) (by kernel_rfl) (by simp) ?_
      refine AllReadyH.cons (by rfl) (fun K hK => ?_) AllReadyH.nil
      go_simp
      skip
      refine hK.out _ _ (hSS _ (But.of_below (by first | exact (Below.refl _ _).drew.alloc (Nat.le_refl _) _ | exact ((Below.refl _ _).drew.alloc (Nat.le_refl _) _).alloc (by simp) _ | exact hw8.alloc (by omega) _ | exact hw8 | exact (Below.refl _ _).drew))) (fun hHeld => ?_)
      clear hK K
      try simp only [Act.put, PT]
      refine wpAnyH_ready (rs := [6]) (by kernel_rfl) (by simp) ?_
      refine AllReadyH.cons (by rfl) (fun K hK => ?_) AllReadyH.nil
      (refine step_of ?_ (by rfl); refine wp_appG0 _ _ 68 rfl w4.heap.size 105 (.agg Itz) 8 112 Tryz.underlying68 (by kernel_rfl) rfl (by decide) _ rfl (by first | exact own_lit w4.drew w4.heap.size rfl w4.heap.size (Nat.le_refl _) _ _ | exact (own_lit w4.drew w4.heap.size rfl w4.heap.size (Nat.le_refl _) _ _).alloc _ | exact own_lit (w4.drew.alloc _) (w4.heap.size + 1) (by simp) w4.heap.size (by omega) _ _) _ _ _ _ rfl (by first | exact hL.below ((Below.refl _ _).drew.alloc (Nat.le_refl _) _) | exact hL.below (((Below.refl _ _).drew.alloc (Nat.le_refl _) _).alloc (by simp) _)) h1c (by unfold maxLen; omega) (by omega) (by first | omega | (simp; done) | (simp; omega)) ?_; intro a8 c8 w8 hown8 hb8 hg8; have hz8 : w4.heap.size + 1 ≤ w8.heap.size := (by have := hb8.size; simp at this; omega); have hw8 : Below w4.heap.size w4 w8 := (by first | exact ((Below.refl w4.heap.size w4).drew.alloc (Nat.le_refl _) _).trans hb8 | exact (((Below.refl w4.heap.size w4).drew.alloc (Nat.le_refl _) _).alloc (by simp) _).trans hb8); have x2 : w8.cell? ⟨r, 2, none⟩ = some (.slice a cur.length cp) := (hr4.below hw8).blk.cell 2)
      refine hK.out _ _ (hSS _ (But.of_below hw8)) (fun hHeld => ?_)
      clear hK K
      try simp only [Act.put, PT]
      refine wpAnyH_ready (rs := [11]) (by kernel_rfl) (by simp) ?_
      refine AllReadyH.cons (by rfl) (fun K hK => ?_) AllReadyH.nil
      (refine step_of ?_ (by rfl); refine wp_appG _ _ 68 rfl w4.heap.size 105 (.agg Itz) 8 112 Tryz.underlying68 (by kernel_rfl) rfl (by decide) _ _ _ rfl (by first | exact hown8.alloc _ | exact hown8) _ _ _ [.int .i64 id, S key, .slice ap lp.length kp, .int .i64 st, .slice af lf.length kf, S body, .int .i64 asked, .int .i64 came] rfl (by first | exact Rd.lit w8 105 #[.int .i64 id, S key, .slice ap lp.length kp, .int .i64 st, .slice af lf.length kf, S body, .int .i64 asked, .int .i64 came] 8 1 rfl (by decide) | exact (Rd.lit_at (w4.drew.alloc (.cells #[] 105)) (w4.heap.size + 1) (by simp) 105 #[.int .i64 id, S key, .slice ap lp.length kp, .int .i64 st, .slice af lf.length kf, S body, .int .i64 asked, .int .i64 came] 8 1 rfl (by decide)).block (B' := w8.heap.size) (hg8.block _ (by simp) (by show some _ ≠ some w4.heap.size; simp)) (by have q : w4.heap.size + 1 + 1 ≤ w8.heap.size := (by have := hg8.size; simpa using this); omega) | exact (Rd.lit_at w4 w4.heap.size rfl 105 #[.int .i64 id, S key, .slice ap lp.length kp, .int .i64 st, .slice af lf.length kf, S body, .int .i64 asked, .int .i64 came] 8 1 rfl (by decide)).block (B' := w8.heap.size) ((hg8.block w4.heap.size (by simp; omega) (by show some _ ≠ some (w4.heap.size + 1); simp)).trans (Below.heap_alloc (w4.alloc (.cells #[.int .i64 id, S key, .slice ap lp.length kp, .int .i64 st, .slice af lf.length kf, S body, .int .i64 asked, .int .i64 came] 105)) _ w4.heap.size (by simp))) (by have q : w4.heap.size + 1 + 1 ≤ w8.heap.size := (by have := hg8.size; simpa using this); omega)) h1n (by unfold maxLen; omega) (by omega) (by first | omega | (simp; done) | (simp; omega)) ?_; intro a9 c9 w9 hown9 hb9 hg9; have hw9 : Below w4.heap.size w4 w9 := (by first | exact (hw8.alloc (by omega) _).trans hb9 | exact hw8.trans hb9); have hr9 := hr4.below hw9; have z2 : w9.cell? ⟨r, 2, none⟩ = some (.slice a cur.length cp) := hr9.blk.cell 2; have f2 := hr9.blk.free 2)
      refine hK.out _ _ (hSS _ (But.of_below hw9)) (fun hHeld => ?_)
      clear hK K
      try simp only [Act.put, PT]
      (refine tkA 12 ?_ ?_ hHeld ?_; rotate_left; (intro w hSw; (try dsimp only at hSw); go_simp; try with_reducible rfl); simp only [Act.put, PT])
      (refine tkA 13 ?_ ?_ hHeld ?_; rotate_left; (intro w hSw; (try dsimp only at hSw); go_simp; try with_reducible rfl); simp only [Act.put, PT])
      refine wpAnyH_ready (rs := [14]) (by kernel_rfl) (by simp) ?_
      refine AllReadyH.cons (by rfl) (fun K hK => ?_) AllReadyH.nil
      go_simp
      skip
      refine hK.out _ _ (hSS _ (But.setCell (S := fun k => k = r) (But.of_below hw9) (p := ⟨r, 2, none⟩) (.inl rfl) _)) (fun hHeld => ?_)
      clear hK K
      try simp only [Act.put, PT]
      try simp only [Act.put, PT]
      refine wpAnyH_done (by kernel_rfl) ?_ _
      have hrow : w9.ownsRow B 105 8 (.slice a9 (cur.length + 1) c9) (cur ++ [nd]).length (icells (cur ++ [nd])) := by
        rw [icells_append, HND.out, List.length_append]
        exact own_base hown9 (Nat.le_of_lt hr4.at)
      have hr10 := hr9.row_set hrow (fun e he => (hlists e he).below hw9 (Nat.le_of_lt hr4.at)) hroom
      have hb10 : But (fun k => k = r) w (w9.setCell ⟨r, 2, none⟩ (.slice a9 (cur.length + 1) c9)) := (hb14.trans (But.of_below hw9)).setCell (p := ⟨r, 2, none⟩) (.inl rfl) _
      clear hrow hown8 hown9 hb8 hb9 hg8 hg9 hL h1c h1n hlists hroom x2a x2b x2c x2d
      go_wp2
      go_ret
      refine ⟨rfl, ⟨.slice a9 (cur.length + 1) c9, ?_⟩, hb10⟩
      rw [← HRO.out, ← HNE.out]
      exact hr10
end Go.Proofs.YtahapblgmehngaaGreatDoor

