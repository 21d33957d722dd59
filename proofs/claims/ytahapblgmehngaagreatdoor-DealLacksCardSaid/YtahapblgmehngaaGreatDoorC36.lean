/- Parts of the proof of DealLacks_holds: the texts Rs3. -/
import Derived.Test.YtahapblgmehngaaGreatDoorC35
set_option linter.unusedSimpArgs false
set_option linter.unusedVariables false
set_option linter.unnecessarySimpa false
namespace Go.Proofs.YtahapblgmehngaaGreatDoor
open Go.RowKit Go.Dr

def alikeE (key : Bytes) (lp : List F) (e : Ev) : Bool := e.x.key == key && e.x.lp == lp
theorem costs_filterE (p : Ev → Bool) (l : List Ev) : costs ((l.filter p).map Ev.x) ≤ costs (l.map Ev.x) := by
  induction l with
  | nil => exact Nat.le_refl _
  | cons e l ih =>
    rw [List.filter_cons]
    split
    · rw [List.map_cons, List.map_cons, costs_cons, costs_cons]; omega
    · rw [List.map_cons, costs_cons]; omega
set_option maxRecDepth 100000 in
set_option maxHeartbeats 4000000 in
theorem refPut_any {B r M : Nat} {last : Int} {v : Value} {er : List Ev} (q : En) (lp' lf' : List F) (w : World) (h : Rs B w r (M : Int) last v er) (hp : Fo 89 B w q.vp lp') (hf : Fo 60 B w q.vf lf') (hk' : q.key.length ≤ 1099511627776) (hb' : q.body.length ≤ 1099511627776) (hl : fsum lp' ≤ 1099511627776) (hl2 : fsum lf' ≤ 1048576) (hla : 0 ≤ last ∧ last ≤ 4611686018427387904) (hc : costF q lp' lf' ≤ M) :
    Calls Tryz.prog 31 #[Ptr r, q.val] w fun e w' => e = .returned (.tuple #[.int .i64 (last + 1), .int .i64 0]) ∧ (∃ v', Rs B w' r (M : Int) (last + 1) v' (roomE (M - costF q lp' lf') (er.filter (fun e => !alikeE q.key lp' e)) ++ [⟨q.vp, q.vf, It.of (last + 1) q lp' lf'⟩])) ∧ But (fun k => k = r) w w' := by
  obtain ⟨c0', ec0⟩ : ∃ c0', c0' = costF q lp' lf' := ⟨_, rfl⟩
  have HLY := Lib.hid (fun (w1 : World) (v1 : Value) (er1 : List Ev) (h1 : Rs B w1 r (M : Int) last v1 er1) h2 h3 => refLay_any (last + 1) q lp' lf' w1 h1 h2 h3 hk' hb' hl hl2 hc)
  rw [← ec0] at hc HLY ⊢
  clear ec0
  obtain ⟨xkey, vp, xst, vf, xbody, xa, xc⟩ := q
  obtain ⟨axp, kxp, hvp, -⟩ := hp.form
  obtain ⟨axf, kxf, hvf, -⟩ := hf.form
  simp only [En.val] at *
  subst hvp hvf
  obtain ⟨xlp, exl⟩ : ∃ xlp, xlp = lp' := ⟨_, rfl⟩
  obtain ⟨xlf, exf⟩ : ∃ xlf, xlf = lf' := ⟨_, rfl⟩
  subst exl exf
  obtain ⟨a, c, hv⟩ := row_form h.row
  subst hv
  have hlen := h.len
  obtain ⟨w0, ew⟩ : ∃ w0 : World, w0 = w.alloc (.cells #[S xkey, .slice axp xlp.length kxp, .int .i64 xst, .slice axf xlf.length kxf, S xbody, .int .i64 xa, .int .i64 xc] 36) := ⟨_, rfl⟩
  have hb0 : Below w.heap.size w w0 := by rw [ew]; exact (Below.refl _ _).alloc (Nat.le_refl _) _
  obtain ⟨G, eG⟩ : ∃ G, G = w.heap.size := ⟨_, rfl⟩
  have hQ0 : Blk w0 G 36 #[S xkey, .slice axp xlp.length kxp, .int .i64 xst, .slice axf xlf.length kxf, S xbody, .int .i64 xa, .int .i64 xc] := by rw [ew, eG]; exact Blk.new _ _ _
  have HG := Lib.hid eG
  have hGr : r < G := by rw [eG]; exact h.blk.lt
  have h0 := h.below hb0
  have hBw : B ≤ w.heap.size := Nat.le_of_lt h.at
  have hp0 := hp.below hb0 hBw
  have hf0 := hf.below hb0 hBw
  obtain ⟨W0, eW0⟩ : ∃ W0, W0 = w0.heap.size := ⟨_, rfl⟩
  have hW0a : W0 ≤ w0.heap.size := Nat.le_of_eq eW0
  have hW0r : w0.heap.size ≤ W0 := Nat.le_of_eq eW0.symm
  have hwrp : IntKind.i64.wrap (last + 1) = last + 1 := by rw [IntKind.wrap_i64]; omega
  obtain ⟨el, eel0⟩ : ∃ el, el = er.filter (fun e => !alikeE xkey xlp e) := ⟨_, rfl⟩
  rw [← eel0]
  have HEL := Lib.hid eel0
  clear eG eW0 eel0
  go_enter Tryz.func31, Tryz.ntmps31
  go_upto_region 1 with fail
  rw [← HG.out, ← ew]
  clear ew
  go_wp2
  go_loopw [6, 7] (fun lv i wr => ∃ k N : Nat, i = .int .i64 k ∧ k ≤ er.length ∧ N ≤ k ∧ N = ((er.take k).filter (fun e => !alikeE xkey xlp e)).length ∧ wr.ownsRow W0 105 8 lv N (icells ((er.take k).filter (fun e => !alikeE xkey xlp e))) ∧ Below W0 w0 wr) (fun _ i _ => er.length - (intOf i).toNat)
  case atStart => exact ⟨0, 0, rfl, Nat.zero_le _, Nat.le_refl _, rfl, World.ownsRow_nil _ _ _ _, Below.refl _ _⟩
  case round =>
    obtain ⟨k, N, rfl, hk, hNk, hN', hown, hbr⟩ := hrel
    have HN := Lib.hid hN'
    clear hN'
    obtain ⟨al, cl, hvl⟩ := row_form hown
    subst hvl
    have hW0 : W0 ≤ wr.heap.size := Nat.le_trans hW0a hbr.size
    have hbw0 : Below w0.heap.size w0 wr := hbr.mono hW0r
    have hr := h0.below hbw0
    have hBr : B ≤ wr.heap.size := Nat.le_of_lt hr.at
    have hQr : Blk wr G 36 #[S xkey, .slice axp xlp.length kxp, .int .i64 xst, .slice axf xlf.length kxf, S xbody, .int .i64 xa, .int .i64 xc] := hQ0.on hbw0
    have x2 : wr.cell? ⟨r, 2, none⟩ = some (.slice a er.length c) := hr.blk.cell 2
    have hWB : B ≤ W0 := Nat.le_trans (Nat.le_of_lt h0.at) hW0r
    by_cases hlt : k < er.length
    · have hsn : (er.take (k + 1)).filter (fun e => !alikeE xkey xlp e) = (er.take k).filter (fun e => !alikeE xkey xlp e) ++ [er[k]].filter (fun e => !alikeE xkey xlp e) := by
        rw [take_snoc er k hlt, List.filter_append]
      obtain ⟨b, off, rfl, hbb, c0, c1, c2, c3, c4, c5, c6, c7⟩ := it_at (Rd.own hr.row) k hlt
      have hl := hr.lists er[k] (List.getElem_mem hlt)
      have hco := hr.cost (List.getElem_mem hlt)
      obtain ⟨e, ee⟩ : ∃ e, e = er[k] := ⟨_, rfl⟩
      rw [← ee] at c0 c1 c2 c3 c4 c5 c6 c7 hl hco
      have HE := Lib.hid ee
      clear ee
      obtain ⟨vp, vf, ⟨eid, key, lp, st, lf, body, asked, came⟩⟩ := e
      obtain ⟨ap, kp, hvp, -⟩ := hl.1.form
      obtain ⟨af, kf, hvf, -⟩ := hl.2.form
      simp only at c0 c1 c2 c3 c4 c5 c6 c7 hvp hvf
      subst hvp hvf
      have hlp : Fo 89 B wr (.slice ap lp.length kp) lp := hl.1
      have hlf : Fo 60 B wr (.slice af lf.length kf) lf := hl.2
      have hcn : 64 + key.length + body.length + fsum lf + fsum lp ≤ 1048576 := hco
      have d2 : wr.cell? ⟨b, off + k * 8 + 1 + 1, none⟩ = some (.slice ap lp.length kp) := c2
      have d3 : wr.cell? ⟨b, off + k * 8 + 1 + 2, none⟩ = some (.int .i64 st) := c3
      have d4 : wr.cell? ⟨b, off + k * 8 + 1 + 3, none⟩ = some (.slice af lf.length kf) := c4
      have d5 : wr.cell? ⟨b, off + k * 8 + 1 + 4, none⟩ = some (S body) := c5
      have d6 : wr.cell? ⟨b, off + k * 8 + 1 + 5, none⟩ = some (.int .i64 asked) := c6
      have d7 : wr.cell? ⟨b, off + k * 8 + 1 + 6, none⟩ = some (.int .i64 came) := c7
      clear hl hco
      have HSN := Lib.hid hsn
      clear hsn
      have y0 : wr.cell? ⟨G, 0, none⟩ = some (S xkey) := hQr.cell 0
      have y1 : wr.cell? ⟨G, 1, none⟩ = some (.slice axp xlp.length kxp) := hQr.cell 1
      by_cases hkey : key = xkey
      · have hr1 : (key != xkey) = false := by simp [hkey]
        have hr2 : (key == xkey) = true := by simp [hkey]
        have hPS := PSame_any lp xlp (.slice ap lp.length kp) (.slice axp xlp.length kxp) wr.drew (show Fs wr.drew.heap.size wr.drew (.slice ap lp.length kp) lp from hlp.fs hBr) (show Fs wr.drew.heap.size wr.drew (.slice axp xlp.length kxp) xlp from (hp0.below hbw0 (Nat.le_of_lt h0.at)).fs hBr)
        obtain ⟨cc, ec⟩ : ∃ cc, cc = (lp == xlp) := ⟨_, rfl⟩
        rw [← ec] at hPS
        have hal : alikeE xkey xlp ⟨.slice ap lp.length kp, .slice af lf.length kf, ⟨eid, key, lp, st, lf, body, asked, came⟩⟩ = cc := by
          unfold alikeE
          show ((key == xkey) && (lp == xlp)) = cc
          rw [hr2, ec]
          rfl
        have HAL := Lib.hid hal
        clear hkey ec hal
        cases cc with
        | true =>
          have HFK : Hid ((er.take (k + 1)).filter (fun e => !alikeE xkey xlp e) = (er.take k).filter (fun e => !alikeE xkey xlp e)) := by
            show _ = _
            rw [HSN.out, ← HE.out, List.filter_cons, HAL.out]
            simp
          clear HSN HE HAL
          go_wp2_with fail
          refine wp_region_held_drew (S := (fun wx => wx.cell? ⟨r, 2, none⟩ = some (.slice (some ⟨b, off, none⟩) er.length c) ∧ wx.cell? ⟨b, off + k * 8 + 1, none⟩ = some (S key) ∧ wx.cell? ⟨b, off + k * 8 + 1 + 1, none⟩ = some (.slice ap lp.length kp) ∧ wx.cell? ⟨G, 0, none⟩ = some (S xkey) ∧ wx.cell? ⟨G, 1, none⟩ = some (.slice axp xlp.length kxp))) (by kernel_rfl) ⟨x2, c1, d2, y0, y1⟩ (fun hHeld => ?_)
          (refine tkA 0 ?_ ?_ hHeld ?_; rotate_left; (intro w hSw; (try dsimp only at hSw); go_simp; try with_reducible rfl); simp only [Act.put, PT])
          (refine tkA 1 ?_ ?_ hHeld ?_; rotate_left; (intro w hSw; (try dsimp only at hSw); go_simp; try with_reducible rfl); simp only [Act.put, PT])
          (refine tkA 2 ?_ ?_ hHeld ?_; rotate_left; (intro w hSw; (try dsimp only at hSw); go_simp; try with_reducible rfl); simp only [Act.put, PT])
          (refine tkA 3 ?_ ?_ hHeld ?_; rotate_left; (intro w hSw; (try dsimp only at hSw); go_simp; try with_reducible rfl); simp only [Act.put, PT])
          (refine tkA 4 ?_ ?_ hHeld ?_; rotate_left; (intro w hSw; (try dsimp only at hSw); go_simp; try with_reducible rfl); simp only [Act.put, PT])
          (refine tkA 5 ?_ ?_ hHeld ?_; rotate_left; (intro w hSw; (try dsimp only at hSw); go_simp; try with_reducible rfl); simp only [Act.put, PT])
          (refine tkA 6 ?_ ?_ hHeld ?_; rotate_left; (intro w hSw; (try dsimp only at hSw); go_simp; try with_reducible rfl); simp only [Act.put, PT])
          (refine tkA 7 ?_ ?_ hHeld ?_; rotate_left; (intro w hSw; (try dsimp only at hSw); go_simp; try with_reducible rfl); simp only [Act.put, PT])
          (refine tkA 8 ?_ ?_ hHeld ?_; rotate_left; (intro w hSw; (try dsimp only at hSw); go_simp; try with_reducible rfl); simp only [Act.put, PT])
          (refine tkA 9 ?_ ?_ hHeld ?_; rotate_left; (intro w hSw; (try dsimp only at hSw); go_simp; try with_reducible rfl); simp only [Act.put, PT])
          (refine tkA 10 ?_ ?_ hHeld ?_; rotate_left; (intro w hSw; (try dsimp only at hSw); go_simp; try with_reducible rfl); simp only [Act.put, PT])
          (refine tkA 11 ?_ ?_ hHeld ?_; rotate_left; (intro w hSw; (try dsimp only at hSw); go_simp; try with_reducible rfl); simp only [Act.put, PT])
          (refine tkA 12 ?_ ?_ hHeld ?_; rotate_left; (intro w hSw; (try dsimp only at hSw); go_simp; try with_reducible rfl); simp only [Act.put, PT])
          (refine tkA 13 ?_ ?_ hHeld ?_; rotate_left; (intro w hSw; (try dsimp only at hSw); go_simp; try with_reducible rfl); simp only [Act.put, PT])
          (refine tkA 14 ?_ ?_ hHeld ?_; rotate_left; (intro w hSw; (try dsimp only at hSw); go_simp; try with_reducible rfl); simp only [Act.put, PT])
          (refine tkA 15 ?_ ?_ hHeld ?_; rotate_left; (intro w hSw; (try dsimp only at hSw); go_simp; try with_reducible rfl); simp only [Act.put, PT])
          (refine tkA 16 ?_ ?_ hHeld ?_; rotate_left; (intro w hSw; (try dsimp only at hSw); go_simp; try with_reducible rfl); simp only [Act.put, PT])
          (refine tkA 17 ?_ ?_ hHeld ?_; rotate_left; (intro w hSw; (try dsimp only at hSw); go_simp; try with_reducible rfl); simp only [Act.put, PT])
          (refine tkA 18 ?_ ?_ hHeld ?_; rotate_left; (intro w hSw; (try dsimp only at hSw); go_simp; try with_reducible rfl); simp only [Act.put, PT])
          (refine tkA 19 ?_ ?_ hHeld ?_; rotate_left; (intro w hSw; (try dsimp only at hSw); go_simp; try with_reducible rfl); simp only [Act.put, PT])
          (refine tkA 20 ?_ ?_ hHeld ?_; rotate_left; (intro w hSw; (try dsimp only at hSw); go_simp; try with_reducible rfl); simp only [Act.put, PT])
          (refine tkA 21 ?_ ?_ hHeld ?_; rotate_left; (intro w hSw; (try dsimp only at hSw); go_simp; try with_reducible rfl); simp only [Act.put, PT])
          (refine tkA 22 ?_ ?_ hHeld ?_; rotate_left; (intro w hSw; (try dsimp only at hSw); go_simp; try with_reducible rfl); simp only [Act.put, PT])
          (refine tkA 23 ?_ ?_ hHeld ?_; rotate_left; (intro w hSw; (try dsimp only at hSw); go_simp; try with_reducible rfl); simp only [Act.put, PT])
          refine wpAnyH_ready (rs := [24]) (by kernel_rfl) (by simp) ?_
          refine AllReadyH.cons (by rfl) (fun K hK => ?_) AllReadyH.nil
          go_simp
          (with_reducible refine hPS.mono ?_); rintro e wk ⟨rfl, hbk⟩; replace hbk := Bl.undrew hbk
          refine hK.out _ _ ⟨(hr.below hbk).blk.cell 2, ((bcell hbk).1 b (off + k * 8 + 1) hbb).trans c1, ((bcell hbk).1 b (off + k * 8 + 1 + 1) hbb).trans d2, (hQr.on hbk).cell 0, (hQr.on hbk).cell 1⟩ (fun hHeld => ?_)
          clear hK K
          try simp only [Act.put, PT]
          (refine tkA 25 ?_ ?_ hHeld ?_; rotate_left; (intro w hSw; (try dsimp only at hSw); go_simp; try with_reducible rfl); simp only [Act.put, PT])
          (refine tkA 26 ?_ ?_ hHeld ?_; rotate_left; (intro w hSw; (try dsimp only at hSw); go_simp; try with_reducible rfl); simp only [Act.put, PT])
          try simp only [Act.put, PT]
          refine wpAnyH_done (by kernel_rfl) ?_ _
          go_wp2
          go_roundw
          case rel => exact ⟨k + 1, N, by go_num, by omega, by omega, by rw [HFK.out]; exact HN.out, by rw [HFK.out]; exact own_below hown hbk, hbr.trans (hbk.mono hW0)⟩
          case measure => (first | (simp [intOf]; done) | (simp [intOf]; omega))
        | false =>
          have HFK : Hid ((er.take (k + 1)).filter (fun e => !alikeE xkey xlp e) = (er.take k).filter (fun e => !alikeE xkey xlp e) ++ [⟨.slice ap lp.length kp, .slice af lf.length kf, ⟨eid, key, lp, st, lf, body, asked, came⟩⟩]) := by
            show _ = _
            rw [HSN.out, ← HE.out, List.filter_cons, HAL.out]
            simp
          clear HSN HE HAL
          go_wp2_with fail
          refine wp_region_held_drew (S := (fun wx => wx.cell? ⟨r, 2, none⟩ = some (.slice (some ⟨b, off, none⟩) er.length c) ∧ wx.cell? ⟨b, off + k * 8 + 1, none⟩ = some (S key) ∧ wx.cell? ⟨b, off + k * 8 + 1 + 1, none⟩ = some (.slice ap lp.length kp) ∧ wx.cell? ⟨G, 0, none⟩ = some (S xkey) ∧ wx.cell? ⟨G, 1, none⟩ = some (.slice axp xlp.length kxp))) (by kernel_rfl) ⟨x2, c1, d2, y0, y1⟩ (fun hHeld => ?_)
          (refine tkA 0 ?_ ?_ hHeld ?_; rotate_left; (intro w hSw; (try dsimp only at hSw); go_simp; try with_reducible rfl); simp only [Act.put, PT])
          (refine tkA 1 ?_ ?_ hHeld ?_; rotate_left; (intro w hSw; (try dsimp only at hSw); go_simp; try with_reducible rfl); simp only [Act.put, PT])
          (refine tkA 2 ?_ ?_ hHeld ?_; rotate_left; (intro w hSw; (try dsimp only at hSw); go_simp; try with_reducible rfl); simp only [Act.put, PT])
          (refine tkA 3 ?_ ?_ hHeld ?_; rotate_left; (intro w hSw; (try dsimp only at hSw); go_simp; try with_reducible rfl); simp only [Act.put, PT])
          (refine tkA 4 ?_ ?_ hHeld ?_; rotate_left; (intro w hSw; (try dsimp only at hSw); go_simp; try with_reducible rfl); simp only [Act.put, PT])
          (refine tkA 5 ?_ ?_ hHeld ?_; rotate_left; (intro w hSw; (try dsimp only at hSw); go_simp; try with_reducible rfl); simp only [Act.put, PT])
          (refine tkA 6 ?_ ?_ hHeld ?_; rotate_left; (intro w hSw; (try dsimp only at hSw); go_simp; try with_reducible rfl); simp only [Act.put, PT])
          (refine tkA 7 ?_ ?_ hHeld ?_; rotate_left; (intro w hSw; (try dsimp only at hSw); go_simp; try with_reducible rfl); simp only [Act.put, PT])
          (refine tkA 8 ?_ ?_ hHeld ?_; rotate_left; (intro w hSw; (try dsimp only at hSw); go_simp; try with_reducible rfl); simp only [Act.put, PT])
          (refine tkA 9 ?_ ?_ hHeld ?_; rotate_left; (intro w hSw; (try dsimp only at hSw); go_simp; try with_reducible rfl); simp only [Act.put, PT])
          (refine tkA 10 ?_ ?_ hHeld ?_; rotate_left; (intro w hSw; (try dsimp only at hSw); go_simp; try with_reducible rfl); simp only [Act.put, PT])
          (refine tkA 11 ?_ ?_ hHeld ?_; rotate_left; (intro w hSw; (try dsimp only at hSw); go_simp; try with_reducible rfl); simp only [Act.put, PT])
          (refine tkA 12 ?_ ?_ hHeld ?_; rotate_left; (intro w hSw; (try dsimp only at hSw); go_simp; try with_reducible rfl); simp only [Act.put, PT])
          (refine tkA 13 ?_ ?_ hHeld ?_; rotate_left; (intro w hSw; (try dsimp only at hSw); go_simp; try with_reducible rfl); simp only [Act.put, PT])
          (refine tkA 14 ?_ ?_ hHeld ?_; rotate_left; (intro w hSw; (try dsimp only at hSw); go_simp; try with_reducible rfl); simp only [Act.put, PT])
          (refine tkA 15 ?_ ?_ hHeld ?_; rotate_left; (intro w hSw; (try dsimp only at hSw); go_simp; try with_reducible rfl); simp only [Act.put, PT])
          (refine tkA 16 ?_ ?_ hHeld ?_; rotate_left; (intro w hSw; (try dsimp only at hSw); go_simp; try with_reducible rfl); simp only [Act.put, PT])
          (refine tkA 17 ?_ ?_ hHeld ?_; rotate_left; (intro w hSw; (try dsimp only at hSw); go_simp; try with_reducible rfl); simp only [Act.put, PT])
          (refine tkA 18 ?_ ?_ hHeld ?_; rotate_left; (intro w hSw; (try dsimp only at hSw); go_simp; try with_reducible rfl); simp only [Act.put, PT])
          (refine tkA 19 ?_ ?_ hHeld ?_; rotate_left; (intro w hSw; (try dsimp only at hSw); go_simp; try with_reducible rfl); simp only [Act.put, PT])
          (refine tkA 20 ?_ ?_ hHeld ?_; rotate_left; (intro w hSw; (try dsimp only at hSw); go_simp; try with_reducible rfl); simp only [Act.put, PT])
          (refine tkA 21 ?_ ?_ hHeld ?_; rotate_left; (intro w hSw; (try dsimp only at hSw); go_simp; try with_reducible rfl); simp only [Act.put, PT])
          (refine tkA 22 ?_ ?_ hHeld ?_; rotate_left; (intro w hSw; (try dsimp only at hSw); go_simp; try with_reducible rfl); simp only [Act.put, PT])
          (refine tkA 23 ?_ ?_ hHeld ?_; rotate_left; (intro w hSw; (try dsimp only at hSw); go_simp; try with_reducible rfl); simp only [Act.put, PT])
          refine wpAnyH_ready (rs := [24]) (by kernel_rfl) (by simp) ?_
          refine AllReadyH.cons (by rfl) (fun K hK => ?_) AllReadyH.nil
          go_simp
          (with_reducible refine hPS.mono ?_); rintro e wk ⟨rfl, hbk⟩; replace hbk := Bl.undrew hbk
          refine hK.out _ _ ⟨(hr.below hbk).blk.cell 2, ((bcell hbk).1 b (off + k * 8 + 1) hbb).trans c1, ((bcell hbk).1 b (off + k * 8 + 1 + 1) hbb).trans d2, (hQr.on hbk).cell 0, (hQr.on hbk).cell 1⟩ (fun hHeld => ?_)
          clear hK K
          try simp only [Act.put, PT]
          (refine tkA 25 ?_ ?_ hHeld ?_; rotate_left; (intro w hSw; (try dsimp only at hSw); go_simp; try with_reducible rfl); simp only [Act.put, PT])
          (refine tkA 26 ?_ ?_ hHeld ?_; rotate_left; (intro w hSw; (try dsimp only at hSw); go_simp; try with_reducible rfl); simp only [Act.put, PT])
          try simp only [Act.put, PT]
          refine wpAnyH_done (by kernel_rfl) ?_ _
          have hW0' : W0 ≤ wr.heap.size := hW0
          have hW0'' : W0 ≤ W0 := Nat.le_refl _
          clear hPS hr1 hr2 x2 y0 y1
          have hrk := hr.below hbk
          have x2 : wk.cell? ⟨r, 2, none⟩ = some (.slice (some ⟨b, off, none⟩) er.length c) := hrk.blk.cell 2
          replace c0 := ((bcell hbk).1 b (off + k * 8) hbb).trans c0
          replace c1 := ((bcell hbk).1 b (off + k * 8 + 1) hbb).trans c1
          replace c2 := ((bcell hbk).1 b (off + k * 8 + 2) hbb).trans c2
          replace c3 := ((bcell hbk).1 b (off + k * 8 + 3) hbb).trans c3
          replace c4 := ((bcell hbk).1 b (off + k * 8 + 4) hbb).trans c4
          replace c5 := ((bcell hbk).1 b (off + k * 8 + 5) hbb).trans c5
          replace c6 := ((bcell hbk).1 b (off + k * 8 + 6) hbb).trans c6
          replace c7 := ((bcell hbk).1 b (off + k * 8 + 7) hbb).trans c7
          have d2 : wk.cell? ⟨b, off + k * 8 + 1 + 1, none⟩ = some (.slice ap lp.length kp) := c2
          have d3 : wk.cell? ⟨b, off + k * 8 + 1 + 2, none⟩ = some (.int .i64 st) := c3
          have d4 : wk.cell? ⟨b, off + k * 8 + 1 + 3, none⟩ = some (.slice af lf.length kf) := c4
          have d5 : wk.cell? ⟨b, off + k * 8 + 1 + 4, none⟩ = some (S body) := c5
          have d6 : wk.cell? ⟨b, off + k * 8 + 1 + 5, none⟩ = some (.int .i64 asked) := c6
          have d7 : wk.cell? ⟨b, off + k * 8 + 1 + 6, none⟩ = some (.int .i64 came) := c7
          have hownk := own_below hown hbk
          have hN : N ≤ 16384 := Nat.le_trans hNk (Nat.le_trans hk hlen)
          have hlpk := hlp.below hbk hBr
          have hlfk := hlf.below hbk hBr
          have hW0k : W0 ≤ wk.heap.size := Nat.le_trans hW0 hbk.size
          go_wp2_with (at_builtin; refine wpList_appRd rfl _ _ 68 rfl W0 105 (.agg Itz) 8 112 Tryz.underlying68 (by kernel_rfl) rfl (by decide) _ _ _ rfl (by exact hownk.alloc _) _ _ _ _ rfl (by exact Rd.lit wk 105 #[.int .i64 eid, S key, .slice ap lp.length kp, .int .i64 st, .slice af lf.length kf, S body, .int .i64 asked, .int .i64 came] 8 1 rfl (by decide)) (EvFs.one (e := ⟨.slice ap lp.length kp, .slice af lf.length kf, ⟨eid, key, lp, st, lf, body, asked, came⟩⟩) ⟨hlpk, hlfk⟩) (by unfold maxLen; omega) (by omega) (by simp; omega) ?_; intro a2 c2' w2 hown2 hb2)
          go_roundw
          case rel => exact ⟨k + 1, N + 1, by go_num, by omega, by omega, by rw [HFK.out, List.length_append, HN.out]; rfl, by
            rw [HFK.out, icells_append]
            exact hown2, (hbr.trans ((hbk.mono hW0').alloc hW0k _)).trans (hb2.mono hW0'')⟩
          case measure => (first | (simp [intOf]; done) | (simp [intOf]; omega))
      · have hr1 : (key != xkey) = true := by simp [hkey]
        have hr2 : (key == xkey) = false := by simp [hkey]
        have HFK : Hid ((er.take (k + 1)).filter (fun e => !alikeE xkey xlp e) = (er.take k).filter (fun e => !alikeE xkey xlp e) ++ [⟨.slice ap lp.length kp, .slice af lf.length kf, ⟨eid, key, lp, st, lf, body, asked, came⟩⟩]) := by
          show _ = _
          rw [HSN.out, ← HE.out, List.filter_cons]
          simp [alikeE, hr2]
        clear HSN HE hkey
        obtain ⟨wk, ek⟩ : ∃ wk : World, wk = wr.drew := ⟨_, rfl⟩
        have hbk : Below wr.heap.size wr wk := by rw [ek]; exact (Below.refl _ _).drew
        go_wp2_with fail
        refine wp_region_held_drew (S := (fun wx => wx.cell? ⟨r, 2, none⟩ = some (.slice (some ⟨b, off, none⟩) er.length c) ∧ wx.cell? ⟨b, off + k * 8 + 1, none⟩ = some (S key) ∧ wx.cell? ⟨b, off + k * 8 + 1 + 1, none⟩ = some (.slice ap lp.length kp) ∧ wx.cell? ⟨G, 0, none⟩ = some (S xkey) ∧ wx.cell? ⟨G, 1, none⟩ = some (.slice axp xlp.length kxp))) (by kernel_rfl) ⟨x2, c1, d2, y0, y1⟩ (fun hHeld => ?_)
        (refine tkA 0 ?_ ?_ hHeld ?_; rotate_left; (intro w hSw; (try dsimp only at hSw); go_simp; try with_reducible rfl); simp only [Act.put, PT])
        (refine tkA 1 ?_ ?_ hHeld ?_; rotate_left; (intro w hSw; (try dsimp only at hSw); go_simp; try with_reducible rfl); simp only [Act.put, PT])
        (refine tkA 2 ?_ ?_ hHeld ?_; rotate_left; (intro w hSw; (try dsimp only at hSw); go_simp; try with_reducible rfl); simp only [Act.put, PT])
        (refine tkA 3 ?_ ?_ hHeld ?_; rotate_left; (intro w hSw; (try dsimp only at hSw); go_simp; try with_reducible rfl); simp only [Act.put, PT])
        (refine tkA 4 ?_ ?_ hHeld ?_; rotate_left; (intro w hSw; (try dsimp only at hSw); go_simp; try with_reducible rfl); simp only [Act.put, PT])
        (refine tkA 5 ?_ ?_ hHeld ?_; rotate_left; (intro w hSw; (try dsimp only at hSw); go_simp; try with_reducible rfl); simp only [Act.put, PT])
        (refine tkA 6 ?_ ?_ hHeld ?_; rotate_left; (intro w hSw; (try dsimp only at hSw); go_simp; try with_reducible rfl); simp only [Act.put, PT])
        (refine tkA 7 ?_ ?_ hHeld ?_; rotate_left; (intro w hSw; (try dsimp only at hSw); go_simp; try with_reducible rfl); simp only [Act.put, PT])
        (refine tkA 8 ?_ ?_ hHeld ?_; rotate_left; (intro w hSw; (try dsimp only at hSw); go_simp; try with_reducible rfl); simp only [Act.put, PT])
        (refine tkA 9 ?_ ?_ hHeld ?_; rotate_left; (intro w hSw; (try dsimp only at hSw); go_simp; try with_reducible rfl); simp only [Act.put, PT])
        (refine tkA 10 ?_ ?_ hHeld ?_; rotate_left; (intro w hSw; (try dsimp only at hSw); go_simp; try with_reducible rfl); simp only [Act.put, PT])
        (refine tkA 11 ?_ ?_ hHeld ?_; rotate_left; (intro w hSw; (try dsimp only at hSw); go_simp; try with_reducible rfl); simp only [Act.put, PT])
        (refine tkA 12 ?_ ?_ hHeld ?_; rotate_left; (intro w hSw; (try dsimp only at hSw); go_simp; try with_reducible rfl); simp only [Act.put, PT])
        (refine tkB 13 hHeld ?_; simp only [Act.put, PT])
        (refine tkB 14 hHeld ?_; simp only [Act.put, PT])
        (refine tkB 15 hHeld ?_; simp only [Act.put, PT])
        (refine tkB 16 hHeld ?_; simp only [Act.put, PT])
        (refine tkB 17 hHeld ?_; simp only [Act.put, PT])
        (refine tkB 18 hHeld ?_; simp only [Act.put, PT])
        (refine tkB 19 hHeld ?_; simp only [Act.put, PT])
        (refine tkB 20 hHeld ?_; simp only [Act.put, PT])
        (refine tkB 21 hHeld ?_; simp only [Act.put, PT])
        (refine tkB 22 hHeld ?_; simp only [Act.put, PT])
        (refine tkB 23 hHeld ?_; simp only [Act.put, PT])
        (refine tkB 24 hHeld ?_; simp only [Act.put, PT])
        (refine tkB 25 hHeld ?_; simp only [Act.put, PT])
        (refine tkA 26 ?_ ?_ hHeld ?_; rotate_left; (intro w hSw; (try dsimp only at hSw); go_simp; try with_reducible rfl); simp only [Act.put, PT])
        try simp only [Act.put, PT]
        refine wpAnyH_done (by kernel_rfl) ?_ _
        rw [← ek]
        clear ek
        have hW0' : W0 ≤ wr.heap.size := hW0
        have hW0'' : W0 ≤ W0 := Nat.le_refl _
        clear hr1 hr2 x2 y0 y1
        have hrk := hr.below hbk
        have x2 : wk.cell? ⟨r, 2, none⟩ = some (.slice (some ⟨b, off, none⟩) er.length c) := hrk.blk.cell 2
        replace c0 := ((bcell hbk).1 b (off + k * 8) hbb).trans c0
        replace c1 := ((bcell hbk).1 b (off + k * 8 + 1) hbb).trans c1
        replace c2 := ((bcell hbk).1 b (off + k * 8 + 2) hbb).trans c2
        replace c3 := ((bcell hbk).1 b (off + k * 8 + 3) hbb).trans c3
        replace c4 := ((bcell hbk).1 b (off + k * 8 + 4) hbb).trans c4
        replace c5 := ((bcell hbk).1 b (off + k * 8 + 5) hbb).trans c5
        replace c6 := ((bcell hbk).1 b (off + k * 8 + 6) hbb).trans c6
        replace c7 := ((bcell hbk).1 b (off + k * 8 + 7) hbb).trans c7
        have d2 : wk.cell? ⟨b, off + k * 8 + 1 + 1, none⟩ = some (.slice ap lp.length kp) := c2
        have d3 : wk.cell? ⟨b, off + k * 8 + 1 + 2, none⟩ = some (.int .i64 st) := c3
        have d4 : wk.cell? ⟨b, off + k * 8 + 1 + 3, none⟩ = some (.slice af lf.length kf) := c4
        have d5 : wk.cell? ⟨b, off + k * 8 + 1 + 4, none⟩ = some (S body) := c5
        have d6 : wk.cell? ⟨b, off + k * 8 + 1 + 5, none⟩ = some (.int .i64 asked) := c6
        have d7 : wk.cell? ⟨b, off + k * 8 + 1 + 6, none⟩ = some (.int .i64 came) := c7
        have hownk := own_below hown hbk
        have hN : N ≤ 16384 := Nat.le_trans hNk (Nat.le_trans hk hlen)
        have hlpk := hlp.below hbk hBr
        have hlfk := hlf.below hbk hBr
        have hW0k : W0 ≤ wk.heap.size := Nat.le_trans hW0 hbk.size
        go_wp2_with (at_builtin; refine wpList_appRd rfl _ _ 68 rfl W0 105 (.agg Itz) 8 112 Tryz.underlying68 (by kernel_rfl) rfl (by decide) _ _ _ rfl (by exact hownk.alloc _) _ _ _ _ rfl (by exact Rd.lit wk 105 #[.int .i64 eid, S key, .slice ap lp.length kp, .int .i64 st, .slice af lf.length kf, S body, .int .i64 asked, .int .i64 came] 8 1 rfl (by decide)) (EvFs.one (e := ⟨.slice ap lp.length kp, .slice af lf.length kf, ⟨eid, key, lp, st, lf, body, asked, came⟩⟩) ⟨hlpk, hlfk⟩) (by unfold maxLen; omega) (by omega) (by simp; omega) ?_; intro a2 c2' w2 hown2 hb2)
        go_roundw
        case rel => exact ⟨k + 1, N + 1, by go_num, by omega, by omega, by rw [HFK.out, List.length_append, HN.out]; rfl, by
          rw [HFK.out, icells_append]
          exact hown2, (hbr.trans ((hbk.mono hW0').alloc hW0k _)).trans (hb2.mono hW0'')⟩
        case measure => (first | (simp [intOf]; done) | (simp [intOf]; omega))
    · obtain rfl : k = er.length := by omega
      rw [List.take_length] at hown HN
      have HNo := HN.out
      have z2 : wr.cell? ⟨r, 2, none⟩ = some (.slice a er.length c) := x2
      have f2 := hr.blk.free 2
      have eel := HEL.out
      rw [← eel] at hown HNo
      have hrow : wr.ownsRow B 105 8 (.slice al N cl) el.length (icells el) := by
        rw [← HNo]
        exact own_base hown hWB
      have hr5 := hr.row_set hrow (fun e he => hr.lists e (by rw [eel] at he; exact (List.mem_filter.1 he).1)) (by
        have h1 := hr.room
        have h2 := costs_filterE (fun e => !alikeE xkey xlp e) er
        rw [← eel] at h2
        omega)
      obtain ⟨w5, e5⟩ : ∃ w5 : World, w5 = wr.setCell ⟨r, 2, none⟩ (.slice al N cl) := ⟨_, rfl⟩
      have hb5 : But (fun k => k = r) wr w5 := by rw [e5]; exact (But.refl (fun k => k = r) _).setCell (p := ⟨r, 2, none⟩) (.inl rfl) _
      rw [← e5] at hr5
      have hQ5 := hQr.but hb5 (by omega)
      have hpd := (hp0.below hbw0 (Nat.le_of_lt h0.at)).but_r hr.blk h.lo hb5 (by decide)
      have hfd := (hf0.below hbw0 (Nat.le_of_lt h0.at)).but_r hr.blk h.lo hb5 (by decide)
      have hLY := HLY.out w5.drew _ el hr5.drew hpd.drew hfd.drew
      have x1 : w5.cell? ⟨r, 1, none⟩ = some (.int .i64 last) := hr5.blk.cell 1
      (have y0 : w5.cell? ⟨G, 0, none⟩ = some (S xkey) := hQ5.cell 0; have y1 : w5.cell? ⟨G, 1, none⟩ = some (.slice axp xlp.length kxp) := hQ5.cell 1; have y2 : w5.cell? ⟨G, 2, none⟩ = some (.int .i64 xst) := hQ5.cell 2; have y3 : w5.cell? ⟨G, 3, none⟩ = some (.slice axf xlf.length kxf) := hQ5.cell 3; have y4 : w5.cell? ⟨G, 4, none⟩ = some (S xbody) := hQ5.cell 4; have y5 : w5.cell? ⟨G, 5, none⟩ = some (.int .i64 xa) := hQ5.cell 5; have y6 : w5.cell? ⟨G, 6, none⟩ = some (.int .i64 xc) := hQ5.cell 6)
      have hbt5 : But (fun k => k = r) w w5 := ((But.of_below hb0).trans (But.of_below hbw0)).trans hb5
      have hgr : ¬ G = r := by omega
      clear HN HNo eel hrow hown
      go_upto_region 8 with fail
      rw [← e5]
      clear e5
      refine wp_region_held_drew (S := (fun wx => wx.cell? ⟨G, 0, none⟩ = some (S xkey) ∧ wx.cell? ⟨G, 1, none⟩ = some (.slice axp xlp.length kxp) ∧ wx.cell? ⟨G, 2, none⟩ = some (.int .i64 xst) ∧ wx.cell? ⟨G, 3, none⟩ = some (.slice axf xlf.length kxf) ∧ wx.cell? ⟨G, 4, none⟩ = some (S xbody) ∧ wx.cell? ⟨G, 5, none⟩ = some (.int .i64 xa) ∧ wx.cell? ⟨G, 6, none⟩ = some (.int .i64 xc) ∧ wx.cell? ⟨r, 1, none⟩ = some (.int .i64 last))) (by kernel_rfl) ⟨y0, y1, y2, y3, y4, y5, y6, x1⟩ (fun hHeld => ?_)
      (refine tkA 0 ?_ ?_ hHeld ?_; rotate_left; (intro w hSw; (try dsimp only at hSw); go_simp; try with_reducible rfl); simp only [Act.put, PT])
      (refine tkA 1 ?_ ?_ hHeld ?_; rotate_left; (intro w hSw; (try dsimp only at hSw); go_simp; try with_reducible rfl); simp only [Act.put, PT])
      (refine tkA 2 ?_ ?_ hHeld ?_; rotate_left; (intro w hSw; (try dsimp only at hSw); go_simp; try with_reducible rfl); simp only [Act.put, PT])
      (refine tkA 3 ?_ ?_ hHeld ?_; rotate_left; (intro w hSw; (try dsimp only at hSw); go_simp; try with_reducible rfl); simp only [Act.put, PT])
      (refine tkA 4 ?_ ?_ hHeld ?_; rotate_left; (intro w hSw; (try dsimp only at hSw); go_simp; try with_reducible rfl); simp only [Act.put, PT])
      (refine tkA 5 ?_ ?_ hHeld ?_; rotate_left; (intro w hSw; (try dsimp only at hSw); go_simp; try with_reducible rfl); simp only [Act.put, PT])
      (refine tkA 6 ?_ ?_ hHeld ?_; rotate_left; (intro w hSw; (try dsimp only at hSw); go_simp; try with_reducible rfl); simp only [Act.put, PT])
      refine wpAnyH_ready (rs := [7]) (by kernel_rfl) (by simp) ?_
      refine AllReadyH.cons (by rfl) (fun K hK => ?_) AllReadyH.nil
      go_simp
      (with_reducible refine hLY.mono ?_); rintro e w6 ⟨rfl, ⟨v6, hr6⟩, hb6⟩; replace hb6 := But.undrew hb6; have hQ6 := hQ5.but hb6 hgr; have x1 : w6.cell? ⟨r, 1, none⟩ = some (.int .i64 last) := hr6.blk.cell 1; have y0 : w6.cell? ⟨G, 0, none⟩ = some (S xkey) := hQ6.cell 0; have y1 : w6.cell? ⟨G, 1, none⟩ = some (.slice axp xlp.length kxp) := hQ6.cell 1; have y2 : w6.cell? ⟨G, 2, none⟩ = some (.int .i64 xst) := hQ6.cell 2; have y3 : w6.cell? ⟨G, 3, none⟩ = some (.slice axf xlf.length kxf) := hQ6.cell 3; have y4 : w6.cell? ⟨G, 4, none⟩ = some (S xbody) := hQ6.cell 4; have y5 : w6.cell? ⟨G, 5, none⟩ = some (.int .i64 xa) := hQ6.cell 5; have y6 : w6.cell? ⟨G, 6, none⟩ = some (.int .i64 xc) := hQ6.cell 6
      refine hK.out _ _ ⟨y0, y1, y2, y3, y4, y5, y6, x1⟩ (fun hHeld => ?_)
      clear hK K
      try simp only [Act.put, PT]
      (refine tkA 8 ?_ ?_ hHeld ?_; rotate_left; (intro w hSw; (try dsimp only at hSw); go_simp; try with_reducible rfl); simp only [Act.put, PT])
      try simp only [Act.put, PT]
      refine wpAnyH_done (by kernel_rfl) ?_ _
      have g1 := hr6.blk.free 1
      have hr7 := hr6.last_set (last + 1)
      have hb7 : But (fun k => k = r) w (w6.setCell ⟨r, 1, none⟩ (.int .i64 (last + 1))) := (hbt5.trans hb6).setCell (p := ⟨r, 1, none⟩) (.inl rfl) _
      clear hb6 hQ6 hr6
      go_wp2
      go_ret2
      exact ⟨rfl, ⟨_, hr7⟩, hb7⟩

set_option maxRecDepth 100000 in
set_option maxHeartbeats 4000000 in
theorem refPut_long {B r : Nat} {most last : Int} {v : Value} {er : List Ev} (q : En) (lp' lf' : List F) (w : World) (h : Rs B w r most last v er) (hp : Fo 89 B w q.vp lp') (hf : Fo 60 B w q.vf lf') (hk' : q.key.length ≤ 1099511627776) (hb' : q.body.length ≤ 1099511627776) (hl : fsum lp' ≤ 1099511627776) (hl2 : fsum lf' ≤ 1048576) (hla : 0 ≤ last ∧ last ≤ 4611686018427387904) (hc : most < (costF q lp' lf' : Nat)) :
    Calls Tryz.prog 31 #[Ptr r, q.val] w fun e w' => e = .returned (.tuple #[.int .i64 0, .int .i64 2]) ∧ (∃ v', Rs B w' r most last v' (er.filter (fun e => !alikeE q.key lp' e))) ∧ But (fun k => k = r) w w' := by
  obtain ⟨c0', ec0⟩ : ∃ c0', c0' = costF q lp' lf' := ⟨_, rfl⟩
  have HLY := Lib.hid (fun (w1 : World) (v1 : Value) (er1 : List Ev) (h1 : Rs B w1 r most last v1 er1) h2 h3 => refLay_long (last + 1) q lp' lf' w1 h1 h2 h3 hk' hb' hl hl2 hc)
  rw [← ec0] at hc
  clear ec0
  obtain ⟨xkey, vp, xst, vf, xbody, xa, xc⟩ := q
  obtain ⟨axp, kxp, hvp, -⟩ := hp.form
  obtain ⟨axf, kxf, hvf, -⟩ := hf.form
  simp only [En.val] at *
  subst hvp hvf
  obtain ⟨xlp, exl⟩ : ∃ xlp, xlp = lp' := ⟨_, rfl⟩
  obtain ⟨xlf, exf⟩ : ∃ xlf, xlf = lf' := ⟨_, rfl⟩
  subst exl exf
  obtain ⟨a, c, hv⟩ := row_form h.row
  subst hv
  have hlen := h.len
  obtain ⟨w0, ew⟩ : ∃ w0 : World, w0 = w.alloc (.cells #[S xkey, .slice axp xlp.length kxp, .int .i64 xst, .slice axf xlf.length kxf, S xbody, .int .i64 xa, .int .i64 xc] 36) := ⟨_, rfl⟩
  have hb0 : Below w.heap.size w w0 := by rw [ew]; exact (Below.refl _ _).alloc (Nat.le_refl _) _
  obtain ⟨G, eG⟩ : ∃ G, G = w.heap.size := ⟨_, rfl⟩
  have hQ0 : Blk w0 G 36 #[S xkey, .slice axp xlp.length kxp, .int .i64 xst, .slice axf xlf.length kxf, S xbody, .int .i64 xa, .int .i64 xc] := by rw [ew, eG]; exact Blk.new _ _ _
  have HG := Lib.hid eG
  have hGr : r < G := by rw [eG]; exact h.blk.lt
  have h0 := h.below hb0
  have hBw : B ≤ w.heap.size := Nat.le_of_lt h.at
  have hp0 := hp.below hb0 hBw
  have hf0 := hf.below hb0 hBw
  obtain ⟨W0, eW0⟩ : ∃ W0, W0 = w0.heap.size := ⟨_, rfl⟩
  have hW0a : W0 ≤ w0.heap.size := Nat.le_of_eq eW0
  have hW0r : w0.heap.size ≤ W0 := Nat.le_of_eq eW0.symm
  have hwrp : IntKind.i64.wrap (last + 1) = last + 1 := by rw [IntKind.wrap_i64]; omega
  obtain ⟨el, eel0⟩ : ∃ el, el = er.filter (fun e => !alikeE xkey xlp e) := ⟨_, rfl⟩
  rw [← eel0]
  have HEL := Lib.hid eel0
  clear eG eW0 eel0
  go_enter Tryz.func31, Tryz.ntmps31
  go_upto_region 1 with fail
  rw [← HG.out, ← ew]
  clear ew
  go_wp2
  go_loopw [6, 7] (fun lv i wr => ∃ k N : Nat, i = .int .i64 k ∧ k ≤ er.length ∧ N ≤ k ∧ N = ((er.take k).filter (fun e => !alikeE xkey xlp e)).length ∧ wr.ownsRow W0 105 8 lv N (icells ((er.take k).filter (fun e => !alikeE xkey xlp e))) ∧ Below W0 w0 wr) (fun _ i _ => er.length - (intOf i).toNat)
  case atStart => exact ⟨0, 0, rfl, Nat.zero_le _, Nat.le_refl _, rfl, World.ownsRow_nil _ _ _ _, Below.refl _ _⟩
  case round =>
    obtain ⟨k, N, rfl, hk, hNk, hN', hown, hbr⟩ := hrel
    have HN := Lib.hid hN'
    clear hN'
    obtain ⟨al, cl, hvl⟩ := row_form hown
    subst hvl
    have hW0 : W0 ≤ wr.heap.size := Nat.le_trans hW0a hbr.size
    have hbw0 : Below w0.heap.size w0 wr := hbr.mono hW0r
    have hr := h0.below hbw0
    have hBr : B ≤ wr.heap.size := Nat.le_of_lt hr.at
    have hQr : Blk wr G 36 #[S xkey, .slice axp xlp.length kxp, .int .i64 xst, .slice axf xlf.length kxf, S xbody, .int .i64 xa, .int .i64 xc] := hQ0.on hbw0
    have x2 : wr.cell? ⟨r, 2, none⟩ = some (.slice a er.length c) := hr.blk.cell 2
    have hWB : B ≤ W0 := Nat.le_trans (Nat.le_of_lt h0.at) hW0r
    by_cases hlt : k < er.length
    · have hsn : (er.take (k + 1)).filter (fun e => !alikeE xkey xlp e) = (er.take k).filter (fun e => !alikeE xkey xlp e) ++ [er[k]].filter (fun e => !alikeE xkey xlp e) := by
        rw [take_snoc er k hlt, List.filter_append]
      obtain ⟨b, off, rfl, hbb, c0, c1, c2, c3, c4, c5, c6, c7⟩ := it_at (Rd.own hr.row) k hlt
      have hl := hr.lists er[k] (List.getElem_mem hlt)
      have hco := hr.cost (List.getElem_mem hlt)
      obtain ⟨e, ee⟩ : ∃ e, e = er[k] := ⟨_, rfl⟩
      rw [← ee] at c0 c1 c2 c3 c4 c5 c6 c7 hl hco
      have HE := Lib.hid ee
      clear ee
      obtain ⟨vp, vf, ⟨eid, key, lp, st, lf, body, asked, came⟩⟩ := e
      obtain ⟨ap, kp, hvp, -⟩ := hl.1.form
      obtain ⟨af, kf, hvf, -⟩ := hl.2.form
      simp only at c0 c1 c2 c3 c4 c5 c6 c7 hvp hvf
      subst hvp hvf
      have hlp : Fo 89 B wr (.slice ap lp.length kp) lp := hl.1
      have hlf : Fo 60 B wr (.slice af lf.length kf) lf := hl.2
      have hcn : 64 + key.length + body.length + fsum lf + fsum lp ≤ 1048576 := hco
      have d2 : wr.cell? ⟨b, off + k * 8 + 1 + 1, none⟩ = some (.slice ap lp.length kp) := c2
      have d3 : wr.cell? ⟨b, off + k * 8 + 1 + 2, none⟩ = some (.int .i64 st) := c3
      have d4 : wr.cell? ⟨b, off + k * 8 + 1 + 3, none⟩ = some (.slice af lf.length kf) := c4
      have d5 : wr.cell? ⟨b, off + k * 8 + 1 + 4, none⟩ = some (S body) := c5
      have d6 : wr.cell? ⟨b, off + k * 8 + 1 + 5, none⟩ = some (.int .i64 asked) := c6
      have d7 : wr.cell? ⟨b, off + k * 8 + 1 + 6, none⟩ = some (.int .i64 came) := c7
      clear hl hco
      have HSN := Lib.hid hsn
      clear hsn
      have y0 : wr.cell? ⟨G, 0, none⟩ = some (S xkey) := hQr.cell 0
      have y1 : wr.cell? ⟨G, 1, none⟩ = some (.slice axp xlp.length kxp) := hQr.cell 1
      by_cases hkey : key = xkey
      · have hr1 : (key != xkey) = false := by simp [hkey]
        have hr2 : (key == xkey) = true := by simp [hkey]
        have hPS := PSame_any lp xlp (.slice ap lp.length kp) (.slice axp xlp.length kxp) wr.drew (show Fs wr.drew.heap.size wr.drew (.slice ap lp.length kp) lp from hlp.fs hBr) (show Fs wr.drew.heap.size wr.drew (.slice axp xlp.length kxp) xlp from (hp0.below hbw0 (Nat.le_of_lt h0.at)).fs hBr)
        obtain ⟨cc, ec⟩ : ∃ cc, cc = (lp == xlp) := ⟨_, rfl⟩
        rw [← ec] at hPS
        have hal : alikeE xkey xlp ⟨.slice ap lp.length kp, .slice af lf.length kf, ⟨eid, key, lp, st, lf, body, asked, came⟩⟩ = cc := by
          unfold alikeE
          show ((key == xkey) && (lp == xlp)) = cc
          rw [hr2, ec]
          rfl
        have HAL := Lib.hid hal
        clear hkey ec hal
        cases cc with
        | true =>
          have HFK : Hid ((er.take (k + 1)).filter (fun e => !alikeE xkey xlp e) = (er.take k).filter (fun e => !alikeE xkey xlp e)) := by
            show _ = _
            rw [HSN.out, ← HE.out, List.filter_cons, HAL.out]
            simp
          clear HSN HE HAL
          go_wp2_with fail
          refine wp_region_held_drew (S := (fun wx => wx.cell? ⟨r, 2, none⟩ = some (.slice (some ⟨b, off, none⟩) er.length c) ∧ wx.cell? ⟨b, off + k * 8 + 1, none⟩ = some (S key) ∧ wx.cell? ⟨b, off + k * 8 + 1 + 1, none⟩ = some (.slice ap lp.length kp) ∧ wx.cell? ⟨G, 0, none⟩ = some (S xkey) ∧ wx.cell? ⟨G, 1, none⟩ = some (.slice axp xlp.length kxp))) (by kernel_rfl) ⟨x2, c1, d2, y0, y1⟩ (fun hHeld => ?_)
          (refine tkA 0 ?_ ?_ hHeld ?_; rotate_left; (intro w hSw; (try dsimp only at hSw); go_simp; try with_reducible rfl); simp only [Act.put, PT])
          (refine tkA 1 ?_ ?_ hHeld ?_; rotate_left; (intro w hSw; (try dsimp only at hSw); go_simp; try with_reducible rfl); simp only [Act.put, PT])
          (refine tkA 2 ?_ ?_ hHeld ?_; rotate_left; (intro w hSw; (try dsimp only at hSw); go_simp; try with_reducible rfl); simp only [Act.put, PT])
          (refine tkA 3 ?_ ?_ hHeld ?_; rotate_left; (intro w hSw; (try dsimp only at hSw); go_simp; try with_reducible rfl); simp only [Act.put, PT])
          (refine tkA 4 ?_ ?_ hHeld ?_; rotate_left; (intro w hSw; (try dsimp only at hSw); go_simp; try with_reducible rfl); simp only [Act.put, PT])
          (refine tkA 5 ?_ ?_ hHeld ?_; rotate_left; (intro w hSw; (try dsimp only at hSw); go_simp; try with_reducible rfl); simp only [Act.put, PT])
          (refine tkA 6 ?_ ?_ hHeld ?_; rotate_left; (intro w hSw; (try dsimp only at hSw); go_simp; try with_reducible rfl); simp only [Act.put, PT])
          (refine tkA 7 ?_ ?_ hHeld ?_; rotate_left; (intro w hSw; (try dsimp only at hSw); go_simp; try with_reducible rfl); simp only [Act.put, PT])
          (refine tkA 8 ?_ ?_ hHeld ?_; rotate_left; (intro w hSw; (try dsimp only at hSw); go_simp; try with_reducible rfl); simp only [Act.put, PT])
          (refine tkA 9 ?_ ?_ hHeld ?_; rotate_left; (intro w hSw; (try dsimp only at hSw); go_simp; try with_reducible rfl); simp only [Act.put, PT])
          (refine tkA 10 ?_ ?_ hHeld ?_; rotate_left; (intro w hSw; (try dsimp only at hSw); go_simp; try with_reducible rfl); simp only [Act.put, PT])
          (refine tkA 11 ?_ ?_ hHeld ?_; rotate_left; (intro w hSw; (try dsimp only at hSw); go_simp; try with_reducible rfl); simp only [Act.put, PT])
          (refine tkA 12 ?_ ?_ hHeld ?_; rotate_left; (intro w hSw; (try dsimp only at hSw); go_simp; try with_reducible rfl); simp only [Act.put, PT])
          (refine tkA 13 ?_ ?_ hHeld ?_; rotate_left; (intro w hSw; (try dsimp only at hSw); go_simp; try with_reducible rfl); simp only [Act.put, PT])
          (refine tkA 14 ?_ ?_ hHeld ?_; rotate_left; (intro w hSw; (try dsimp only at hSw); go_simp; try with_reducible rfl); simp only [Act.put, PT])
          (refine tkA 15 ?_ ?_ hHeld ?_; rotate_left; (intro w hSw; (try dsimp only at hSw); go_simp; try with_reducible rfl); simp only [Act.put, PT])
          (refine tkA 16 ?_ ?_ hHeld ?_; rotate_left; (intro w hSw; (try dsimp only at hSw); go_simp; try with_reducible rfl); simp only [Act.put, PT])
          (refine tkA 17 ?_ ?_ hHeld ?_; rotate_left; (intro w hSw; (try dsimp only at hSw); go_simp; try with_reducible rfl); simp only [Act.put, PT])
          (refine tkA 18 ?_ ?_ hHeld ?_; rotate_left; (intro w hSw; (try dsimp only at hSw); go_simp; try with_reducible rfl); simp only [Act.put, PT])
          (refine tkA 19 ?_ ?_ hHeld ?_; rotate_left; (intro w hSw; (try dsimp only at hSw); go_simp; try with_reducible rfl); simp only [Act.put, PT])
          (refine tkA 20 ?_ ?_ hHeld ?_; rotate_left; (intro w hSw; (try dsimp only at hSw); go_simp; try with_reducible rfl); simp only [Act.put, PT])
          (refine tkA 21 ?_ ?_ hHeld ?_; rotate_left; (intro w hSw; (try dsimp only at hSw); go_simp; try with_reducible rfl); simp only [Act.put, PT])
          (refine tkA 22 ?_ ?_ hHeld ?_; rotate_left; (intro w hSw; (try dsimp only at hSw); go_simp; try with_reducible rfl); simp only [Act.put, PT])
          (refine tkA 23 ?_ ?_ hHeld ?_; rotate_left; (intro w hSw; (try dsimp only at hSw); go_simp; try with_reducible rfl); simp only [Act.put, PT])
          refine wpAnyH_ready (rs := [24]) (by kernel_rfl) (by simp) ?_
          refine AllReadyH.cons (by rfl) (fun K hK => ?_) AllReadyH.nil
          go_simp
          (with_reducible refine hPS.mono ?_); rintro e wk ⟨rfl, hbk⟩; replace hbk := Bl.undrew hbk
          refine hK.out _ _ ⟨(hr.below hbk).blk.cell 2, ((bcell hbk).1 b (off + k * 8 + 1) hbb).trans c1, ((bcell hbk).1 b (off + k * 8 + 1 + 1) hbb).trans d2, (hQr.on hbk).cell 0, (hQr.on hbk).cell 1⟩ (fun hHeld => ?_)
          clear hK K
          try simp only [Act.put, PT]
          (refine tkA 25 ?_ ?_ hHeld ?_; rotate_left; (intro w hSw; (try dsimp only at hSw); go_simp; try with_reducible rfl); simp only [Act.put, PT])
          (refine tkA 26 ?_ ?_ hHeld ?_; rotate_left; (intro w hSw; (try dsimp only at hSw); go_simp; try with_reducible rfl); simp only [Act.put, PT])
          try simp only [Act.put, PT]
          refine wpAnyH_done (by kernel_rfl) ?_ _
          go_wp2
          go_roundw
          case rel => exact ⟨k + 1, N, by go_num, by omega, by omega, by rw [HFK.out]; exact HN.out, by rw [HFK.out]; exact own_below hown hbk, hbr.trans (hbk.mono hW0)⟩
          case measure => (first | (simp [intOf]; done) | (simp [intOf]; omega))
        | false =>
          have HFK : Hid ((er.take (k + 1)).filter (fun e => !alikeE xkey xlp e) = (er.take k).filter (fun e => !alikeE xkey xlp e) ++ [⟨.slice ap lp.length kp, .slice af lf.length kf, ⟨eid, key, lp, st, lf, body, asked, came⟩⟩]) := by
            show _ = _
            rw [HSN.out, ← HE.out, List.filter_cons, HAL.out]
            simp
          clear HSN HE HAL
          go_wp2_with fail
          refine wp_region_held_drew (S := (fun wx => wx.cell? ⟨r, 2, none⟩ = some (.slice (some ⟨b, off, none⟩) er.length c) ∧ wx.cell? ⟨b, off + k * 8 + 1, none⟩ = some (S key) ∧ wx.cell? ⟨b, off + k * 8 + 1 + 1, none⟩ = some (.slice ap lp.length kp) ∧ wx.cell? ⟨G, 0, none⟩ = some (S xkey) ∧ wx.cell? ⟨G, 1, none⟩ = some (.slice axp xlp.length kxp))) (by kernel_rfl) ⟨x2, c1, d2, y0, y1⟩ (fun hHeld => ?_)
          (refine tkA 0 ?_ ?_ hHeld ?_; rotate_left; (intro w hSw; (try dsimp only at hSw); go_simp; try with_reducible rfl); simp only [Act.put, PT])
          (refine tkA 1 ?_ ?_ hHeld ?_; rotate_left; (intro w hSw; (try dsimp only at hSw); go_simp; try with_reducible rfl); simp only [Act.put, PT])
          (refine tkA 2 ?_ ?_ hHeld ?_; rotate_left; (intro w hSw; (try dsimp only at hSw); go_simp; try with_reducible rfl); simp only [Act.put, PT])
          (refine tkA 3 ?_ ?_ hHeld ?_; rotate_left; (intro w hSw; (try dsimp only at hSw); go_simp; try with_reducible rfl); simp only [Act.put, PT])
          (refine tkA 4 ?_ ?_ hHeld ?_; rotate_left; (intro w hSw; (try dsimp only at hSw); go_simp; try with_reducible rfl); simp only [Act.put, PT])
          (refine tkA 5 ?_ ?_ hHeld ?_; rotate_left; (intro w hSw; (try dsimp only at hSw); go_simp; try with_reducible rfl); simp only [Act.put, PT])
          (refine tkA 6 ?_ ?_ hHeld ?_; rotate_left; (intro w hSw; (try dsimp only at hSw); go_simp; try with_reducible rfl); simp only [Act.put, PT])
          (refine tkA 7 ?_ ?_ hHeld ?_; rotate_left; (intro w hSw; (try dsimp only at hSw); go_simp; try with_reducible rfl); simp only [Act.put, PT])
          (refine tkA 8 ?_ ?_ hHeld ?_; rotate_left; (intro w hSw; (try dsimp only at hSw); go_simp; try with_reducible rfl); simp only [Act.put, PT])
          (refine tkA 9 ?_ ?_ hHeld ?_; rotate_left; (intro w hSw; (try dsimp only at hSw); go_simp; try with_reducible rfl); simp only [Act.put, PT])
          (refine tkA 10 ?_ ?_ hHeld ?_; rotate_left; (intro w hSw; (try dsimp only at hSw); go_simp; try with_reducible rfl); simp only [Act.put, PT])
          (refine tkA 11 ?_ ?_ hHeld ?_; rotate_left; (intro w hSw; (try dsimp only at hSw); go_simp; try with_reducible rfl); simp only [Act.put, PT])
          (refine tkA 12 ?_ ?_ hHeld ?_; rotate_left; (intro w hSw; (try dsimp only at hSw); go_simp; try with_reducible rfl); simp only [Act.put, PT])
          (refine tkA 13 ?_ ?_ hHeld ?_; rotate_left; (intro w hSw; (try dsimp only at hSw); go_simp; try with_reducible rfl); simp only [Act.put, PT])
          (refine tkA 14 ?_ ?_ hHeld ?_; rotate_left; (intro w hSw; (try dsimp only at hSw); go_simp; try with_reducible rfl); simp only [Act.put, PT])
          (refine tkA 15 ?_ ?_ hHeld ?_; rotate_left; (intro w hSw; (try dsimp only at hSw); go_simp; try with_reducible rfl); simp only [Act.put, PT])
          (refine tkA 16 ?_ ?_ hHeld ?_; rotate_left; (intro w hSw; (try dsimp only at hSw); go_simp; try with_reducible rfl); simp only [Act.put, PT])
          (refine tkA 17 ?_ ?_ hHeld ?_; rotate_left; (intro w hSw; (try dsimp only at hSw); go_simp; try with_reducible rfl); simp only [Act.put, PT])
          (refine tkA 18 ?_ ?_ hHeld ?_; rotate_left; (intro w hSw; (try dsimp only at hSw); go_simp; try with_reducible rfl); simp only [Act.put, PT])
          (refine tkA 19 ?_ ?_ hHeld ?_; rotate_left; (intro w hSw; (try dsimp only at hSw); go_simp; try with_reducible rfl); simp only [Act.put, PT])
          (refine tkA 20 ?_ ?_ hHeld ?_; rotate_left; (intro w hSw; (try dsimp only at hSw); go_simp; try with_reducible rfl); simp only [Act.put, PT])
          (refine tkA 21 ?_ ?_ hHeld ?_; rotate_left; (intro w hSw; (try dsimp only at hSw); go_simp; try with_reducible rfl); simp only [Act.put, PT])
          (refine tkA 22 ?_ ?_ hHeld ?_; rotate_left; (intro w hSw; (try dsimp only at hSw); go_simp; try with_reducible rfl); simp only [Act.put, PT])
          (refine tkA 23 ?_ ?_ hHeld ?_; rotate_left; (intro w hSw; (try dsimp only at hSw); go_simp; try with_reducible rfl); simp only [Act.put, PT])
          refine wpAnyH_ready (rs := [24]) (by kernel_rfl) (by simp) ?_
          refine AllReadyH.cons (by rfl) (fun K hK => ?_) AllReadyH.nil
          go_simp
          (with_reducible refine hPS.mono ?_); rintro e wk ⟨rfl, hbk⟩; replace hbk := Bl.undrew hbk
          refine hK.out _ _ ⟨(hr.below hbk).blk.cell 2, ((bcell hbk).1 b (off + k * 8 + 1) hbb).trans c1, ((bcell hbk).1 b (off + k * 8 + 1 + 1) hbb).trans d2, (hQr.on hbk).cell 0, (hQr.on hbk).cell 1⟩ (fun hHeld => ?_)
          clear hK K
          try simp only [Act.put, PT]
          (refine tkA 25 ?_ ?_ hHeld ?_; rotate_left; (intro w hSw; (try dsimp only at hSw); go_simp; try with_reducible rfl); simp only [Act.put, PT])
          (refine tkA 26 ?_ ?_ hHeld ?_; rotate_left; (intro w hSw; (try dsimp only at hSw); go_simp; try with_reducible rfl); simp only [Act.put, PT])
          try simp only [Act.put, PT]
          refine wpAnyH_done (by kernel_rfl) ?_ _
          have hW0' : W0 ≤ wr.heap.size := hW0
          have hW0'' : W0 ≤ W0 := Nat.le_refl _
          clear hPS hr1 hr2 x2 y0 y1
          have hrk := hr.below hbk
          have x2 : wk.cell? ⟨r, 2, none⟩ = some (.slice (some ⟨b, off, none⟩) er.length c) := hrk.blk.cell 2
          replace c0 := ((bcell hbk).1 b (off + k * 8) hbb).trans c0
          replace c1 := ((bcell hbk).1 b (off + k * 8 + 1) hbb).trans c1
          replace c2 := ((bcell hbk).1 b (off + k * 8 + 2) hbb).trans c2
          replace c3 := ((bcell hbk).1 b (off + k * 8 + 3) hbb).trans c3
          replace c4 := ((bcell hbk).1 b (off + k * 8 + 4) hbb).trans c4
          replace c5 := ((bcell hbk).1 b (off + k * 8 + 5) hbb).trans c5
          replace c6 := ((bcell hbk).1 b (off + k * 8 + 6) hbb).trans c6
          replace c7 := ((bcell hbk).1 b (off + k * 8 + 7) hbb).trans c7
          have d2 : wk.cell? ⟨b, off + k * 8 + 1 + 1, none⟩ = some (.slice ap lp.length kp) := c2
          have d3 : wk.cell? ⟨b, off + k * 8 + 1 + 2, none⟩ = some (.int .i64 st) := c3
          have d4 : wk.cell? ⟨b, off + k * 8 + 1 + 3, none⟩ = some (.slice af lf.length kf) := c4
          have d5 : wk.cell? ⟨b, off + k * 8 + 1 + 4, none⟩ = some (S body) := c5
          have d6 : wk.cell? ⟨b, off + k * 8 + 1 + 5, none⟩ = some (.int .i64 asked) := c6
          have d7 : wk.cell? ⟨b, off + k * 8 + 1 + 6, none⟩ = some (.int .i64 came) := c7
          have hownk := own_below hown hbk
          have hN : N ≤ 16384 := Nat.le_trans hNk (Nat.le_trans hk hlen)
          have hlpk := hlp.below hbk hBr
          have hlfk := hlf.below hbk hBr
          have hW0k : W0 ≤ wk.heap.size := Nat.le_trans hW0 hbk.size
          go_wp2_with (at_builtin; refine wpList_appRd rfl _ _ 68 rfl W0 105 (.agg Itz) 8 112 Tryz.underlying68 (by kernel_rfl) rfl (by decide) _ _ _ rfl (by exact hownk.alloc _) _ _ _ _ rfl (by exact Rd.lit wk 105 #[.int .i64 eid, S key, .slice ap lp.length kp, .int .i64 st, .slice af lf.length kf, S body, .int .i64 asked, .int .i64 came] 8 1 rfl (by decide)) (EvFs.one (e := ⟨.slice ap lp.length kp, .slice af lf.length kf, ⟨eid, key, lp, st, lf, body, asked, came⟩⟩) ⟨hlpk, hlfk⟩) (by unfold maxLen; omega) (by omega) (by simp; omega) ?_; intro a2 c2' w2 hown2 hb2)
          go_roundw
          case rel => exact ⟨k + 1, N + 1, by go_num, by omega, by omega, by rw [HFK.out, List.length_append, HN.out]; rfl, by
            rw [HFK.out, icells_append]
            exact hown2, (hbr.trans ((hbk.mono hW0').alloc hW0k _)).trans (hb2.mono hW0'')⟩
          case measure => (first | (simp [intOf]; done) | (simp [intOf]; omega))
      · have hr1 : (key != xkey) = true := by simp [hkey]
        have hr2 : (key == xkey) = false := by simp [hkey]
        have HFK : Hid ((er.take (k + 1)).filter (fun e => !alikeE xkey xlp e) = (er.take k).filter (fun e => !alikeE xkey xlp e) ++ [⟨.slice ap lp.length kp, .slice af lf.length kf, ⟨eid, key, lp, st, lf, body, asked, came⟩⟩]) := by
          show _ = _
          rw [HSN.out, ← HE.out, List.filter_cons]
          simp [alikeE, hr2]
        clear HSN HE hkey
        obtain ⟨wk, ek⟩ : ∃ wk : World, wk = wr.drew := ⟨_, rfl⟩
        have hbk : Below wr.heap.size wr wk := by rw [ek]; exact (Below.refl _ _).drew
        go_wp2_with fail
        refine wp_region_held_drew (S := (fun wx => wx.cell? ⟨r, 2, none⟩ = some (.slice (some ⟨b, off, none⟩) er.length c) ∧ wx.cell? ⟨b, off + k * 8 + 1, none⟩ = some (S key) ∧ wx.cell? ⟨b, off + k * 8 + 1 + 1, none⟩ = some (.slice ap lp.length kp) ∧ wx.cell? ⟨G, 0, none⟩ = some (S xkey) ∧ wx.cell? ⟨G, 1, none⟩ = some (.slice axp xlp.length kxp))) (by kernel_rfl) ⟨x2, c1, d2, y0, y1⟩ (fun hHeld => ?_)
        (refine tkA 0 ?_ ?_ hHeld ?_; rotate_left; (intro w hSw; (try dsimp only at hSw); go_simp; try with_reducible rfl); simp only [Act.put, PT])
        (refine tkA 1 ?_ ?_ hHeld ?_; rotate_left; (intro w hSw; (try dsimp only at hSw); go_simp; try with_reducible rfl); simp only [Act.put, PT])
        (refine tkA 2 ?_ ?_ hHeld ?_; rotate_left; (intro w hSw; (try dsimp only at hSw); go_simp; try with_reducible rfl); simp only [Act.put, PT])
        (refine tkA 3 ?_ ?_ hHeld ?_; rotate_left; (intro w hSw; (try dsimp only at hSw); go_simp; try with_reducible rfl); simp only [Act.put, PT])
        (refine tkA 4 ?_ ?_ hHeld ?_; rotate_left; (intro w hSw; (try dsimp only at hSw); go_simp; try with_reducible rfl); simp only [Act.put, PT])
        (refine tkA 5 ?_ ?_ hHeld ?_; rotate_left; (intro w hSw; (try dsimp only at hSw); go_simp; try with_reducible rfl); simp only [Act.put, PT])
        (refine tkA 6 ?_ ?_ hHeld ?_; rotate_left; (intro w hSw; (try dsimp only at hSw); go_simp; try with_reducible rfl); simp only [Act.put, PT])
        (refine tkA 7 ?_ ?_ hHeld ?_; rotate_left; (intro w hSw; (try dsimp only at hSw); go_simp; try with_reducible rfl); simp only [Act.put, PT])
        (refine tkA 8 ?_ ?_ hHeld ?_; rotate_left; (intro w hSw; (try dsimp only at hSw); go_simp; try with_reducible rfl); simp only [Act.put, PT])
        (refine tkA 9 ?_ ?_ hHeld ?_; rotate_left; (intro w hSw; (try dsimp only at hSw); go_simp; try with_reducible rfl); simp only [Act.put, PT])
        (refine tkA 10 ?_ ?_ hHeld ?_; rotate_left; (intro w hSw; (try dsimp only at hSw); go_simp; try with_reducible rfl); simp only [Act.put, PT])
        (refine tkA 11 ?_ ?_ hHeld ?_; rotate_left; (intro w hSw; (try dsimp only at hSw); go_simp; try with_reducible rfl); simp only [Act.put, PT])
        (refine tkA 12 ?_ ?_ hHeld ?_; rotate_left; (intro w hSw; (try dsimp only at hSw); go_simp; try with_reducible rfl); simp only [Act.put, PT])
        (refine tkB 13 hHeld ?_; simp only [Act.put, PT])
        (refine tkB 14 hHeld ?_; simp only [Act.put, PT])
        (refine tkB 15 hHeld ?_; simp only [Act.put, PT])
        (refine tkB 16 hHeld ?_; simp only [Act.put, PT])
        (refine tkB 17 hHeld ?_; simp only [Act.put, PT])
        (refine tkB 18 hHeld ?_; simp only [Act.put, PT])
        (refine tkB 19 hHeld ?_; simp only [Act.put, PT])
        (refine tkB 20 hHeld ?_; simp only [Act.put, PT])
        (refine tkB 21 hHeld ?_; simp only [Act.put, PT])
        (refine tkB 22 hHeld ?_; simp only [Act.put, PT])
        (refine tkB 23 hHeld ?_; simp only [Act.put, PT])
        (refine tkB 24 hHeld ?_; simp only [Act.put, PT])
        (refine tkB 25 hHeld ?_; simp only [Act.put, PT])
        (refine tkA 26 ?_ ?_ hHeld ?_; rotate_left; (intro w hSw; (try dsimp only at hSw); go_simp; try with_reducible rfl); simp only [Act.put, PT])
        try simp only [Act.put, PT]
        refine wpAnyH_done (by kernel_rfl) ?_ _
        rw [← ek]
        clear ek
        have hW0' : W0 ≤ wr.heap.size := hW0
        have hW0'' : W0 ≤ W0 := Nat.le_refl _
        clear hr1 hr2 x2 y0 y1
        have hrk := hr.below hbk
        have x2 : wk.cell? ⟨r, 2, none⟩ = some (.slice (some ⟨b, off, none⟩) er.length c) := hrk.blk.cell 2
        replace c0 := ((bcell hbk).1 b (off + k * 8) hbb).trans c0
        replace c1 := ((bcell hbk).1 b (off + k * 8 + 1) hbb).trans c1
        replace c2 := ((bcell hbk).1 b (off + k * 8 + 2) hbb).trans c2
        replace c3 := ((bcell hbk).1 b (off + k * 8 + 3) hbb).trans c3
        replace c4 := ((bcell hbk).1 b (off + k * 8 + 4) hbb).trans c4
        replace c5 := ((bcell hbk).1 b (off + k * 8 + 5) hbb).trans c5
        replace c6 := ((bcell hbk).1 b (off + k * 8 + 6) hbb).trans c6
        replace c7 := ((bcell hbk).1 b (off + k * 8 + 7) hbb).trans c7
        have d2 : wk.cell? ⟨b, off + k * 8 + 1 + 1, none⟩ = some (.slice ap lp.length kp) := c2
        have d3 : wk.cell? ⟨b, off + k * 8 + 1 + 2, none⟩ = some (.int .i64 st) := c3
        have d4 : wk.cell? ⟨b, off + k * 8 + 1 + 3, none⟩ = some (.slice af lf.length kf) := c4
        have d5 : wk.cell? ⟨b, off + k * 8 + 1 + 4, none⟩ = some (S body) := c5
        have d6 : wk.cell? ⟨b, off + k * 8 + 1 + 5, none⟩ = some (.int .i64 asked) := c6
        have d7 : wk.cell? ⟨b, off + k * 8 + 1 + 6, none⟩ = some (.int .i64 came) := c7
        have hownk := own_below hown hbk
        have hN : N ≤ 16384 := Nat.le_trans hNk (Nat.le_trans hk hlen)
        have hlpk := hlp.below hbk hBr
        have hlfk := hlf.below hbk hBr
        have hW0k : W0 ≤ wk.heap.size := Nat.le_trans hW0 hbk.size
        go_wp2_with (at_builtin; refine wpList_appRd rfl _ _ 68 rfl W0 105 (.agg Itz) 8 112 Tryz.underlying68 (by kernel_rfl) rfl (by decide) _ _ _ rfl (by exact hownk.alloc _) _ _ _ _ rfl (by exact Rd.lit wk 105 #[.int .i64 eid, S key, .slice ap lp.length kp, .int .i64 st, .slice af lf.length kf, S body, .int .i64 asked, .int .i64 came] 8 1 rfl (by decide)) (EvFs.one (e := ⟨.slice ap lp.length kp, .slice af lf.length kf, ⟨eid, key, lp, st, lf, body, asked, came⟩⟩) ⟨hlpk, hlfk⟩) (by unfold maxLen; omega) (by omega) (by simp; omega) ?_; intro a2 c2' w2 hown2 hb2)
        go_roundw
        case rel => exact ⟨k + 1, N + 1, by go_num, by omega, by omega, by rw [HFK.out, List.length_append, HN.out]; rfl, by
          rw [HFK.out, icells_append]
          exact hown2, (hbr.trans ((hbk.mono hW0').alloc hW0k _)).trans (hb2.mono hW0'')⟩
        case measure => (first | (simp [intOf]; done) | (simp [intOf]; omega))
    · obtain rfl : k = er.length := by omega
      rw [List.take_length] at hown HN
      have HNo := HN.out
      have z2 : wr.cell? ⟨r, 2, none⟩ = some (.slice a er.length c) := x2
      have f2 := hr.blk.free 2
      have eel := HEL.out
      rw [← eel] at hown HNo
      have hrow : wr.ownsRow B 105 8 (.slice al N cl) el.length (icells el) := by
        rw [← HNo]
        exact own_base hown hWB
      have hr5 := hr.row_set hrow (fun e he => hr.lists e (by rw [eel] at he; exact (List.mem_filter.1 he).1)) (by
        have h1 := hr.room
        have h2 := costs_filterE (fun e => !alikeE xkey xlp e) er
        rw [← eel] at h2
        omega)
      obtain ⟨w5, e5⟩ : ∃ w5 : World, w5 = wr.setCell ⟨r, 2, none⟩ (.slice al N cl) := ⟨_, rfl⟩
      have hb5 : But (fun k => k = r) wr w5 := by rw [e5]; exact (But.refl (fun k => k = r) _).setCell (p := ⟨r, 2, none⟩) (.inl rfl) _
      rw [← e5] at hr5
      have hQ5 := hQr.but hb5 (by omega)
      have hpd := (hp0.below hbw0 (Nat.le_of_lt h0.at)).but_r hr.blk h.lo hb5 (by decide)
      have hfd := (hf0.below hbw0 (Nat.le_of_lt h0.at)).but_r hr.blk h.lo hb5 (by decide)
      have hLY := HLY.out w5.drew _ el hr5.drew hpd.drew hfd.drew
      have x1 : w5.cell? ⟨r, 1, none⟩ = some (.int .i64 last) := hr5.blk.cell 1
      (have y0 : w5.cell? ⟨G, 0, none⟩ = some (S xkey) := hQ5.cell 0; have y1 : w5.cell? ⟨G, 1, none⟩ = some (.slice axp xlp.length kxp) := hQ5.cell 1; have y2 : w5.cell? ⟨G, 2, none⟩ = some (.int .i64 xst) := hQ5.cell 2; have y3 : w5.cell? ⟨G, 3, none⟩ = some (.slice axf xlf.length kxf) := hQ5.cell 3; have y4 : w5.cell? ⟨G, 4, none⟩ = some (S xbody) := hQ5.cell 4; have y5 : w5.cell? ⟨G, 5, none⟩ = some (.int .i64 xa) := hQ5.cell 5; have y6 : w5.cell? ⟨G, 6, none⟩ = some (.int .i64 xc) := hQ5.cell 6)
      have hbt5 : But (fun k => k = r) w w5 := ((But.of_below hb0).trans (But.of_below hbw0)).trans hb5
      have hgr : ¬ G = r := by omega
      clear HN HNo eel hrow hown
      go_upto_region 8 with fail
      rw [← e5]
      clear e5
      refine wp_region_held_drew (S := (fun wx => wx.cell? ⟨G, 0, none⟩ = some (S xkey) ∧ wx.cell? ⟨G, 1, none⟩ = some (.slice axp xlp.length kxp) ∧ wx.cell? ⟨G, 2, none⟩ = some (.int .i64 xst) ∧ wx.cell? ⟨G, 3, none⟩ = some (.slice axf xlf.length kxf) ∧ wx.cell? ⟨G, 4, none⟩ = some (S xbody) ∧ wx.cell? ⟨G, 5, none⟩ = some (.int .i64 xa) ∧ wx.cell? ⟨G, 6, none⟩ = some (.int .i64 xc) ∧ wx.cell? ⟨r, 1, none⟩ = some (.int .i64 last))) (by kernel_rfl) ⟨y0, y1, y2, y3, y4, y5, y6, x1⟩ (fun hHeld => ?_)
      (refine tkA 0 ?_ ?_ hHeld ?_; rotate_left; (intro w hSw; (try dsimp only at hSw); go_simp; try with_reducible rfl); simp only [Act.put, PT])
      (refine tkA 1 ?_ ?_ hHeld ?_; rotate_left; (intro w hSw; (try dsimp only at hSw); go_simp; try with_reducible rfl); simp only [Act.put, PT])
      (refine tkA 2 ?_ ?_ hHeld ?_; rotate_left; (intro w hSw; (try dsimp only at hSw); go_simp; try with_reducible rfl); simp only [Act.put, PT])
      (refine tkA 3 ?_ ?_ hHeld ?_; rotate_left; (intro w hSw; (try dsimp only at hSw); go_simp; try with_reducible rfl); simp only [Act.put, PT])
      (refine tkA 4 ?_ ?_ hHeld ?_; rotate_left; (intro w hSw; (try dsimp only at hSw); go_simp; try with_reducible rfl); simp only [Act.put, PT])
      (refine tkA 5 ?_ ?_ hHeld ?_; rotate_left; (intro w hSw; (try dsimp only at hSw); go_simp; try with_reducible rfl); simp only [Act.put, PT])
      (refine tkA 6 ?_ ?_ hHeld ?_; rotate_left; (intro w hSw; (try dsimp only at hSw); go_simp; try with_reducible rfl); simp only [Act.put, PT])
      refine wpAnyH_ready (rs := [7]) (by kernel_rfl) (by simp) ?_
      refine AllReadyH.cons (by rfl) (fun K hK => ?_) AllReadyH.nil
      go_simp
      (with_reducible refine hLY.mono ?_); rintro e w6 ⟨rfl, hb6⟩; replace hb6 := Bl.undrew hb6; have hr6 := hr5.below hb6; have hQ6 := hQ5.on hb6; have x1 : w6.cell? ⟨r, 1, none⟩ = some (.int .i64 last) := hr6.blk.cell 1; have y0 : w6.cell? ⟨G, 0, none⟩ = some (S xkey) := hQ6.cell 0; have y1 : w6.cell? ⟨G, 1, none⟩ = some (.slice axp xlp.length kxp) := hQ6.cell 1; have y2 : w6.cell? ⟨G, 2, none⟩ = some (.int .i64 xst) := hQ6.cell 2; have y3 : w6.cell? ⟨G, 3, none⟩ = some (.slice axf xlf.length kxf) := hQ6.cell 3; have y4 : w6.cell? ⟨G, 4, none⟩ = some (S xbody) := hQ6.cell 4; have y5 : w6.cell? ⟨G, 5, none⟩ = some (.int .i64 xa) := hQ6.cell 5; have y6 : w6.cell? ⟨G, 6, none⟩ = some (.int .i64 xc) := hQ6.cell 6
      refine hK.out _ _ ⟨y0, y1, y2, y3, y4, y5, y6, x1⟩ (fun hHeld => ?_)
      clear hK K
      try simp only [Act.put, PT]
      (refine tkA 8 ?_ ?_ hHeld ?_; rotate_left; (intro w hSw; (try dsimp only at hSw); go_simp; try with_reducible rfl); simp only [Act.put, PT])
      try simp only [Act.put, PT]
      refine wpAnyH_done (by kernel_rfl) ?_ _
      have hb7 : But (fun k => k = r) w w6 := hbt5.trans (But.of_below hb6)
      clear hb6 hQ6
      go_wp2
      go_ret2
      exact ⟨rfl, ⟨_, hr6⟩, hb7⟩
end Go.Proofs.YtahapblgmehngaaGreatDoor

