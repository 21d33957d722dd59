
/- The walks of the document's shelf: Forget, Set, Find. Printed by rs4gen.py. -/
import Derived.Test.YtnflihjgbkocnaaDoorRs3
import Derived.Test.YtnflihjgbkocnaaDoorRsp
namespace Go.Proofs.YtnflihjgbkocnaaDoor
open Go.RowKit Go.Dr

set_option linter.unusedSimpArgs false in
set_option linter.unusedVariables false in
set_option linter.unnecessarySimpa false in
theorem filter_less {α : Type} (p : α → Bool) (l : List α) : (l.filter p).length + (l.filter (fun x => !p x)).length = l.length := by
  induction l with
  | nil => rfl
  | cons a l ih => cases h : p a <;> simp [h] <;> omega
set_option linter.unusedSimpArgs false in
set_option linter.unusedVariables false in
set_option linter.unnecessarySimpa false in
set_option maxRecDepth 100000 in
set_option maxHeartbeats 4000000 in
theorem refForget_any {B r : Nat} {most last : Int} {v : Value} {er : List Ev} (fk : Bytes) (w : World) (h : Rs B w r most last v er) :
    Calls Tryd.prog 17 #[Ptr r, S fk] w fun e w' => e = .returned (.int .i64 ((er.filter (fun e => e.x.key == fk)).length : Nat)) ∧ (∃ v', Rs B w' r most last v' (er.filter (fun e => !(e.x.key == fk)))) ∧ But (fun k => k = r) w w' := by
  obtain ⟨a, c, hv⟩ := row_form h.row
  subst hv
  have hlen := h.len
  obtain ⟨W0, eW0⟩ : ∃ W0, W0 = w.heap.size := ⟨_, rfl⟩
  have hW0a : W0 ≤ w.heap.size := Nat.le_of_eq eW0
  have hW0r : w.heap.size ≤ W0 := Nat.le_of_eq eW0.symm
  have hless := filter_less (fun e : Ev => e.x.key == fk) er
  obtain ⟨gone, eg⟩ : ∃ gone, gone = (er.filter (fun e => e.x.key == fk)).length := ⟨_, rfl⟩
  rw [← eg] at hless ⊢
  have HLESS := Lib.hid hless
  obtain ⟨el, eel0⟩ : ∃ el, el = er.filter (fun e => !(e.x.key == fk)) := ⟨_, rfl⟩
  rw [← eel0]
  have HEL := Lib.hid eel0
  clear eW0 eg hless eel0
  go_enter Tryd.func17, Tryd.ntmps17
  go_wp2
  go_loopw [5, 6] (fun lv i wr => ∃ k N : Nat, i = .int .i64 k ∧ k ≤ er.length ∧ N ≤ k ∧ N = ((er.take k).filter (fun e => !(e.x.key == fk))).length ∧ wr.ownsRow W0 67 8 lv N (icells ((er.take k).filter (fun e => !(e.x.key == fk)))) ∧ Below W0 w wr) (fun _ i _ => er.length - (intOf i).toNat)
  case atStart => exact ⟨0, 0, rfl, Nat.zero_le _, Nat.le_refl _, rfl, World.ownsRow_nil _ _ _ _, Below.refl _ _⟩
  case round =>
    obtain ⟨k, N, rfl, hk, hNk, hN', hown, hbr⟩ := hrel
    have HN := Lib.hid hN'
    clear hN'
    obtain ⟨al, cl, hvl⟩ := row_form hown
    subst hvl
    have hW0 : W0 ≤ wr.heap.size := Nat.le_trans hW0a hbr.size
    have hbw0 : Below w.heap.size w wr := hbr.mono hW0r
    have hr := h.below hbw0
    have hBr : B ≤ wr.heap.size := Nat.le_of_lt hr.at
    have x2 : wr.cell? ⟨r, 2, none⟩ = some (.slice a er.length c) := hr.blk.cell 2
    have hWB : B ≤ W0 := Nat.le_trans (Nat.le_of_lt h.at) hW0r
    by_cases hlt : k < er.length
    · have hsn : (er.take (k + 1)).filter (fun e => !(e.x.key == fk)) = (er.take k).filter (fun e => !(e.x.key == fk)) ++ [er[k]].filter (fun e => !(e.x.key == fk)) := by
        rw [take_snoc er k hlt, List.filter_append]
      obtain ⟨b, off, rfl, hbb, c0, c1, c2, c3, c4, c5, c6, c7⟩ := it_at (Rd.own hr.row) k hlt
      have hl := hr.lists er[k] (List.getElem_mem hlt)
      have hco := hr.cost (List.getElem_mem hlt)
      obtain ⟨e, ee⟩ : ∃ e, e = er[k] := ⟨_, rfl⟩
      rw [← ee] at c0 c1 c2 c3 c4 c5 c6 c7 hl hco
      have HE := Lib.hid ee
      clear ee
      obtain ⟨vp, vf, ⟨eid, key, lp, st, lf, body, asked, came⟩⟩ := e
      obtain ⟨ap, kp, hvp, -⟩ := hl.1.form
      obtain ⟨af, kf, hvf, -⟩ := hl.2.form
      simp only at c0 c1 c2 c3 c4 c5 c6 c7 hvp hvf
      subst hvp hvf
      have hlp : Fo 53 B wr (.slice ap lp.length kp) lp := hl.1
      have hlf : Fo 62 B wr (.slice af lf.length kf) lf := hl.2
      have hcn : 64 + key.length + body.length + fsum lf + fsum lp ≤ 1048576 := hco
      have d2 : wr.cell? ⟨b, off + k * 8 + 1 + 1, none⟩ = some (.slice ap lp.length kp) := c2
      have d3 : wr.cell? ⟨b, off + k * 8 + 1 + 2, none⟩ = some (.int .i64 st) := c3
      have d4 : wr.cell? ⟨b, off + k * 8 + 1 + 3, none⟩ = some (.slice af lf.length kf) := c4
      have d5 : wr.cell? ⟨b, off + k * 8 + 1 + 4, none⟩ = some (S body) := c5
      have d6 : wr.cell? ⟨b, off + k * 8 + 1 + 5, none⟩ = some (.int .i64 asked) := c6
      have d7 : wr.cell? ⟨b, off + k * 8 + 1 + 6, none⟩ = some (.int .i64 came) := c7
      clear hl hco
      have HSN := Lib.hid hsn
      clear hsn
      by_cases hkey : key = fk
      · have hr1 : (key != fk) = false := by simp [hkey]
        have hr2 : (key == fk) = true := by simp [hkey]
        have HFK : Hid ((er.take (k + 1)).filter (fun e => !(e.x.key == fk)) = (er.take k).filter (fun e => !(e.x.key == fk))) := by
          show _ = _
          rw [HSN.out, ← HE.out, List.filter_cons]
          simp [hkey]
        clear HSN HE hkey
        go_wp2
        go_roundw
        case rel => exact ⟨k + 1, N, by go_num, by omega, by omega, by rw [HFK.out]; exact HN.out, by rw [HFK.out]; exact hown, hbr⟩
        case measure => (first | (simp [intOf]; done) | (simp [intOf]; omega))
      · have hr1 : (key != fk) = true := by simp [hkey]
        have hr2 : (key == fk) = false := by simp [hkey]
        have HFK : Hid ((er.take (k + 1)).filter (fun e => !(e.x.key == fk)) = (er.take k).filter (fun e => !(e.x.key == fk)) ++ [⟨.slice ap lp.length kp, .slice af lf.length kf, ⟨eid, key, lp, st, lf, body, asked, came⟩⟩]) := by
          show _ = _
          rw [HSN.out, ← HE.out, List.filter_cons]
          simp [hkey]
        clear HSN HE hkey
        have hN : N ≤ 16384 := Nat.le_trans hNk (Nat.le_trans hk hlen)
        have hW0'' : W0 ≤ W0 := Nat.le_refl _
        go_wp2_with (at_builtin; refine wpList_appRd rfl _ _ 30 rfl W0 67 (.agg Itz) 8 112 Tryd.underlying30 (by kernel_rfl) rfl (by decide) _ _ _ rfl (by exact hown.alloc _) _ _ _ _ rfl (by exact Rd.lit wr 67 #[.int .i64 eid, S key, .slice ap lp.length kp, .int .i64 st, .slice af lf.length kf, S body, .int .i64 asked, .int .i64 came] 8 1 rfl (by decide)) (EvFs.one (e := ⟨.slice ap lp.length kp, .slice af lf.length kf, ⟨eid, key, lp, st, lf, body, asked, came⟩⟩) ⟨hlp, hlf⟩) (by unfold maxLen; omega) (by omega) (by simp; omega) ?_; intro a2 c2' w2 hown2 hb2)
        go_roundw
        case rel => exact ⟨k + 1, N + 1, by go_num, by omega, by omega, by rw [HFK.out, List.length_append, HN.out]; rfl, by
          rw [HFK.out, icells_append]
          exact hown2, (hbr.alloc hW0 _).trans (hb2.mono hW0'')⟩
        case measure => (first | (simp [intOf]; done) | (simp [intOf]; omega))
    · obtain rfl : k = er.length := by omega
      rw [List.take_length] at hown HN
      have HNo := HN.out
      have f2 := hr.blk.free 2
      have eel := HEL.out
      have HL2 := HLESS.out
      rw [← eel] at hown HNo HL2
      rw [← HNo] at HL2
      have hrow : wr.ownsRow B 67 8 (.slice al N cl) el.length (icells el) := by
        rw [← HNo]
        exact own_base hown hWB
      have hr5 := hr.row_set hrow (fun e he => hr.lists e (by rw [eel] at he; exact (List.mem_filter.1 he).1)) (by
        have h1 := hr.room
        have h2 := costs_filterE (fun e => !(e.x.key == fk)) er
        rw [← eel] at h2
        omega)
      have hb5 : But (fun k => k = r) w (wr.setCell ⟨r, 2, none⟩ (.slice al N cl)) := (But.of_below (S := fun k => k = r) hbw0).setCell (p := ⟨r, 2, none⟩) (.inl rfl) _
      have hwrp : IntKind.i64.wrap ((er.length : Int) - (N : Int)) = (gone : Int) := by rw [IntWalk.i64_in _ (by omega)]; omega
      clear HN HNo eel hrow hown HLESS HL2
      go_wp2
      go_ret
      exact ⟨rfl, ⟨_, hr5⟩, hb5⟩

set_option linter.unusedSimpArgs false in
set_option linter.unusedVariables false in
set_option linter.unnecessarySimpa false in
theorem costs_out (er : List Ev) (k : Nat) (h : k < er.length) : costs ((er.take k ++ er.drop (k + 1)).map Ev.x) ≤ costs (er.map Ev.x) := by
  conv => rhs; rw [← List.take_append_drop k er, List.drop_eq_getElem_cons h]
  simp only [List.map_append, List.map_cons, costs_append, costs_cons]
  omega
set_option linter.unusedSimpArgs false in
set_option linter.unusedVariables false in
set_option linter.unnecessarySimpa false in
set_option maxRecDepth 100000 in
set_option maxHeartbeats 4000000 in
theorem refSet_any {B r M : Nat} {last : Int} {v : Value} {er : List Ev} (id : Int) (q : En) (lp' lf' : List F) (w : World) (h : Rs B w r (M : Int) last v er) (k : Nat) (hlt : k < er.length) (hno : ∀ e ∈ er.take k, e.x.id ≠ id) (hyes : er[k].x.id = id) (hp : Fo 53 B w q.vp lp') (hf : Fo 62 B w q.vf lf') (hk' : q.key.length ≤ 1099511627776) (hb' : q.body.length ≤ 1099511627776) (hl : fsum lp' ≤ 1099511627776) (hl2 : fsum lf' ≤ 1048576) (hc : costF q lp' lf' ≤ M) :
    Calls Tryd.prog 15 #[Ptr r, .int .i64 id, q.val] w fun e w' => e = .returned (.int .i64 0) ∧ (∃ v', Rs B w' r (M : Int) last v' (roomE (M - costF q lp' lf') (er.take k ++ er.drop (k + 1)) ++ [⟨q.vp, q.vf, It.of id q lp' lf'⟩])) ∧ But (fun k => k = r) w w' := by
  obtain ⟨c0', ec0⟩ : ∃ c0', c0' = costF q lp' lf' := ⟨_, rfl⟩
  have HLY := Lib.hid (fun (w1 : World) (v1 : Value) (er1 : List Ev) (h1 : Rs B w1 r (M : Int) last v1 er1) h2 h3 => refLay_any id q lp' lf' w1 h1 h2 h3 hk' hb' hl hl2 hc)
  rw [← ec0] at hc HLY ⊢
  clear ec0
  obtain ⟨xkey, vp, xst, vf, xbody, xa, xc⟩ := q
  obtain ⟨axp, kxp, hvp, -⟩ := hp.form
  obtain ⟨axf, kxf, hvf, -⟩ := hf.form
  simp only [En.val] at *
  subst hvp hvf
  obtain ⟨xlp, exl⟩ : ∃ xlp, xlp = lp' := ⟨_, rfl⟩
  obtain ⟨xlf, exf⟩ : ∃ xlf, xlf = lf' := ⟨_, rfl⟩
  subst exl exf
  obtain ⟨a, c, hv⟩ := row_form h.row
  subst hv
  have hlen := h.len
  obtain ⟨w0, ew⟩ : ∃ w0 : World, w0 = w.alloc (.cells #[S xkey, .slice axp xlp.length kxp, .int .i64 xst, .slice axf xlf.length kxf, S xbody, .int .i64 xa, .int .i64 xc] 36) := ⟨_, rfl⟩
  have hb0 : Below w.heap.size w w0 := by rw [ew]; exact (Below.refl _ _).alloc (Nat.le_refl _) _
  obtain ⟨G, eG⟩ : ∃ G, G = w.heap.size := ⟨_, rfl⟩
  have hQ0 : Blk w0 G 36 #[S xkey, .slice axp xlp.length kxp, .int .i64 xst, .slice axf xlf.length kxf, S xbody, .int .i64 xa, .int .i64 xc] := by rw [ew, eG]; exact Blk.new _ _ _
  have HG := Lib.hid eG
  have hGr : r < G := by rw [eG]; exact h.blk.lt
  have h0 := h.below hb0
  have hBw : B ≤ w.heap.size := Nat.le_of_lt h.at
  have hp0 := hp.below hb0 hBw
  have hf0 := hf.below hb0 hBw
  have hPl := place_any w0 h0 id k (Nat.le_of_lt hlt) hno (fun _ => hyes)
  rw [if_pos hlt] at hPl
  have hro := costs_out er k hlt
  have hWk := Lib.hid (fun (w1 : World) (h1 : Rs B w1 r (M : Int) last (.slice a er.length c) er) => without_any er _ w1 k B h1.row h1.lists hlt hlen)
  have hmem : Hid (∀ e ∈ er.take k ++ er.drop (k + 1), e ∈ er) := fun e he => by
    rcases List.mem_append.1 he with he | he
    · exact List.mem_of_mem_take he
    · exact List.mem_of_mem_drop he
  obtain ⟨eo, eeo⟩ : ∃ eo, eo = er.take k ++ er.drop (k + 1) := ⟨_, rfl⟩
  rw [← eeo] at hro hWk hmem ⊢
  have t1 : decide ((k : Int) < 0) = false := by simp
  clear eG hno hyes eeo
  go_enter Tryd.func15, Tryd.ntmps15
  go_upto_region 1 with fail
  rw [← HG.out, ← ew]
  clear ew
  go_wp2_with fail
  refine hPl.mono ?_
  rintro e w1 ⟨rfl, hb1⟩
  have hr1 := h0.below hb1
  have hQ1 := hQ0.on hb1
  have hWt := hWk.out w1 hr1
  have x2 : w1.cell? ⟨r, 2, none⟩ = some (.slice a er.length c) := hr1.blk.cell 2
  clear hPl
  go_wp2_with fail
  refine hWt.mono ?_
  rintro e w2 ⟨v2, rfl, ho2, hb2⟩
  obtain ⟨a2, c2, hv2⟩ := row_form ho2
  subst hv2
  have hr2 := hr1.below hb2
  have hQ2 := hQ1.on hb2
  have z2 : w2.cell? ⟨r, 2, none⟩ = some (.slice a er.length c) := hr2.blk.cell 2
  have f2 := hr2.blk.free 2
  have hBw0 : B ≤ w0.heap.size := Nat.le_of_lt h0.at
  have hr3 := hr2.row_set (own_base ho2 (Nat.le_of_lt hr1.at)) (fun e he => hr2.lists e (hmem.out e he)) (by
    have h1 := hr2.room
    omega)
  obtain ⟨w3, e3⟩ : ∃ w3 : World, w3 = w2.setCell ⟨r, 2, none⟩ (.slice a2 eo.length c2) := ⟨_, rfl⟩
  have hb3 : But (fun k => k = r) w2 w3 := by rw [e3]; exact (But.refl (fun k => k = r) _).setCell (p := ⟨r, 2, none⟩) (.inl rfl) _
  rw [← e3] at hr3
  have hQ3 := hQ2.but hb3 (by omega)
  have hw2 : Below w0.heap.size w0 w2 := Bl.tr hb1 hb2
  have hp3 := (hp0.below hw2 hBw0).but_r hr2.blk h.lo hb3 (by decide)
  have hf3 := (hf0.below hw2 hBw0).but_r hr2.blk h.lo hb3 (by decide)
  have hbt3 : But (fun k => k = r) w w3 := ((But.of_below hb0).trans (But.of_below hw2)).trans hb3
  have hLY := HLY.out w3 _ eo hr3 hp3 hf3
  clear hWt hro hWk hmem
  go_upto_region 5 with fail
  rw [← e3]
  clear e3
  (have y0 : w3.cell? ⟨G, 0, none⟩ = some (S xkey) := hQ3.cell 0; have y1 : w3.cell? ⟨G, 1, none⟩ = some (.slice axp xlp.length kxp) := hQ3.cell 1; have y2 : w3.cell? ⟨G, 2, none⟩ = some (.int .i64 xst) := hQ3.cell 2; have y3 : w3.cell? ⟨G, 3, none⟩ = some (.slice axf xlf.length kxf) := hQ3.cell 3; have y4 : w3.cell? ⟨G, 4, none⟩ = some (S xbody) := hQ3.cell 4; have y5 : w3.cell? ⟨G, 5, none⟩ = some (.int .i64 xa) := hQ3.cell 5; have y6 : w3.cell? ⟨G, 6, none⟩ = some (.int .i64 xc) := hQ3.cell 6)
  go_wp2_with fail
  refine hLY.mono ?_
  rintro e w4 ⟨rfl, hr4, hb4⟩
  have hbf := hbt3.trans hb4
  clear hb4 hLY
  go_wp2
  go_ret
  exact ⟨rfl, hr4, hbf⟩

set_option linter.unusedSimpArgs false in
set_option linter.unusedVariables false in
set_option linter.unnecessarySimpa false in
set_option maxRecDepth 100000 in
set_option maxHeartbeats 4000000 in
theorem refSet_long {B r : Nat} {most last : Int} {v : Value} {er : List Ev} (id : Int) (q : En) (lp' lf' : List F) (w : World) (h : Rs B w r most last v er) (k : Nat) (hlt : k < er.length) (hno : ∀ e ∈ er.take k, e.x.id ≠ id) (hyes : er[k].x.id = id) (hp : Fo 53 B w q.vp lp') (hf : Fo 62 B w q.vf lf') (hk' : q.key.length ≤ 1099511627776) (hb' : q.body.length ≤ 1099511627776) (hl : fsum lp' ≤ 1099511627776) (hl2 : fsum lf' ≤ 1048576) (hc : most < (costF q lp' lf' : Nat)) :
    Calls Tryd.prog 15 #[Ptr r, .int .i64 id, q.val] w fun e w' => e = .returned (.int .i64 2) ∧ (∃ v', Rs B w' r most last v' (er.take k ++ er.drop (k + 1))) ∧ But (fun k => k = r) w w' := by
  obtain ⟨c0', ec0⟩ : ∃ c0', c0' = costF q lp' lf' := ⟨_, rfl⟩
  have HLY := Lib.hid (fun (w1 : World) (v1 : Value) (er1 : List Ev) (h1 : Rs B w1 r most last v1 er1) h2 h3 => refLay_long id q lp' lf' w1 h1 h2 h3 hk' hb' hl hl2 hc)
  rw [← ec0] at hc
  clear ec0
  obtain ⟨xkey, vp, xst, vf, xbody, xa, xc⟩ := q
  obtain ⟨axp, kxp, hvp, -⟩ := hp.form
  obtain ⟨axf, kxf, hvf, -⟩ := hf.form
  simp only [En.val] at *
  subst hvp hvf
  obtain ⟨xlp, exl⟩ : ∃ xlp, xlp = lp' := ⟨_, rfl⟩
  obtain ⟨xlf, exf⟩ : ∃ xlf, xlf = lf' := ⟨_, rfl⟩
  subst exl exf
  obtain ⟨a, c, hv⟩ := row_form h.row
  subst hv
  have hlen := h.len
  obtain ⟨w0, ew⟩ : ∃ w0 : World, w0 = w.alloc (.cells #[S xkey, .slice axp xlp.length kxp, .int .i64 xst, .slice axf xlf.length kxf, S xbody, .int .i64 xa, .int .i64 xc] 36) := ⟨_, rfl⟩
  have hb0 : Below w.heap.size w w0 := by rw [ew]; exact (Below.refl _ _).alloc (Nat.le_refl _) _
  obtain ⟨G, eG⟩ : ∃ G, G = w.heap.size := ⟨_, rfl⟩
  have hQ0 : Blk w0 G 36 #[S xkey, .slice axp xlp.length kxp, .int .i64 xst, .slice axf xlf.length kxf, S xbody, .int .i64 xa, .int .i64 xc] := by rw [ew, eG]; exact Blk.new _ _ _
  have HG := Lib.hid eG
  have hGr : r < G := by rw [eG]; exact h.blk.lt
  have h0 := h.below hb0
  have hBw : B ≤ w.heap.size := Nat.le_of_lt h.at
  have hp0 := hp.below hb0 hBw
  have hf0 := hf.below hb0 hBw
  have hPl := place_any w0 h0 id k (Nat.le_of_lt hlt) hno (fun _ => hyes)
  rw [if_pos hlt] at hPl
  have hro := costs_out er k hlt
  have hWk := Lib.hid (fun (w1 : World) (h1 : Rs B w1 r most last (.slice a er.length c) er) => without_any er _ w1 k B h1.row h1.lists hlt hlen)
  have hmem : Hid (∀ e ∈ er.take k ++ er.drop (k + 1), e ∈ er) := fun e he => by
    rcases List.mem_append.1 he with he | he
    · exact List.mem_of_mem_take he
    · exact List.mem_of_mem_drop he
  obtain ⟨eo, eeo⟩ : ∃ eo, eo = er.take k ++ er.drop (k + 1) := ⟨_, rfl⟩
  rw [← eeo] at hro hWk hmem ⊢
  have t1 : decide ((k : Int) < 0) = false := by simp
  clear eG hno hyes eeo
  go_enter Tryd.func15, Tryd.ntmps15
  go_upto_region 1 with fail
  rw [← HG.out, ← ew]
  clear ew
  go_wp2_with fail
  refine hPl.mono ?_
  rintro e w1 ⟨rfl, hb1⟩
  have hr1 := h0.below hb1
  have hQ1 := hQ0.on hb1
  have hWt := hWk.out w1 hr1
  have x2 : w1.cell? ⟨r, 2, none⟩ = some (.slice a er.length c) := hr1.blk.cell 2
  clear hPl
  go_wp2_with fail
  refine hWt.mono ?_
  rintro e w2 ⟨v2, rfl, ho2, hb2⟩
  obtain ⟨a2, c2, hv2⟩ := row_form ho2
  subst hv2
  have hr2 := hr1.below hb2
  have hQ2 := hQ1.on hb2
  have z2 : w2.cell? ⟨r, 2, none⟩ = some (.slice a er.length c) := hr2.blk.cell 2
  have f2 := hr2.blk.free 2
  have hBw0 : B ≤ w0.heap.size := Nat.le_of_lt h0.at
  have hr3 := hr2.row_set (own_base ho2 (Nat.le_of_lt hr1.at)) (fun e he => hr2.lists e (hmem.out e he)) (by
    have h1 := hr2.room
    omega)
  obtain ⟨w3, e3⟩ : ∃ w3 : World, w3 = w2.setCell ⟨r, 2, none⟩ (.slice a2 eo.length c2) := ⟨_, rfl⟩
  have hb3 : But (fun k => k = r) w2 w3 := by rw [e3]; exact (But.refl (fun k => k = r) _).setCell (p := ⟨r, 2, none⟩) (.inl rfl) _
  rw [← e3] at hr3
  have hQ3 := hQ2.but hb3 (by omega)
  have hw2 : Below w0.heap.size w0 w2 := Bl.tr hb1 hb2
  have hp3 := (hp0.below hw2 hBw0).but_r hr2.blk h.lo hb3 (by decide)
  have hf3 := (hf0.below hw2 hBw0).but_r hr2.blk h.lo hb3 (by decide)
  have hbt3 : But (fun k => k = r) w w3 := ((But.of_below hb0).trans (But.of_below hw2)).trans hb3
  have hLY := HLY.out w3 _ eo hr3 hp3 hf3
  clear hWt hro hWk hmem
  go_upto_region 5 with fail
  rw [← e3]
  clear e3
  (have y0 : w3.cell? ⟨G, 0, none⟩ = some (S xkey) := hQ3.cell 0; have y1 : w3.cell? ⟨G, 1, none⟩ = some (.slice axp xlp.length kxp) := hQ3.cell 1; have y2 : w3.cell? ⟨G, 2, none⟩ = some (.int .i64 xst) := hQ3.cell 2; have y3 : w3.cell? ⟨G, 3, none⟩ = some (.slice axf xlf.length kxf) := hQ3.cell 3; have y4 : w3.cell? ⟨G, 4, none⟩ = some (S xbody) := hQ3.cell 4; have y5 : w3.cell? ⟨G, 5, none⟩ = some (.int .i64 xa) := hQ3.cell 5; have y6 : w3.cell? ⟨G, 6, none⟩ = some (.int .i64 xc) := hQ3.cell 6)
  go_wp2_with fail
  refine hLY.mono ?_
  rintro e w4 ⟨rfl, hb4⟩
  have hr4 := hr3.below hb4
  have hbf := hbt3.trans (But.of_below hb4)
  clear hb4 hLY
  go_wp2
  go_ret
  exact ⟨rfl, ⟨_, hr4⟩, hbf⟩

set_option linter.unusedSimpArgs false in
set_option linter.unusedVariables false in
set_option linter.unnecessarySimpa false in
set_option maxRecDepth 100000 in
set_option maxHeartbeats 4000000 in
theorem refSet_none {B r : Nat} {most last : Int} {v : Value} {er : List Ev} (id : Int) (q : En) (w : World) (h : Rs B w r most last v er) (hno : ∀ e ∈ er, e.x.id ≠ id) (hqf : (∃ a n c, q.vp = .slice a n c) ∧ ∃ a n c, q.vf = .slice a n c) :
    Calls Tryd.prog 15 #[Ptr r, .int .i64 id, q.val] w fun e w' => e = .returned (.int .i64 4) ∧ Below w.heap.size w w' := by
  obtain ⟨xkey, vp, xst, vf, xbody, xa, xc⟩ := q
  obtain ⟨⟨a1, n1, c1, h1⟩, a2, n2, c2, h2⟩ := hqf
  simp only [En.val] at *
  subst h1 h2
  obtain ⟨w0, ew⟩ : ∃ w0 : World, w0 = w.alloc (.cells #[S xkey, .slice a1 n1 c1, .int .i64 xst, .slice a2 n2 c2, S xbody, .int .i64 xa, .int .i64 xc] 36) := ⟨_, rfl⟩
  have hb0 : Below w.heap.size w w0 := by rw [ew]; exact (Below.refl _ _).alloc (Nat.le_refl _) _
  have hP := place_any w0 (h.below hb0) id er.length (Nat.le_refl _) (by rw [List.take_length]; exact hno) (fun hl => absurd hl (Nat.lt_irrefl _))
  rw [if_neg (Nat.lt_irrefl _)] at hP
  clear h hno
  go_enter Tryd.func15, Tryd.ntmps15
  go_upto_region 1 with fail
  rw [← ew]
  clear ew
  go_wp2_with fail
  refine hP.mono ?_
  rintro e w1 ⟨rfl, hb1⟩
  clear hP
  go_wp2
  go_ret
  exact ⟨rfl, Bl.tr hb0 hb1⟩
end Go.Proofs.YtnflihjgbkocnaaDoor
