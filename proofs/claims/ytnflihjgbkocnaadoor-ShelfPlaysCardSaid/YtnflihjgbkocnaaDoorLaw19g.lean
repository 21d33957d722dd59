
/- The walk of layer 19's law: whether a shelf holds what the document's holds. -/
import Derived.Test.YtnflihjgbkocnaaDoorShj
import Derived.Test.YtnflihjgbkocnaaDoorRs1
import Derived.Test.YtnflihjgbkocnaaDoorShb
namespace Go.Proofs.YtnflihjgbkocnaaDoor
open Go.RowKit Go.Dr

set_option linter.unusedSimpArgs false in
set_option linter.unusedVariables false in
set_option linter.unnecessarySimpa false in
theorem evs_at {base : Nat} {w : World} {a : Option Addr} {n c : Nat} {evs : List Ev} (h : Rd base w 7 (.slice a n c) n (ecells evs)) (k : Nat) (hk : k < evs.length) :
    ∃ b off, a = some ⟨b, off, none⟩ ∧ b < base ∧ w.cell? ⟨b, off + k * 7, none⟩ = some (S evs[k].x.key) ∧ w.cell? ⟨b, off + k * 7 + 1, none⟩ = some evs[k].vp ∧ w.cell? ⟨b, off + k * 7 + 2, none⟩ = some (.int .i64 evs[k].x.st) ∧ w.cell? ⟨b, off + k * 7 + 3, none⟩ = some evs[k].vf ∧ w.cell? ⟨b, off + k * 7 + 4, none⟩ = some (S evs[k].x.body) ∧ w.cell? ⟨b, off + k * 7 + 5, none⟩ = some (.int .i64 evs[k].x.asked) ∧ w.cell? ⟨b, off + k * 7 + 6, none⟩ = some (.int .i64 evs[k].x.came) := by
  obtain ⟨a', cap', h1, h2, h3, h4, h5, h6⟩ := h
  simp only [Value.slice.injEq, true_and] at h1
  obtain ⟨rfl, rfl⟩ := h1
  have hg : ∀ j, j < 7 → (ecells evs)[k * 7 + j]? = (evs[k].cells)[j]? := fun j hj => flat_get Ev.cells 7 (fun _ => rfl) evs k hk j hj
  obtain ⟨b, off, rfl, hb, c0⟩ := h6 (k * 7 + 0) _ (by rw [hg 0 (by omega)]; rfl)
  have hc : ∀ (j : Nat) (u : Value), j < 7 → (evs[k].cells)[j]? = some u → w.cell? ⟨b, off + (k * 7 + j), none⟩ = some u := fun j u hj hu => by
    obtain ⟨b1, off1, e1, _, c1⟩ := h6 (k * 7 + j) u (by rw [hg j hj]; exact hu)
    simp only [Option.some.injEq, Addr.mk.injEq, and_true] at e1
    obtain ⟨rfl, rfl⟩ := e1
    exact c1
  refine ⟨b, off, rfl, hb, c0, ?_, ?_, ?_, ?_, ?_, ?_⟩
  · rw [Nat.add_assoc]; exact hc 1 _ (by omega) rfl
  · rw [Nat.add_assoc]; exact hc 2 _ (by omega) rfl
  · rw [Nat.add_assoc]; exact hc 3 _ (by omega) rfl
  · rw [Nat.add_assoc]; exact hc 4 _ (by omega) rfl
  · rw [Nat.add_assoc]; exact hc 5 _ (by omega) rfl
  · rw [Nat.add_assoc]; exact hc 6 _ (by omega) rfl

set_option linter.unusedSimpArgs false in
set_option linter.unusedVariables false in
set_option linter.unnecessarySimpa false in
set_option maxRecDepth 100000 in
set_option maxHeartbeats 4000000 in
theorem same19_any {w : World} {R r M : Nat} {last : Int} {v : Value} {er : List Ev} {l : List Nd} (h : Two w R r M last v er l) :
    Calls Tryd.prog 20 #[Ptr (R + 2), Ptr r] w fun e w' => e = .returned (.bool true) ∧ Below w.heap.size w w' := by
  obtain ⟨hs, hr, heq⟩ := h
  obtain ⟨a, c, hv⟩ := row_form hr.row
  subst hv
  have hlen := hr.len
  have hjl := join_len heq
  have hAll := ShAll_any R R (R + 2) R (R + 1) (M : Int) last l w hs
  go_enter Tryd.func20, Tryd.ntmps20
  go_wp2_with fail
  refine hAll.mono ?_
  rintro e w1 ⟨v1, evs, rfl, hev, hb1⟩
  have hs1 := hs.below hb1
  have hr1 := hr.below hb1
  have hevl := hev.len
  obtain ⟨a1, c1, hv1⟩ := row_form hev.row
  subst hv1
  have hL := Len_any R R (R + 2) R (R + 1) (M : Int) last l w1 hs1
  rw [← hjl] at hL
  have n0 : evs.length = er.length := by omega
  have x2 : w1.cell? ⟨r, 2, none⟩ = some (.slice a er.length c) := hr1.blk.cell 2
  obtain ⟨N, eN⟩ : ∃ N, N = er.length := ⟨_, rfl⟩
  have hevl2 : evs.length = N := by omega
  rw [hevl2]
  rw [← eN] at hL x2 hlen
  have HN := Lib.hid eN
  have HEV := Lib.hid hevl2
  have hBy := Bytes_any (R + 2) (costs (l.map Nd.x) : Nat) w1 (hs1.blk.cell 1)
  have hcc : costs (er.map Ev.x) = costs (l.map Nd.x) := by rw [heq]
  have hRB := refBytes_any w1 hr1
  rw [hcc] at hRB
  obtain ⟨C, eC⟩ : ∃ C, C = costs (l.map Nd.x) := ⟨_, rfl⟩
  rw [← eC] at hBy hRB
  have hevr : Rd w1.heap.size w1 7 (.slice a1 evs.length c1) evs.length (ecells evs) := Rd.own hev.row
  have hevg : Hid (∀ (k : Nat) (hk : k < evs.length) (hk' : k < er.length), evs[k].x = er[k].x) := fun k hk hk' => by
    rw [hev.get k hk (by omega), join_get heq k hk' (by omega)]
  have hevf : Hid (∀ (k : Nat) (hk : k < evs.length), Fs w1.heap.size w1 evs[k].vp evs[k].x.lp ∧ Fs w1.heap.size w1 evs[k].vf evs[k].x.lf) := fun k hk => ⟨Fs.own (hev.lists _ (List.getElem_mem hk)).1, Fs.own (hev.lists _ (List.getElem_mem hk)).2⟩
  clear eN n0 hevl2 eC hcc hjl hevl hAll
  go_wp2_with fail
  refine hL.mono ?_
  rintro e w2 ⟨rfl, e2⟩
  rw [e2]
  clear e2
  go_wp2_with fail
  refine hBy.mono ?_
  rintro e w3 ⟨rfl, e3⟩
  rw [e3]
  clear e3
  go_wp2_with fail
  refine hRB.mono ?_
  rintro e w4 ⟨rfl, hb4⟩
  clear hL hBy hRB
  go_wp2
  go_loopw [6] (fun i wr => ∃ k : Nat, i = .int .i64 k ∧ k ≤ N ∧ Below w1.heap.size w1 wr) (fun i _ => N - (intOf i).toNat)
  case atStart => exact ⟨0, rfl, Nat.zero_le _, hb4⟩
  case round =>
    obtain ⟨k, rfl, hk, hbr⟩ := hrel
    by_cases hlt : k < N
    · have hlt1 : k < evs.length := by rw [HEV.out]; exact hlt
      have hlt2 : k < er.length := by rw [← HN.out]; exact hlt
      have hr := hr1.below hbr
      have hrd := Rd.below hevr hbr
      rw [HEV.out] at hrd
      have hrd2 : Rd w1.heap.size wr 7 (.slice a1 N c1) N (ecells evs) := hrd
      obtain ⟨b1, o1, rfl, hbb1, s0, s1, s2, s3, s4, s5, s6⟩ := evs_at hrd2 k hlt1
      have hef := hevf.out k hlt1
      have heg := hevg.out k hlt1 hlt2
      rw [heg] at s0 s2 s4 s5 s6 hef
      obtain ⟨evp, eevp⟩ : ∃ v, v = evs[k].vp := ⟨_, rfl⟩
      obtain ⟨evf, eevf⟩ : ∃ v, v = evs[k].vf := ⟨_, rfl⟩
      rw [← eevp] at s1 hef
      rw [← eevf] at s3 hef
      clear eevp eevf heg hrd hrd2
      have hR := hr.row
      rw [← HN.out] at hR
      obtain ⟨b, off, rfl, hbb, c0, c1, c2, c3, c4, c5, c6, c7⟩ := it_at (Rd.own hr.row) k hlt2
      have hl := hr.lists er[k] (List.getElem_mem hlt2)
      have hco := hr.cost (List.getElem_mem hlt2)
      obtain ⟨e, ee⟩ : ∃ e, e = er[k] := ⟨_, rfl⟩
      rw [← ee] at c0 c1 c2 c3 c4 c5 c6 c7 hl hco
      have HE := Lib.hid ee
      clear ee
      obtain ⟨vp, vf, ⟨eid, key, lp, st, lf, body, asked, came⟩⟩ := e
      obtain ⟨ap, kp, hvp, -⟩ := hl.1.form
      obtain ⟨af, kf, hvf, -⟩ := hl.2.form
      simp only at c0 c1 c2 c3 c4 c5 c6 c7 hvp hvf
      subst hvp hvf
      have hlp : Fo 53 R wr (.slice ap lp.length kp) lp := hl.1
      have hlf : Fo 62 R wr (.slice af lf.length kf) lf := hl.2
      have hcn : 64 + key.length + body.length + fsum lf + fsum lp ≤ 1048576 := hco
      have d2 : wr.cell? ⟨b, off + k * 8 + 1 + 1, none⟩ = some (.slice ap lp.length kp) := c2
      have d3 : wr.cell? ⟨b, off + k * 8 + 1 + 2, none⟩ = some (.int .i64 st) := c3
      have d4 : wr.cell? ⟨b, off + k * 8 + 1 + 3, none⟩ = some (.slice af lf.length kf) := c4
      have d5 : wr.cell? ⟨b, off + k * 8 + 1 + 4, none⟩ = some (S body) := c5
      have d6 : wr.cell? ⟨b, off + k * 8 + 1 + 5, none⟩ = some (.int .i64 asked) := c6
      have d7 : wr.cell? ⟨b, off + k * 8 + 1 + 6, none⟩ = some (.int .i64 came) := c7
      clear hl hco
      rw [← HE.out] at s0 s2 s4 s5 s6 hef
      simp only at s0 s2 s4 s5 s6 hef
      obtain ⟨x1, y1, rfl, -⟩ := hef.1.form
      obtain ⟨x3, y3, rfl, -⟩ := hef.2.form
      have hBr : R ≤ wr.heap.size := Nat.le_of_lt hr.at
      have hS := refSame_eq ⟨key, .slice x1 lp.length y1, st, .slice x3 lf.length y3, body, asked, came⟩ (.slice ap lp.length kp) (.slice af lf.length kf) lp lf wr.drew (show Fs wr.drew.heap.size wr.drew _ lp from ((hef.1.below hbr).mono hbr.size).drew) (show Fs wr.drew.heap.size wr.drew _ lf from ((hef.2.below hbr).mono hbr.size).drew) (show Fs wr.drew.heap.size wr.drew _ lp from (hlp.fs hBr).drew) (show Fs wr.drew.heap.size wr.drew _ lf from (hlf.fs hBr).drew)
      simp only [En.val] at hS
      have x2 : wr.cell? ⟨r, 2, none⟩ = some (.slice (some ⟨b, off, none⟩) N c) := by
        have := hr.blk.cell 2
        rw [← HN.out] at this
        exact this
      have s1' : wr.cell? ⟨b1, o1 + k * 7 + 1, none⟩ = some (.slice x1 lp.length y1) := s1
      clear HE hef hR
      have hb1w : b1 < wr.heap.size := Nat.lt_of_lt_of_le hbb1 hbr.size
      go_wp2_with fail
      refine wp_region_held_drew (S := (fun wx => wx.cell? ⟨b1, o1 + k * 7, none⟩ = some (S key) ∧ wx.cell? ⟨b1, o1 + k * 7 + 1, none⟩ = some (.slice x1 lp.length y1) ∧ wx.cell? ⟨b1, o1 + k * 7 + 2, none⟩ = some (.int .i64 st) ∧ wx.cell? ⟨b1, o1 + k * 7 + 3, none⟩ = some (.slice x3 lf.length y3) ∧ wx.cell? ⟨b1, o1 + k * 7 + 4, none⟩ = some (S body) ∧ wx.cell? ⟨b1, o1 + k * 7 + 5, none⟩ = some (.int .i64 asked) ∧ wx.cell? ⟨b1, o1 + k * 7 + 6, none⟩ = some (.int .i64 came) ∧ wx.cell? ⟨r, 2, none⟩ = some (.slice (some ⟨b, off, none⟩) N c) ∧ wx.cell? ⟨b, off + k * 8 + 1, none⟩ = some (S key) ∧ wx.cell? ⟨b, off + k * 8 + 1 + 1, none⟩ = some (.slice ap lp.length kp) ∧ wx.cell? ⟨b, off + k * 8 + 1 + 2, none⟩ = some (.int .i64 st) ∧ wx.cell? ⟨b, off + k * 8 + 1 + 3, none⟩ = some (.slice af lf.length kf) ∧ wx.cell? ⟨b, off + k * 8 + 1 + 4, none⟩ = some (S body) ∧ wx.cell? ⟨b, off + k * 8 + 1 + 5, none⟩ = some (.int .i64 asked) ∧ wx.cell? ⟨b, off + k * 8 + 1 + 6, none⟩ = some (.int .i64 came))) (by kernel_rfl) ⟨s0, s1, s2, s3, s4, s5, s6, x2, c1, d2, d3, d4, d5, d6, d7⟩ (fun hHeld => ?_)
      refine wpAnyH_take (i := 0) (v := ?_) (by rfl) (by kernel_rfl) (by kernel_rfl) (by kernel_rfl) (by exact fun _ _ _ h => h) (Or.inl ⟨by rfl, ?_⟩) hHeld ?_
      rotate_left
      · (intro w hSw; (try dsimp only at hSw); go_simp; try with_reducible rfl)
      simp only [Act.put, List.getElem_toArray, List.getElem_cons_succ, List.getElem_cons_zero, List.setIfInBounds_toArray, List.set_cons_zero, List.set_cons_succ]
      refine wpAnyH_take (i := 1) (v := ?_) (by rfl) (by kernel_rfl) (by kernel_rfl) (by kernel_rfl) (by exact fun _ _ _ h => h) (Or.inl ⟨by rfl, ?_⟩) hHeld ?_
      rotate_left
      · (intro w hSw; (try dsimp only at hSw); go_simp; try with_reducible rfl)
      simp only [Act.put, List.getElem_toArray, List.getElem_cons_succ, List.getElem_cons_zero, List.setIfInBounds_toArray, List.set_cons_zero, List.set_cons_succ]
      refine wpAnyH_take (i := 2) (v := ?_) (by rfl) (by kernel_rfl) (by kernel_rfl) (by kernel_rfl) (by exact fun _ _ _ h => h) (Or.inl ⟨by rfl, ?_⟩) hHeld ?_
      rotate_left
      · (intro w hSw; (try dsimp only at hSw); go_simp; try with_reducible rfl)
      simp only [Act.put, List.getElem_toArray, List.getElem_cons_succ, List.getElem_cons_zero, List.setIfInBounds_toArray, List.set_cons_zero, List.set_cons_succ]
      refine wpAnyH_take (i := 3) (v := ?_) (by rfl) (by kernel_rfl) (by kernel_rfl) (by kernel_rfl) (by exact fun _ _ _ h => h) (Or.inl ⟨by rfl, ?_⟩) hHeld ?_
      rotate_left
      · (intro w hSw; (try dsimp only at hSw); go_simp; try with_reducible rfl)
      simp only [Act.put, List.getElem_toArray, List.getElem_cons_succ, List.getElem_cons_zero, List.setIfInBounds_toArray, List.set_cons_zero, List.set_cons_succ]
      refine wpAnyH_take (i := 4) (v := ?_) (by rfl) (by kernel_rfl) (by kernel_rfl) (by kernel_rfl) (by exact fun _ _ _ h => h) (Or.inl ⟨by rfl, ?_⟩) hHeld ?_
      rotate_left
      · (intro w hSw; (try dsimp only at hSw); go_simp; try with_reducible rfl)
      simp only [Act.put, List.getElem_toArray, List.getElem_cons_succ, List.getElem_cons_zero, List.setIfInBounds_toArray, List.set_cons_zero, List.set_cons_succ]
      refine wpAnyH_take (i := 5) (v := ?_) (by rfl) (by kernel_rfl) (by kernel_rfl) (by kernel_rfl) (by exact fun _ _ _ h => h) (Or.inl ⟨by rfl, ?_⟩) hHeld ?_
      rotate_left
      · (intro w hSw; (try dsimp only at hSw); go_simp; try with_reducible rfl)
      simp only [Act.put, List.getElem_toArray, List.getElem_cons_succ, List.getElem_cons_zero, List.setIfInBounds_toArray, List.set_cons_zero, List.set_cons_succ]
      refine wpAnyH_take (i := 6) (v := ?_) (by rfl) (by kernel_rfl) (by kernel_rfl) (by kernel_rfl) (by exact fun _ _ _ h => h) (Or.inl ⟨by rfl, ?_⟩) hHeld ?_
      rotate_left
      · (intro w hSw; (try dsimp only at hSw); go_simp; try with_reducible rfl)
      simp only [Act.put, List.getElem_toArray, List.getElem_cons_succ, List.getElem_cons_zero, List.setIfInBounds_toArray, List.set_cons_zero, List.set_cons_succ]
      refine wpAnyH_take (i := 7) (v := ?_) (by rfl) (by kernel_rfl) (by kernel_rfl) (by kernel_rfl) (by exact fun _ _ _ h => h) (Or.inl ⟨by rfl, ?_⟩) hHeld ?_
      rotate_left
      · (intro w hSw; (try dsimp only at hSw); go_simp; try with_reducible rfl)
      simp only [Act.put, List.getElem_toArray, List.getElem_cons_succ, List.getElem_cons_zero, List.setIfInBounds_toArray, List.set_cons_zero, List.set_cons_succ]
      refine wpAnyH_take (i := 8) (v := ?_) (by rfl) (by kernel_rfl) (by kernel_rfl) (by kernel_rfl) (by exact fun _ _ _ h => h) (Or.inl ⟨by rfl, ?_⟩) hHeld ?_
      rotate_left
      · (intro w hSw; (try dsimp only at hSw); go_simp; try with_reducible rfl)
      simp only [Act.put, List.getElem_toArray, List.getElem_cons_succ, List.getElem_cons_zero, List.setIfInBounds_toArray, List.set_cons_zero, List.set_cons_succ]
      refine wpAnyH_take (i := 9) (v := ?_) (by rfl) (by kernel_rfl) (by kernel_rfl) (by kernel_rfl) (by exact fun _ _ _ h => h) (Or.inl ⟨by rfl, ?_⟩) hHeld ?_
      rotate_left
      · (intro w hSw; (try dsimp only at hSw); go_simp; try with_reducible rfl)
      simp only [Act.put, List.getElem_toArray, List.getElem_cons_succ, List.getElem_cons_zero, List.setIfInBounds_toArray, List.set_cons_zero, List.set_cons_succ]
      refine wpAnyH_take (i := 10) (v := ?_) (by rfl) (by kernel_rfl) (by kernel_rfl) (by kernel_rfl) (by exact fun _ _ _ h => h) (Or.inl ⟨by rfl, ?_⟩) hHeld ?_
      rotate_left
      · (intro w hSw; (try dsimp only at hSw); go_simp; try with_reducible rfl)
      simp only [Act.put, List.getElem_toArray, List.getElem_cons_succ, List.getElem_cons_zero, List.setIfInBounds_toArray, List.set_cons_zero, List.set_cons_succ]
      refine wpAnyH_take (i := 11) (v := ?_) (by rfl) (by kernel_rfl) (by kernel_rfl) (by kernel_rfl) (by exact fun _ _ _ h => h) (Or.inl ⟨by rfl, ?_⟩) hHeld ?_
      rotate_left
      · (intro w hSw; (try dsimp only at hSw); go_simp; try with_reducible rfl)
      simp only [Act.put, List.getElem_toArray, List.getElem_cons_succ, List.getElem_cons_zero, List.setIfInBounds_toArray, List.set_cons_zero, List.set_cons_succ]
      refine wpAnyH_ready (rs := [12]) (by kernel_rfl) (by simp) ?_
      refine AllReadyH.cons (by rfl) (fun K hK => ?_) AllReadyH.nil
      go_simp
      (with_reducible refine hS.mono ?_); rintro e wk ⟨rfl, hbk⟩; replace hbk := Bl.undrew hbk
      refine hK.out _ _ ⟨((bcell hbk).1 b1 (o1 + k * 7) hb1w).trans s0, ((bcell hbk).1 b1 (o1 + k * 7 + 1) hb1w).trans s1, ((bcell hbk).1 b1 (o1 + k * 7 + 2) hb1w).trans s2, ((bcell hbk).1 b1 (o1 + k * 7 + 3) hb1w).trans s3, ((bcell hbk).1 b1 (o1 + k * 7 + 4) hb1w).trans s4, ((bcell hbk).1 b1 (o1 + k * 7 + 5) hb1w).trans s5, ((bcell hbk).1 b1 (o1 + k * 7 + 6) hb1w).trans s6, (show wk.cell? ⟨r, 2, none⟩ = some (.slice (some ⟨b, off, none⟩) N c) from by have := (hr.below hbk).blk.cell 2; rw [← HN.out] at this; exact this), ((bcell hbk).1 b (off + k * 8 + 1) hbb).trans c1, ((bcell hbk).1 b (off + k * 8 + 1 + 1) hbb).trans d2, ((bcell hbk).1 b (off + k * 8 + 1 + 2) hbb).trans d3, ((bcell hbk).1 b (off + k * 8 + 1 + 3) hbb).trans d4, ((bcell hbk).1 b (off + k * 8 + 1 + 4) hbb).trans d5, ((bcell hbk).1 b (off + k * 8 + 1 + 5) hbb).trans d6, ((bcell hbk).1 b (off + k * 8 + 1 + 6) hbb).trans d7⟩ (fun hHeld => ?_)
      clear hK K
      try simp only [Act.put, List.getElem_toArray, List.getElem_cons_succ, List.getElem_cons_zero, List.setIfInBounds_toArray, List.set_cons_zero, List.set_cons_succ]
      refine wpAnyH_take (i := 13) (v := ?_) (by rfl) (by kernel_rfl) (by kernel_rfl) (by kernel_rfl) (by exact fun _ _ _ h => h) (Or.inl ⟨by rfl, ?_⟩) hHeld ?_
      rotate_left
      · (intro w hSw; (try dsimp only at hSw); go_simp; try with_reducible rfl)
      simp only [Act.put, List.getElem_toArray, List.getElem_cons_succ, List.getElem_cons_zero, List.setIfInBounds_toArray, List.set_cons_zero, List.set_cons_succ]
      try simp only [Act.put, List.getElem_toArray, List.getElem_cons_succ, List.getElem_cons_zero, List.setIfInBounds_toArray, List.set_cons_zero, List.set_cons_succ]
      refine wpAnyH_done (by kernel_rfl) ?_ _
      go_wp2
      go_roundw
      case rel => exact ⟨k + 1, by go_num, by omega, hbr.trans (hbk.mono hbr.size)⟩
      case measure => (first | (simp [intOf]; done) | (simp [intOf]; omega))
    · obtain rfl : k = N := by omega
      go_wp2
      go_ret
      exact ⟨rfl, Bl.tr hb1 hbr⟩
end Go.Proofs.YtnflihjgbkocnaaDoor
