
/- The walk of the document's shelf: Find. Printed by rs5gen.py. -/
import Derived.Test.YtnflihjgbkocnaaDoorRs4
import Derived.Test.YtnflihjgbkocnaaDoorShj
namespace Go.Proofs.YtnflihjgbkocnaaDoor
open Go.RowKit Go.Dr

def bi (o : Option Nat) (k : Nat) : Int := match o with | none => -1 | some j => ((k + j : Nat) : Int)
set_option linter.unusedSimpArgs false in
set_option linter.unusedVariables false in
set_option linter.unnecessarySimpa false in
theorem best_step (key : Bytes) (list : List F) (er : List Ev) (k : Nat) (h : k < er.length) : bestAt key list ((er.drop k).map Ev.x) = (match bestAt key list ((er.drop (k + 1)).map Ev.x) with
    | none => if fits19 key list er[k].x then some 0 else none
    | some j => if fits19 key list er[k].x && decide ((((er.drop (k + 1)).map Ev.x)[j]?.map It.came).getD 0 < er[k].x.came) then some 0 else some (j + 1)) := by
  rw [List.drop_eq_getElem_cons h, List.map_cons]
  rfl
set_option linter.unusedSimpArgs false in
set_option linter.unusedVariables false in
set_option linter.unnecessarySimpa false in
set_option maxRecDepth 100000 in
set_option maxHeartbeats 4000000 in
theorem ret_findR {W : World} {tmps : Array Value} {b : Nat} {v0 v1 v2 v3 v4 v5 v6 : Value} {i : Int} {c : Bool} {R : Ending → World → Prop} (hs : tmps[6]? = some (.pointer (some ⟨b, 0, none⟩))) (hi : tmps[7]? = some (.int .i64 i)) (hc : tmps[8]? = some (.bool c)) (h : Blk W b 36 #[v0, v1, v2, v3, v4, v5, v6]) (hR : R (.returned (.tuple #[.agg #[v0, v1, v2, v3, v4, v5, v6], .int .i64 i, .bool c])) W) :
    bodyPost Tryd.prog Tryd.f12 R .ret { tmps := tmps, defers := [] } W := by
  (have g0 : W.cell? ⟨b, 0, none⟩ = some (v0) := h.cell 0; have g1 : W.cell? ⟨b, 1, none⟩ = some (v1) := h.cell 1; have g2 : W.cell? ⟨b, 2, none⟩ = some (v2) := h.cell 2; have g3 : W.cell? ⟨b, 3, none⟩ = some (v3) := h.cell 3; have g4 : W.cell? ⟨b, 4, none⟩ = some (v4) := h.cell 4; have g5 : W.cell? ⟨b, 5, none⟩ = some (v5) := h.cell 5; have g6 : W.cell? ⟨b, 6, none⟩ = some (v6) := h.cell 6)
  exact bodyPost_ret (v := .tuple #[.agg #[v0, v1, v2, v3, v4, v5, v6], .int .i64 i, .bool c]) (by simp [results, Tryd.results12, go_sem, hs, hi, hc, g0, g1, g2, g3, g4, g5, g6]) rfl hR

set_option linter.unusedSimpArgs false in
set_option linter.unusedVariables false in
set_option linter.unnecessarySimpa false in
theorem put7_one (w : World) (g : Nat) (b0 b1 b2 b3 b4 b5 b6 : Value) : But (fun k => k = g) w (put7 w g b0 b1 b2 b3 b4 b5 b6) :=
  ((((((((But.refl (fun k => k = g) w).setCell (p := ⟨g, 0, none⟩) (.inl rfl) b0).setCell (p := ⟨g, 1, none⟩) (.inl rfl) b1).setCell (p := ⟨g, 2, none⟩) (.inl rfl) b2).setCell (p := ⟨g, 3, none⟩) (.inl rfl) b3).setCell (p := ⟨g, 4, none⟩) (.inl rfl) b4).setCell (p := ⟨g, 5, none⟩) (.inl rfl) b5).setCell (p := ⟨g, 6, none⟩) (.inl rfl) b6)
def FindPost (B r : Nat) (most last : Int) (er : List Ev) (w : World) (o : Option Nat) (e : Ending) (w' : World) : Prop := match o with
  | none => e = .returned (.tuple #[entZ, .int .i64 0, .bool false]) ∧ Below w.heap.size w w'
  | some j => ∃ hj : j < er.length, e = .returned (.tuple #[er[j].val, .int .i64 er[j].x.id, .bool true]) ∧ (∃ v', Rs B w' r most last v' (er.take j ++ er.drop (j + 1) ++ [er[j]])) ∧ But (fun k => k = r) w w'
set_option linter.unusedSimpArgs false in
set_option linter.unusedVariables false in
set_option linter.unnecessarySimpa false in
theorem Rs.zput {B r : Nat} {most last : Int} {v : Value} {er : List Ev} {w : World} (h : Rs B w r most last v er) {g : Nat} {zs : Array Value} (hZ : Blk w g 36 zs) (hg : B ≤ g) (b0 b1 b2 b3 b4 b5 b6 : Value) : Rs B (put7 w g b0 b1 b2 b3 b4 b5 b6) r most last v er := by
  have hbut : But (fun k => k = g) w (put7 w g b0 b1 b2 b3 b4 b5 b6) := ((((((((But.refl (fun k => k = g) w).setCell (p := ⟨g, 0, none⟩) (.inl rfl) b0).setCell (p := ⟨g, 1, none⟩) (.inl rfl) b1).setCell (p := ⟨g, 2, none⟩) (.inl rfl) b2).setCell (p := ⟨g, 3, none⟩) (.inl rfl) b3).setCell (p := ⟨g, 4, none⟩) (.inl rfl) b4).setCell (p := ⟨g, 5, none⟩) (.inl rfl) b5).setCell (p := ⟨g, 6, none⟩) (.inl rfl) b6)
  have hne : ∀ (t : TypeId) (g' : Nat) (cur : Array Value), t ≠ 36 → w.heap[g']? = some (.cells cur t (0, 0)) → g' ≠ g := fun t g' cur ht hg' e => by
    subst e
    unfold Blk at hZ
    rw [hZ] at hg'
    simp only [Option.some.injEq, Obj.cells.injEq] at hg'
    exact ht hg'.2.1.symm
  refine ⟨h.blk.but hbut (hne _ _ _ (by decide) h.blk), own_block h.row fun g' cur hg' _ => heap_put7 _ _ _ _ _ _ _ _ _ g' (hne _ _ _ (by decide) hg'), fun e he => ⟨(h.lists e he).1.but hbut (fun k hk => by rw [hk]; exact hg) (Nat.le_of_lt h.at) (fun g' cur hg' => hne _ _ _ (by decide) hg'), (h.lists e he).2.but hbut (fun k hk => by rw [hk]; exact hg) (Nat.le_of_lt h.at) (fun g' cur hg' => hne _ _ _ (by decide) hg')⟩, h.lo, h.room, h.most1⟩

set_option linter.unusedSimpArgs false in
set_option linter.unusedVariables false in
set_option linter.unnecessarySimpa false in
set_option maxRecDepth 100000 in
set_option maxHeartbeats 8000000 in
theorem refFind_any {B r : Nat} {most last : Int} {v : Value} {er : List Ev} (fkey : Bytes) (vl : Value) (list : List F) (w : World) (h : Rs B w r most last v er) (hl : Fs w.heap.size w vl list) (hll : fsum list ≤ 1099511627776) :
    Calls Tryd.prog 12 #[Ptr r, S fkey, vl] w (FindPost B r most last er w (bestAt fkey list (er.map Ev.x))) := by
  obtain ⟨a, c, hv⟩ := row_form h.row
  subst hv
  have hlen := h.len
  obtain ⟨w0, ew⟩ : ∃ w0 : World, w0 = w.alloc (.cells Ez 36) := ⟨_, rfl⟩
  have hb0 : Below w.heap.size w w0 := by rw [ew]; exact (Below.refl _ _).alloc (Nat.le_refl _) _
  obtain ⟨Z, eZ⟩ : ∃ Z, Z = w.heap.size := ⟨_, rfl⟩
  have hZ : Blk w0 Z 36 Ez := by rw [ew, eZ]; exact Blk.new _ _ _
  have HZ := Lib.hid eZ
  have hrZ : r < Z := by rw [eZ]; exact h.blk.lt
  have hBZ : B ≤ Z := by rw [eZ]; exact Nat.le_of_lt h.at
  have h0 := h.below hb0
  have hl0 := (hl.below hb0).mono hb0.size
  have x2 : w0.cell? ⟨r, 2, none⟩ = some (.slice a er.length c) := h0.blk.cell 2
  have hstart : bestAt fkey list ((er.drop er.length).map Ev.x) = none := by rw [List.drop_length]; rfl
  have hwst : IntKind.i64.wrap ((er.length : Int) - 1) = (er.length : Int) - 1 := IntWalk.i64_in _ (by omega)
  obtain ⟨PO, ePO⟩ : ∃ PO, PO = FindPost B r most last er w (bestAt fkey list (er.map Ev.x)) := ⟨_, rfl⟩
  rw [← ePO]
  have HPO := Lib.hid ePO
  clear ePO eZ
  go_enter Tryd.func12, Tryd.ntmps12
  go_upto_region 1 with fail
  rw [← HZ.out, ← ew]
  clear ew
  go_wp2
  go_loopw [9, 10] (fun bv i wr => ∃ (k : Nat) (z : Int), i = .int .i64 z ∧ z + 1 = (k : Int) ∧ k ≤ er.length ∧ bv = .int .i64 (bi (bestAt fkey list ((er.drop k).map Ev.x)) k) ∧ Below w0.heap.size w0 wr) (fun _ i _ => (intOf i + 1).toNat)
  case atStart => exact ⟨er.length, _, by first | rfl | (rw [hwst]), by omega, Nat.le_refl _, by rw [hstart]; rfl, Below.refl _ _⟩
  case round =>
    obtain ⟨k, z, rfl, hzk, hk, rfl, hbr⟩ := hrel
    have hr := h0.below hbr
    have hBr : B ≤ wr.heap.size := Nat.le_of_lt hr.at
    cases k with
    | zero =>
      obtain rfl : z = -1 := by omega
      clear x2
      have x2 : wr.cell? ⟨r, 2, none⟩ = some (.slice a er.length c) := hr.blk.cell 2
      have hZr := hZ.on hbr
      have hwr := Bl.tr hb0 hbr
      rw [List.drop_zero]
      obtain ⟨o, eo⟩ : ∃ o, o = bestAt fkey list (er.map Ev.x) := ⟨_, rfl⟩
      rw [← eo] at HPO ⊢
      cases o with
      | none =>
        have e9 : bi none 0 = -1 := rfl
        rw [e9]
        (have z0 : wr.cell? ⟨Z, 0, none⟩ = some (S []) := hZr.cell 0; have z1 : wr.cell? ⟨Z, 1, none⟩ = some (.slice none 0 0) := hZr.cell 1; have z2 : wr.cell? ⟨Z, 2, none⟩ = some (.int .i64 0) := hZr.cell 2; have z3 : wr.cell? ⟨Z, 3, none⟩ = some (.slice none 0 0) := hZr.cell 3; have z4 : wr.cell? ⟨Z, 4, none⟩ = some (S []) := hZr.cell 4; have z5 : wr.cell? ⟨Z, 5, none⟩ = some (.int .i64 0) := hZr.cell 5; have z6 : wr.cell? ⟨Z, 6, none⟩ = some (.int .i64 0) := hZr.cell 6)
        have f0 := hZr.free 0
        have f1 := hZr.free 1
        have f2 := hZr.free 2
        have f3 := hZr.free 3
        have f4 := hZr.free 4
        have f5 := hZr.free 5
        have f6 := hZr.free 6
        clear h h0 hr eo hl hl0
        go_wp2
        have hB5 := hZr.put7 (S []) (.slice none 0 0) (.int .i64 0) (.slice none 0 0) (S []) (.int .i64 0) (.int .i64 0)
        refine ret_findR (b := Z) (i := 0) (c := false) ?_ ?_ ?_ hB5 ?_
        · rfl
        · rfl
        · rfl
        · rw [HPO.out]
          exact ⟨rfl, put7_below hwr (Nat.le_of_eq HZ.out.symm) _ _ _ _ _ _ _⟩
      | some j =>
        have hj : j < er.length := by
          have := bestAt_lt eo.symm
          rwa [List.length_map] at this
        have e9 : bi (some j) 0 = (j : Int) := by unfold bi; simp
        rw [e9]
        have tj : decide ((j : Int) < 0) = false := by simp
        have HPO2 : Hid (PO = fun e w' => ∃ hj : j < er.length, e = .returned (.tuple #[er[j].val, .int .i64 er[j].x.id, .bool true]) ∧ (∃ v', Rs B w' r most last v' (er.take j ++ er.drop (j + 1) ++ [er[j]])) ∧ But (fun k => k = r) w w') := by show _ = _; rw [HPO.out]; rfl
        have hWX := Lib.hid (fun (wx : World) (hx : Below wr.heap.size wr wx) => without_any er _ wx j B (hr.below hx).row (hr.below hx).lists hj hlen)
        have hmem : Hid (∀ e ∈ er.take j ++ er.drop (j + 1), e ∈ er) := fun e he => by
          rcases List.mem_append.1 he with he | he
          · exact List.mem_of_mem_take he
          · exact List.mem_of_mem_drop he
        have hcst : costs ((er.take j ++ er.drop (j + 1)).map Ev.x) + er[j].x.cost = costs (er.map Ev.x) := by
          conv => rhs; rw [← List.take_append_drop j er, List.drop_eq_getElem_cons hj]
          simp only [List.map_append, List.map_cons, costs_append, costs_cons]
          omega
        have hll1 : (er.take j ++ er.drop (j + 1)).length + 1 = er.length := by
          rw [List.length_append, List.length_take, List.length_drop]
          omega
        have hejm : er[j] ∈ er := List.getElem_mem hj
        obtain ⟨ej, eej⟩ : ∃ ej, ej = er[j] := ⟨_, rfl⟩
        have HEJ := Lib.hid eej
        rw [← eej] at hcst hejm
        obtain ⟨eo', eeo⟩ : ∃ eo', eo' = er.take j ++ er.drop (j + 1) := ⟨_, rfl⟩
        have HEO := Lib.hid eeo
        rw [← eeo] at hWX hmem hcst hll1
        have hr1m := hr.room
        clear eo eej eeo HPO
        obtain ⟨b, off, rfl, hbb, c0, c1, c2, c3, c4, c5, c6, c7⟩ := it_at (Rd.own hr.row) j hj
        have hl := hr.lists er[j] (List.getElem_mem hj)
        have hco := hr.cost (List.getElem_mem hj)
        obtain ⟨e, ee⟩ : ∃ e, e = er[j] := ⟨_, rfl⟩
        rw [← ee] at c0 c1 c2 c3 c4 c5 c6 c7 hl hco
        have HE := Lib.hid ee
        clear ee
        obtain ⟨vp, vf, ⟨eid, key, lp, st, lf, body, asked, came⟩⟩ := e
        obtain ⟨ap, kp, hvp, -⟩ := hl.1.form
        obtain ⟨af, kf, hvf, -⟩ := hl.2.form
        simp only at c0 c1 c2 c3 c4 c5 c6 c7 hvp hvf
        subst hvp hvf
        have hlp : Fo 53 B wr (.slice ap lp.length kp) lp := hl.1
        have hlf : Fo 62 B wr (.slice af lf.length kf) lf := hl.2
        have hcn : 64 + key.length + body.length + fsum lf + fsum lp ≤ 1048576 := hco
        have d2 : wr.cell? ⟨b, off + j * 8 + 1 + 1, none⟩ = some (.slice ap lp.length kp) := c2
        have d3 : wr.cell? ⟨b, off + j * 8 + 1 + 2, none⟩ = some (.int .i64 st) := c3
        have d4 : wr.cell? ⟨b, off + j * 8 + 1 + 3, none⟩ = some (.slice af lf.length kf) := c4
        have d5 : wr.cell? ⟨b, off + j * 8 + 1 + 4, none⟩ = some (S body) := c5
        have d6 : wr.cell? ⟨b, off + j * 8 + 1 + 5, none⟩ = some (.int .i64 asked) := c6
        have d7 : wr.cell? ⟨b, off + j * 8 + 1 + 6, none⟩ = some (.int .i64 came) := c7
        clear hl hco
        have hej : Hid (ej = ⟨.slice ap lp.length kp, .slice af lf.length kf, ⟨eid, key, lp, st, lf, body, asked, came⟩⟩) := by show _ = _; rw [HEJ.out, ← HE.out]
        obtain ⟨w3, e3⟩ : ∃ w3 : World, w3 = wr.alloc (.cells #[.int .i64 eid, S key, .slice ap lp.length kp, .int .i64 st, .slice af lf.length kf, S body, .int .i64 asked, .int .i64 came] 67) := ⟨_, rfl⟩
        obtain ⟨X, eX⟩ : ∃ X, X = wr.heap.size := ⟨_, rfl⟩
        have hX3 : Blk w3 X 67 #[.int .i64 eid, S key, .slice ap lp.length kp, .int .i64 st, .slice af lf.length kf, S body, .int .i64 asked, .int .i64 came] := by rw [e3, eX]; exact Blk.new _ _ _
        have hb3 : Below wr.heap.size wr w3 := by rw [e3]; exact (Below.refl _ _).alloc (Nat.le_refl _) _
        have HX := Lib.hid eX
        have hXr : X ≠ r := by rw [eX]; exact Nat.ne_of_gt hr.blk.lt
        have hXZ : ¬ X = Z := by rw [eX]; exact Nat.ne_of_gt hZr.lt
        have hr3 := hr.below hb3
        have hZ3 := hZr.on hb3
        have hlp3 := hlp.below hb3 hBr
        have hlf3 := hlf.below hb3 hBr
        have hw3 := Bl.tr hwr hb3
        go_upto_region 11 with fail
        rw [← HX.out, ← e3]
        clear e3 eX c0 c1 c2 c3 c4 c5 c6 c7 d2 d3 d4 d5 d6 d7
        have hXB : ∀ wx, But (fun k => k = r) w3 wx → wx.cell? ⟨X, 0, none⟩ = some (.int .i64 eid) ∧ wx.cell? ⟨X, 1, none⟩ = some (S key) ∧ wx.cell? ⟨X, 2, none⟩ = some (.slice ap lp.length kp) ∧ wx.cell? ⟨X, 3, none⟩ = some (.int .i64 st) ∧ wx.cell? ⟨X, 4, none⟩ = some (.slice af lf.length kf) ∧ wx.cell? ⟨X, 5, none⟩ = some (S body) ∧ wx.cell? ⟨X, 6, none⟩ = some (.int .i64 asked) ∧ wx.cell? ⟨X, 7, none⟩ = some (.int .i64 came) := fun wx hb => ⟨(hX3.but hb hXr).cell 0, (hX3.but hb hXr).cell 1, (hX3.but hb hXr).cell 2, (hX3.but hb hXr).cell 3, (hX3.but hb hXr).cell 4, (hX3.but hb hXr).cell 5, (hX3.but hb hXr).cell 6, (hX3.but hb hXr).cell 7⟩
        have x2a : w3.cell? ⟨r, 2, none⟩ = some (.slice (some ⟨b, off, none⟩) er.length c) := hr3.blk.cell 2
        have x2b : ∀ o, (w3.alloc o).cell? ⟨r, 2, none⟩ = some (.slice (some ⟨b, off, none⟩) er.length c) := fun o => (hr3.blk.alloc o).cell 2
        have x2c : ∀ o, (w3.alloc o).drew.cell? ⟨r, 2, none⟩ = some (.slice (some ⟨b, off, none⟩) er.length c) := fun o => (hr3.blk.alloc o).cell 2
        have x2d : w3.drew.cell? ⟨r, 2, none⟩ = some (.slice (some ⟨b, off, none⟩) er.length c) := hr3.blk.cell 2
        have x2e : ∀ o, (w3.drew.alloc o).cell? ⟨r, 2, none⟩ = some (.slice (some ⟨b, off, none⟩) er.length c) := fun o => (hr3.blk.alloc o).cell 2
        clear x2
        have hNl : eo'.length ≤ 16384 := by omega
        clear hll1
        have hRi : ∀ e' ∈ eo' ++ [ej], EvFs B w3 e' := by
          intro e' he
          rcases List.mem_append.1 he with he | he
          · exact hr3.lists e' (hmem.out e' he)
          · rw [List.mem_singleton.1 he]; exact hr3.lists ej hejm
        have h1n : ∀ u ∈ icells [ej], u.oneCell' = true := icells_one (B := B) (w := w3) (l := [ej]) (fun e' he => by rw [List.mem_singleton.1 he]; exact hr3.lists ej hejm)
        have hnd : icells [ej] = [.int .i64 eid, S key, .slice ap lp.length kp, .int .i64 st, .slice af lf.length kf, S body, .int .i64 asked, .int .i64 came] := by rw [hej.out]; rfl
        rw [hnd] at h1n
        have HND := Lib.hid hnd
        clear hnd hej
        go_wp2_with fail
        refine wp_region_held_drew (S := (fun wx => wx.cell? ⟨X, 0, none⟩ = some (.int .i64 eid) ∧ wx.cell? ⟨X, 1, none⟩ = some (S key) ∧ wx.cell? ⟨X, 2, none⟩ = some (.slice ap lp.length kp) ∧ wx.cell? ⟨X, 3, none⟩ = some (.int .i64 st) ∧ wx.cell? ⟨X, 4, none⟩ = some (.slice af lf.length kf) ∧ wx.cell? ⟨X, 5, none⟩ = some (S body) ∧ wx.cell? ⟨X, 6, none⟩ = some (.int .i64 asked) ∧ wx.cell? ⟨X, 7, none⟩ = some (.int .i64 came))) (by kernel_rfl) (hXB _ (But.refl _ _).drew) (fun hHeld => ?_)
        refine wpAnyH_take (i := 0) (v := ?_) (by rfl) (by kernel_rfl) (by kernel_rfl) (by kernel_rfl) (by exact fun _ _ _ h => h) (Or.inl ⟨by rfl, ?_⟩) hHeld ?_
        rotate_left
        · (intro w hSw; (try dsimp only at hSw); go_simp; try with_reducible rfl)
        simp only [Act.put, List.getElem_toArray, List.getElem_cons_succ, List.getElem_cons_zero, List.setIfInBounds_toArray, List.set_cons_zero, List.set_cons_succ]
        refine wpAnyH_take (i := 1) (v := ?_) (by rfl) (by kernel_rfl) (by kernel_rfl) (by kernel_rfl) (by exact fun _ _ _ h => h) (Or.inl ⟨by rfl, ?_⟩) hHeld ?_
        rotate_left
        · (intro w hSw; (try dsimp only at hSw); go_simp; try with_reducible rfl)
        simp only [Act.put, List.getElem_toArray, List.getElem_cons_succ, List.getElem_cons_zero, List.setIfInBounds_toArray, List.set_cons_zero, List.set_cons_succ]
        refine wpAnyH_take (i := 2) (v := ?_) (by rfl) (by kernel_rfl) (by kernel_rfl) (by kernel_rfl) (by exact fun _ _ _ h => h) (Or.inl ⟨by rfl, ?_⟩) hHeld ?_
        rotate_left
        · (intro w hSw; (try dsimp only at hSw); go_simp; try with_reducible rfl)
        simp only [Act.put, List.getElem_toArray, List.getElem_cons_succ, List.getElem_cons_zero, List.setIfInBounds_toArray, List.set_cons_zero, List.set_cons_succ]
        refine wpAnyH_take (i := 3) (v := ?_) (by rfl) (by kernel_rfl) (by kernel_rfl) (by kernel_rfl) (by exact fun _ _ _ h => h) (Or.inl ⟨by rfl, ?_⟩) hHeld ?_
        rotate_left
        · (intro w hSw; (try dsimp only at hSw); go_simp; try with_reducible rfl)
        simp only [Act.put, List.getElem_toArray, List.getElem_cons_succ, List.getElem_cons_zero, List.setIfInBounds_toArray, List.set_cons_zero, List.set_cons_succ]
        refine wpAnyH_take (i := 5) (v := ?_) (by rfl) (by kernel_rfl) (by kernel_rfl) (by kernel_rfl) (by exact fun _ _ _ h => h) (Or.inl ⟨by rfl, ?_⟩) hHeld ?_
        rotate_left
        · (intro w hSw; (try dsimp only at hSw); go_simp; try with_reducible rfl)
        simp only [Act.put, List.getElem_toArray, List.getElem_cons_succ, List.getElem_cons_zero, List.setIfInBounds_toArray, List.set_cons_zero, List.set_cons_succ]
        refine wpAnyH_take (i := 7) (v := ?_) (by rfl) (by kernel_rfl) (by kernel_rfl) (by kernel_rfl) (by exact fun _ _ _ h => h) (Or.inl ⟨by rfl, ?_⟩) hHeld ?_
        rotate_left
        · (intro w hSw; (try dsimp only at hSw); go_simp; try with_reducible rfl)
        simp only [Act.put, List.getElem_toArray, List.getElem_cons_succ, List.getElem_cons_zero, List.setIfInBounds_toArray, List.set_cons_zero, List.set_cons_succ]
        refine wpAnyH_ready (rs := [4, 8]) (by kernel_rfl) (by simp) ?_
        refine AllReadyH.cons (by rfl) (fun K hK => ?_) ?_
        ·
          go_simp
          skip
          refine hK.out _ _ (hXB _ (But.of_below (by first | exact (Below.refl _ _).drew | exact (Below.refl _ _).drew.alloc (Nat.le_refl _) _ | exact hw4 | exact hw4.alloc hw4.size _))) (fun hHeld => ?_)
          clear hK K
          try simp only [Act.put, List.getElem_toArray, List.getElem_cons_succ, List.getElem_cons_zero, List.setIfInBounds_toArray, List.set_cons_zero, List.set_cons_succ]
          refine wpAnyH_ready (rs := [6, 8]) (by kernel_rfl) (by simp) ?_
          refine AllReadyH.cons (by rfl) (fun K hK => ?_) ?_
          ·
            go_simp
            (refine (hWX.out _ (by first | exact Bl.tr hb3 (Below.refl _ _).drew | exact Bl.tr hb3 ((Below.refl _ _).drew.alloc (Nat.le_refl _) _))).mono ?_); rintro e w4 ⟨v4, rfl, ho4, hb4⟩; have ho4 := own_base ho4 (show w3.heap.size ≤ _ from by first | exact Nat.le_refl _ | (simp; done)); obtain ⟨a4, c4, hv4⟩ := row_form ho4; subst hv4; have hw4 : Below w3.heap.size w3 w4 := (by first | exact (Below.refl w3.heap.size w3).drew.trans hb4 | exact ((Below.refl w3.heap.size w3).drew.alloc (Nat.le_refl _) _).trans (hb4.mono (by simp)))
            refine hK.out _ _ (hXB _ (But.of_below (by first | exact (Below.refl _ _).drew | exact (Below.refl _ _).drew.alloc (Nat.le_refl _) _ | exact hw4 | exact hw4.alloc hw4.size _))) (fun hHeld => ?_)
            clear hK K
            try simp only [Act.put, List.getElem_toArray, List.getElem_cons_succ, List.getElem_cons_zero, List.setIfInBounds_toArray, List.set_cons_zero, List.set_cons_succ]
            refine wpAnyH_ready (rs := [8]) (by kernel_rfl) (by simp) ?_
            refine AllReadyH.cons (by rfl) (fun K hK => ?_) AllReadyH.nil
            go_simp
            skip
            refine hK.out _ _ (hXB _ (But.of_below (by first | exact (Below.refl _ _).drew | exact (Below.refl _ _).drew.alloc (Nat.le_refl _) _ | exact hw4 | exact hw4.alloc hw4.size _))) (fun hHeld => ?_)
            clear hK K
            try simp only [Act.put, List.getElem_toArray, List.getElem_cons_succ, List.getElem_cons_zero, List.setIfInBounds_toArray, List.set_cons_zero, List.set_cons_succ]
            refine wpAnyH_ready (rs := [9]) (by kernel_rfl) (by simp) ?_
            refine AllReadyH.cons (by rfl) (fun K hK => ?_) AllReadyH.nil
            (refine step_of ?_ (by rfl); refine wp_appG _ _ 30 rfl w3.heap.size 67 (.agg Itz) 8 112 Tryd.underlying30 (by kernel_rfl) rfl (by decide) _ _ _ rfl (by first | exact ho4.alloc _ | exact ho4) _ _ _ [.int .i64 eid, S key, .slice ap lp.length kp, .int .i64 st, .slice af lf.length kf, S body, .int .i64 asked, .int .i64 came] rfl (by first | exact Rd.lit w4 67 #[.int .i64 eid, S key, .slice ap lp.length kp, .int .i64 st, .slice af lf.length kf, S body, .int .i64 asked, .int .i64 came] 8 1 rfl (by decide) | exact ((Rd.lit w3.drew 67 #[.int .i64 eid, S key, .slice ap lp.length kp, .int .i64 st, .slice af lf.length kf, S body, .int .i64 asked, .int .i64 came] 8 1 rfl (by decide)).below hb4).mono hb4.size | exact Rd.mono (Rd.below (w := (w3.alloc (.cells #[.int .i64 eid, S key, .slice ap lp.length kp, .int .i64 st, .slice af lf.length kf, S body, .int .i64 asked, .int .i64 came] 67)).drew) (B := w3.heap.size + 1) (Rd.lit w3 67 #[.int .i64 eid, S key, .slice ap lp.length kp, .int .i64 st, .slice af lf.length kf, S body, .int .i64 asked, .int .i64 came] 8 1 rfl (by decide)) (hb4.mono (by show w3.heap.size + 1 ≤ (w3.alloc _).heap.size; simp))) (by have q : (w3.alloc (.cells #[.int .i64 eid, S key, .slice ap lp.length kp, .int .i64 st, .slice af lf.length kf, S body, .int .i64 asked, .int .i64 came] 67)).heap.size ≤ w4.heap.size := hb4.size; simpa using q)) h1n (by unfold maxLen; omega) (by omega) (by first | exact hw4.size | exact (hw4.alloc hw4.size _).size | (simp; done)) ?_; intro a5 c5 w5 hown5 hb5 hg5; have hw5 : Below w3.heap.size w3 w5 := (by first | exact (hw4.alloc hw4.size _).trans hb5 | exact hw4.trans hb5); have hr5' := hr3.below hw5; have z5' : w5.cell? ⟨r, 2, none⟩ = some (.slice (some ⟨b, off, none⟩) er.length c) := hr5'.blk.cell 2; have f5' := hr5'.blk.free 2)
            refine hK.out _ _ (hXB _ (But.of_below hw5)) (fun hHeld => ?_)
            clear hK K
            try simp only [Act.put, List.getElem_toArray, List.getElem_cons_succ, List.getElem_cons_zero, List.setIfInBounds_toArray, List.set_cons_zero, List.set_cons_succ]
            refine wpAnyH_take (i := 10) (v := ?_) (by rfl) (by kernel_rfl) (by kernel_rfl) (by kernel_rfl) (by exact fun _ _ _ h => h) (Or.inl ⟨by rfl, ?_⟩) hHeld ?_
            rotate_left
            · (intro w hSw; (try dsimp only at hSw); go_simp; try with_reducible rfl)
            simp only [Act.put, List.getElem_toArray, List.getElem_cons_succ, List.getElem_cons_zero, List.setIfInBounds_toArray, List.set_cons_zero, List.set_cons_succ]
            refine wpAnyH_take (i := 11) (v := ?_) (by rfl) (by kernel_rfl) (by kernel_rfl) (by kernel_rfl) (by exact fun _ _ _ h => h) (Or.inl ⟨by rfl, ?_⟩) hHeld ?_
            rotate_left
            · (intro w hSw; (try dsimp only at hSw); go_simp; try with_reducible rfl)
            simp only [Act.put, List.getElem_toArray, List.getElem_cons_succ, List.getElem_cons_zero, List.setIfInBounds_toArray, List.set_cons_zero, List.set_cons_succ]
            refine wpAnyH_ready (rs := [12]) (by kernel_rfl) (by simp) ?_
            refine AllReadyH.cons (by rfl) (fun K hK => ?_) AllReadyH.nil
            go_simp
            skip
            refine hK.out _ _ (hXB _ ((But.of_below (S := fun k => k = r) hw5).setCell (p := ⟨r, 2, none⟩) (.inl rfl) _)) (fun hHeld => ?_)
            clear hK K
            try simp only [Act.put, List.getElem_toArray, List.getElem_cons_succ, List.getElem_cons_zero, List.setIfInBounds_toArray, List.set_cons_zero, List.set_cons_succ]
            try simp only [Act.put, List.getElem_toArray, List.getElem_cons_succ, List.getElem_cons_zero, List.setIfInBounds_toArray, List.set_cons_zero, List.set_cons_succ]
            refine wpAnyH_done (by kernel_rfl) ?_ _
            have hrow5 : w5.ownsRow B 67 8 (.slice a5 (eo'.length + 1) c5) (eo' ++ [ej]).length (icells (eo' ++ [ej])) := by
              rw [icells_append, HND.out, List.length_append]
              exact own_base hown5 (Nat.le_of_lt hr3.at)
            have hr5 := hr3.below hw5
            have hX5 : Blk w5 X 67 #[.int .i64 eid, S key, .slice ap lp.length kp, .int .i64 st, .slice af lf.length kf, S body, .int .i64 asked, .int .i64 came] := hX3.on hw5
            have hZ5 := hZ3.on hw5
            have hr6 := hr5.row_set hrow5 (fun e' he => (hRi e' he).below hw5 (Nat.le_of_lt hr3.at)) (by
              have : costs ((eo' ++ [ej]).map Ev.x) = costs (eo'.map Ev.x) + ej.x.cost := by rw [List.map_append, costs_append]; simp [costs]
              rw [this]
              omega)
            obtain ⟨w6, e6⟩ : ∃ w6 : World, w6 = w5.setCell ⟨r, 2, none⟩ (.slice a5 (eo'.length + 1) c5) := ⟨_, rfl⟩
            have hbt6 : But (fun k => k = r) w5 w6 := by rw [e6]; exact (But.refl (fun k => k = r) _).setCell (p := ⟨r, 2, none⟩) (.inl rfl) _
            have hX6 := hX5.but hbt6 hXr
            have hZ6 := hZ5.but hbt6 (by omega)
            rw [← e6] at hr6 ⊢
            have hw6 : But (fun k => k = r) w w6 := ((But.of_below hw3).trans (But.of_below hw5)).trans hbt6
            clear hr5 hrow5 hbt6 hX5 hZ5 e6 hg5 hb5 hown5 ho4 hb4 hXB x2a x2b x2c x2d x2e h1n hRi hWX
            (have y0 : w6.cell? ⟨X, 0, none⟩ = some (.int .i64 eid) := hX6.cell 0; have y1 : w6.cell? ⟨X, 1, none⟩ = some (S key) := hX6.cell 1; have y2 : w6.cell? ⟨X, 2, none⟩ = some (.slice ap lp.length kp) := hX6.cell 2; have y3 : w6.cell? ⟨X, 3, none⟩ = some (.int .i64 st) := hX6.cell 3; have y4 : w6.cell? ⟨X, 4, none⟩ = some (.slice af lf.length kf) := hX6.cell 4; have y5 : w6.cell? ⟨X, 5, none⟩ = some (S body) := hX6.cell 5; have y6 : w6.cell? ⟨X, 6, none⟩ = some (.int .i64 asked) := hX6.cell 6; have y7 : w6.cell? ⟨X, 7, none⟩ = some (.int .i64 came) := hX6.cell 7)
            have u1 : w6.cell? ⟨X, 1 + 1, none⟩ = some (.slice ap lp.length kp) := y2
            have u2 : w6.cell? ⟨X, 1 + 2, none⟩ = some (.int .i64 st) := y3
            have u3 : w6.cell? ⟨X, 1 + 3, none⟩ = some (.slice af lf.length kf) := y4
            have u4 : w6.cell? ⟨X, 1 + 4, none⟩ = some (S body) := y5
            have u5 : w6.cell? ⟨X, 1 + 5, none⟩ = some (.int .i64 asked) := y6
            have u6 : w6.cell? ⟨X, 1 + 6, none⟩ = some (.int .i64 came) := y7
            (have z0 : w6.cell? ⟨Z, 0, none⟩ = some (S []) := hZ6.cell 0; have z1 : w6.cell? ⟨Z, 1, none⟩ = some (.slice none 0 0) := hZ6.cell 1; have z2 : w6.cell? ⟨Z, 2, none⟩ = some (.int .i64 0) := hZ6.cell 2; have z3 : w6.cell? ⟨Z, 3, none⟩ = some (.slice none 0 0) := hZ6.cell 3; have z4 : w6.cell? ⟨Z, 4, none⟩ = some (S []) := hZ6.cell 4; have z5 : w6.cell? ⟨Z, 5, none⟩ = some (.int .i64 0) := hZ6.cell 5; have z6 : w6.cell? ⟨Z, 6, none⟩ = some (.int .i64 0) := hZ6.cell 6)
            have f0 := hZ6.free 0
            have f1 := hZ6.free 1
            have f2 := hZ6.free 2
            have f3 := hZ6.free 3
            have f4 := hZ6.free 4
            have f5 := hZ6.free 5
            have f6 := hZ6.free 6
            have hX6B : ∀ wx, But (fun k => k = Z) w6 wx → wx.cell? ⟨X, 0, none⟩ = some (.int .i64 eid) ∧ wx.cell? ⟨X, 1, none⟩ = some (S key) ∧ wx.cell? ⟨X, 1 + 1, none⟩ = some (.slice ap lp.length kp) ∧ wx.cell? ⟨X, 1 + 2, none⟩ = some (.int .i64 st) ∧ wx.cell? ⟨X, 1 + 3, none⟩ = some (.slice af lf.length kf) ∧ wx.cell? ⟨X, 1 + 4, none⟩ = some (S body) ∧ wx.cell? ⟨X, 1 + 5, none⟩ = some (.int .i64 asked) ∧ wx.cell? ⟨X, 1 + 6, none⟩ = some (.int .i64 came) := fun wx hb => ⟨(hX6.but hb hXZ).cell 0, (hX6.but hb hXZ).cell 1, (hX6.but hb hXZ).cell 2, (hX6.but hb hXZ).cell 3, (hX6.but hb hXZ).cell 4, (hX6.but hb hXZ).cell 5, (hX6.but hb hXZ).cell 6, (hX6.but hb hXZ).cell 7⟩
            have hr7 := (hr6.zput hZ6 hBZ (S key) (.slice ap lp.length kp) (.int .i64 st) (.slice af lf.length kf) (S body) (.int .i64 asked) (.int .i64 came)).drew
            have hB7 := (hZ6.put7 (S key) (.slice ap lp.length kp) (.int .i64 st) (.slice af lf.length kf) (S body) (.int .i64 asked) (.int .i64 came)).drew
            have hb7 := (put7_but (g := Z) hw6 (Nat.le_of_eq HZ.out.symm) (S key) (.slice ap lp.length kp) (.int .i64 st) (.slice af lf.length kf) (S body) (.int .i64 asked) (.int .i64 came)).drew
            have hq7 := (put7_one w6 Z (S key) (.slice ap lp.length kp) (.int .i64 st) (.slice af lf.length kf) (S body) (.int .i64 asked) (.int .i64 came)).drew
            clear hw6 hX6 hr6 hw5 hr5' z5' f5' hmem
            go_wp2_with fail
            refine wp_region_held_drew (S := (fun wx => wx.cell? ⟨X, 0, none⟩ = some (.int .i64 eid) ∧ wx.cell? ⟨X, 1, none⟩ = some (S key) ∧ wx.cell? ⟨X, 1 + 1, none⟩ = some (.slice ap lp.length kp) ∧ wx.cell? ⟨X, 1 + 2, none⟩ = some (.int .i64 st) ∧ wx.cell? ⟨X, 1 + 3, none⟩ = some (.slice af lf.length kf) ∧ wx.cell? ⟨X, 1 + 4, none⟩ = some (S body) ∧ wx.cell? ⟨X, 1 + 5, none⟩ = some (.int .i64 asked) ∧ wx.cell? ⟨X, 1 + 6, none⟩ = some (.int .i64 came))) (by kernel_rfl) (hX6B _ (But.refl _ _).drew) (fun hHeld => ?_)
            refine wpAnyH_take (i := 0) (v := ?_) (by rfl) (by kernel_rfl) (by kernel_rfl) (by kernel_rfl) (by exact fun _ _ _ h => h) (Or.inl ⟨by rfl, ?_⟩) hHeld ?_
            rotate_left
            · (intro w hSw; (try dsimp only at hSw); go_simp; try with_reducible rfl)
            simp only [Act.put, List.getElem_toArray, List.getElem_cons_succ, List.getElem_cons_zero, List.setIfInBounds_toArray, List.set_cons_zero, List.set_cons_succ]
            refine wpAnyH_take (i := 1) (v := ?_) (by rfl) (by kernel_rfl) (by kernel_rfl) (by kernel_rfl) (by exact fun _ _ _ h => h) (Or.inl ⟨by rfl, ?_⟩) hHeld ?_
            rotate_left
            · (intro w hSw; (try dsimp only at hSw); go_simp; try with_reducible rfl)
            simp only [Act.put, List.getElem_toArray, List.getElem_cons_succ, List.getElem_cons_zero, List.setIfInBounds_toArray, List.set_cons_zero, List.set_cons_succ]
            refine wpAnyH_take (i := 2) (v := ?_) (by rfl) (by kernel_rfl) (by kernel_rfl) (by kernel_rfl) (by exact fun _ _ _ h => h) (Or.inl ⟨by rfl, ?_⟩) hHeld ?_
            rotate_left
            · (intro w hSw; (try dsimp only at hSw); go_simp; try with_reducible rfl)
            simp only [Act.put, List.getElem_toArray, List.getElem_cons_succ, List.getElem_cons_zero, List.setIfInBounds_toArray, List.set_cons_zero, List.set_cons_succ]
            refine wpAnyH_take (i := 3) (v := ?_) (by rfl) (by kernel_rfl) (by kernel_rfl) (by kernel_rfl) (by exact fun _ _ _ h => h) (Or.inl ⟨by rfl, ?_⟩) hHeld ?_
            rotate_left
            · (intro w hSw; (try dsimp only at hSw); go_simp; try with_reducible rfl)
            simp only [Act.put, List.getElem_toArray, List.getElem_cons_succ, List.getElem_cons_zero, List.setIfInBounds_toArray, List.set_cons_zero, List.set_cons_succ]
            refine wpAnyH_ready (rs := [4]) (by kernel_rfl) (by simp) ?_
            refine AllReadyH.cons (by rfl) (fun K hK => ?_) AllReadyH.nil
            go_simp
            skip
            refine hK.out _ _ (hX6B _ hq7) (fun hHeld => ?_)
            clear hK K
            try simp only [Act.put, List.getElem_toArray, List.getElem_cons_succ, List.getElem_cons_zero, List.setIfInBounds_toArray, List.set_cons_zero, List.set_cons_succ]
            refine wpAnyH_take (i := 5) (v := ?_) (by rfl) (by kernel_rfl) (by kernel_rfl) (by kernel_rfl) (by exact fun _ _ _ h => h) (Or.inl ⟨by rfl, ?_⟩) hHeld ?_
            rotate_left
            · (intro w hSw; (try dsimp only at hSw); go_simp; try with_reducible rfl)
            simp only [Act.put, List.getElem_toArray, List.getElem_cons_succ, List.getElem_cons_zero, List.setIfInBounds_toArray, List.set_cons_zero, List.set_cons_succ]
            refine wpAnyH_take (i := 6) (v := ?_) (by rfl) (by kernel_rfl) (by kernel_rfl) (by kernel_rfl) (by exact fun _ _ _ h => h) (Or.inl ⟨by rfl, ?_⟩) hHeld ?_
            rotate_left
            · (intro w hSw; (try dsimp only at hSw); go_simp; try with_reducible rfl)
            simp only [Act.put, List.getElem_toArray, List.getElem_cons_succ, List.getElem_cons_zero, List.setIfInBounds_toArray, List.set_cons_zero, List.set_cons_succ]
            try simp only [Act.put, List.getElem_toArray, List.getElem_cons_succ, List.getElem_cons_zero, List.setIfInBounds_toArray, List.set_cons_zero, List.set_cons_succ]
            refine wpAnyH_done (by kernel_rfl) ?_ _
            go_wp2
            refine ret_findR (b := Z) (i := eid) (c := true) ?_ ?_ ?_ hB7 ?_
            · rfl
            · rfl
            · rfl
            · rw [HPO2.out]
              refine ⟨hj, by rw [← HE.out]; rfl, ⟨.slice a5 (eo'.length + 1) c5, ?_⟩, hb7⟩
              rw [← HEO.out, ← HEJ.out]
              exact hr7
          refine AllReadyH.cons (by rfl) (fun K hK => ?_) AllReadyH.nil
          go_simp
          skip
          refine hK.out _ _ (hXB _ (But.of_below (by first | exact (Below.refl _ _).drew | exact (Below.refl _ _).drew.alloc (Nat.le_refl _) _ | exact hw4 | exact hw4.alloc hw4.size _))) (fun hHeld => ?_)
          clear hK K
          try simp only [Act.put, List.getElem_toArray, List.getElem_cons_succ, List.getElem_cons_zero, List.setIfInBounds_toArray, List.set_cons_zero, List.set_cons_succ]
          refine wpAnyH_ready (rs := [6]) (by kernel_rfl) (by simp) ?_
          refine AllReadyH.cons (by rfl) (fun K hK => ?_) AllReadyH.nil
          go_simp
          (refine (hWX.out _ (by first | exact Bl.tr hb3 (Below.refl _ _).drew | exact Bl.tr hb3 ((Below.refl _ _).drew.alloc (Nat.le_refl _) _))).mono ?_); rintro e w4 ⟨v4, rfl, ho4, hb4⟩; have ho4 := own_base ho4 (show w3.heap.size ≤ _ from by first | exact Nat.le_refl _ | (simp; done)); obtain ⟨a4, c4, hv4⟩ := row_form ho4; subst hv4; have hw4 : Below w3.heap.size w3 w4 := (by first | exact (Below.refl w3.heap.size w3).drew.trans hb4 | exact ((Below.refl w3.heap.size w3).drew.alloc (Nat.le_refl _) _).trans (hb4.mono (by simp)))
          refine hK.out _ _ (hXB _ (But.of_below (by first | exact (Below.refl _ _).drew | exact (Below.refl _ _).drew.alloc (Nat.le_refl _) _ | exact hw4 | exact hw4.alloc hw4.size _))) (fun hHeld => ?_)
          clear hK K
          try simp only [Act.put, List.getElem_toArray, List.getElem_cons_succ, List.getElem_cons_zero, List.setIfInBounds_toArray, List.set_cons_zero, List.set_cons_succ]
          refine wpAnyH_ready (rs := [9]) (by kernel_rfl) (by simp) ?_
          refine AllReadyH.cons (by rfl) (fun K hK => ?_) AllReadyH.nil
          (refine step_of ?_ (by rfl); refine wp_appG _ _ 30 rfl w3.heap.size 67 (.agg Itz) 8 112 Tryd.underlying30 (by kernel_rfl) rfl (by decide) _ _ _ rfl (by first | exact ho4.alloc _ | exact ho4) _ _ _ [.int .i64 eid, S key, .slice ap lp.length kp, .int .i64 st, .slice af lf.length kf, S body, .int .i64 asked, .int .i64 came] rfl (by first | exact Rd.lit w4 67 #[.int .i64 eid, S key, .slice ap lp.length kp, .int .i64 st, .slice af lf.length kf, S body, .int .i64 asked, .int .i64 came] 8 1 rfl (by decide) | exact ((Rd.lit w3.drew 67 #[.int .i64 eid, S key, .slice ap lp.length kp, .int .i64 st, .slice af lf.length kf, S body, .int .i64 asked, .int .i64 came] 8 1 rfl (by decide)).below hb4).mono hb4.size | exact Rd.mono (Rd.below (w := (w3.alloc (.cells #[.int .i64 eid, S key, .slice ap lp.length kp, .int .i64 st, .slice af lf.length kf, S body, .int .i64 asked, .int .i64 came] 67)).drew) (B := w3.heap.size + 1) (Rd.lit w3 67 #[.int .i64 eid, S key, .slice ap lp.length kp, .int .i64 st, .slice af lf.length kf, S body, .int .i64 asked, .int .i64 came] 8 1 rfl (by decide)) (hb4.mono (by show w3.heap.size + 1 ≤ (w3.alloc _).heap.size; simp))) (by have q : (w3.alloc (.cells #[.int .i64 eid, S key, .slice ap lp.length kp, .int .i64 st, .slice af lf.length kf, S body, .int .i64 asked, .int .i64 came] 67)).heap.size ≤ w4.heap.size := hb4.size; simpa using q)) h1n (by unfold maxLen; omega) (by omega) (by first | exact hw4.size | exact (hw4.alloc hw4.size _).size | (simp; done)) ?_; intro a5 c5 w5 hown5 hb5 hg5; have hw5 : Below w3.heap.size w3 w5 := (by first | exact (hw4.alloc hw4.size _).trans hb5 | exact hw4.trans hb5); have hr5' := hr3.below hw5; have z5' : w5.cell? ⟨r, 2, none⟩ = some (.slice (some ⟨b, off, none⟩) er.length c) := hr5'.blk.cell 2; have f5' := hr5'.blk.free 2)
          refine hK.out _ _ (hXB _ (But.of_below hw5)) (fun hHeld => ?_)
          clear hK K
          try simp only [Act.put, List.getElem_toArray, List.getElem_cons_succ, List.getElem_cons_zero, List.setIfInBounds_toArray, List.set_cons_zero, List.set_cons_succ]
          refine wpAnyH_take (i := 10) (v := ?_) (by rfl) (by kernel_rfl) (by kernel_rfl) (by kernel_rfl) (by exact fun _ _ _ h => h) (Or.inl ⟨by rfl, ?_⟩) hHeld ?_
          rotate_left
          · (intro w hSw; (try dsimp only at hSw); go_simp; try with_reducible rfl)
          simp only [Act.put, List.getElem_toArray, List.getElem_cons_succ, List.getElem_cons_zero, List.setIfInBounds_toArray, List.set_cons_zero, List.set_cons_succ]
          refine wpAnyH_take (i := 11) (v := ?_) (by rfl) (by kernel_rfl) (by kernel_rfl) (by kernel_rfl) (by exact fun _ _ _ h => h) (Or.inl ⟨by rfl, ?_⟩) hHeld ?_
          rotate_left
          · (intro w hSw; (try dsimp only at hSw); go_simp; try with_reducible rfl)
          simp only [Act.put, List.getElem_toArray, List.getElem_cons_succ, List.getElem_cons_zero, List.setIfInBounds_toArray, List.set_cons_zero, List.set_cons_succ]
          refine wpAnyH_ready (rs := [12]) (by kernel_rfl) (by simp) ?_
          refine AllReadyH.cons (by rfl) (fun K hK => ?_) AllReadyH.nil
          go_simp
          skip
          refine hK.out _ _ (hXB _ ((But.of_below (S := fun k => k = r) hw5).setCell (p := ⟨r, 2, none⟩) (.inl rfl) _)) (fun hHeld => ?_)
          clear hK K
          try simp only [Act.put, List.getElem_toArray, List.getElem_cons_succ, List.getElem_cons_zero, List.setIfInBounds_toArray, List.set_cons_zero, List.set_cons_succ]
          try simp only [Act.put, List.getElem_toArray, List.getElem_cons_succ, List.getElem_cons_zero, List.setIfInBounds_toArray, List.set_cons_zero, List.set_cons_succ]
          refine wpAnyH_done (by kernel_rfl) ?_ _
          have hrow5 : w5.ownsRow B 67 8 (.slice a5 (eo'.length + 1) c5) (eo' ++ [ej]).length (icells (eo' ++ [ej])) := by
            rw [icells_append, HND.out, List.length_append]
            exact own_base hown5 (Nat.le_of_lt hr3.at)
          have hr5 := hr3.below hw5
          have hX5 : Blk w5 X 67 #[.int .i64 eid, S key, .slice ap lp.length kp, .int .i64 st, .slice af lf.length kf, S body, .int .i64 asked, .int .i64 came] := hX3.on hw5
          have hZ5 := hZ3.on hw5
          have hr6 := hr5.row_set hrow5 (fun e' he => (hRi e' he).below hw5 (Nat.le_of_lt hr3.at)) (by
            have : costs ((eo' ++ [ej]).map Ev.x) = costs (eo'.map Ev.x) + ej.x.cost := by rw [List.map_append, costs_append]; simp [costs]
            rw [this]
            omega)
          obtain ⟨w6, e6⟩ : ∃ w6 : World, w6 = w5.setCell ⟨r, 2, none⟩ (.slice a5 (eo'.length + 1) c5) := ⟨_, rfl⟩
          have hbt6 : But (fun k => k = r) w5 w6 := by rw [e6]; exact (But.refl (fun k => k = r) _).setCell (p := ⟨r, 2, none⟩) (.inl rfl) _
          have hX6 := hX5.but hbt6 hXr
          have hZ6 := hZ5.but hbt6 (by omega)
          rw [← e6] at hr6 ⊢
          have hw6 : But (fun k => k = r) w w6 := ((But.of_below hw3).trans (But.of_below hw5)).trans hbt6
          clear hr5 hrow5 hbt6 hX5 hZ5 e6 hg5 hb5 hown5 ho4 hb4 hXB x2a x2b x2c x2d x2e h1n hRi hWX
          (have y0 : w6.cell? ⟨X, 0, none⟩ = some (.int .i64 eid) := hX6.cell 0; have y1 : w6.cell? ⟨X, 1, none⟩ = some (S key) := hX6.cell 1; have y2 : w6.cell? ⟨X, 2, none⟩ = some (.slice ap lp.length kp) := hX6.cell 2; have y3 : w6.cell? ⟨X, 3, none⟩ = some (.int .i64 st) := hX6.cell 3; have y4 : w6.cell? ⟨X, 4, none⟩ = some (.slice af lf.length kf) := hX6.cell 4; have y5 : w6.cell? ⟨X, 5, none⟩ = some (S body) := hX6.cell 5; have y6 : w6.cell? ⟨X, 6, none⟩ = some (.int .i64 asked) := hX6.cell 6; have y7 : w6.cell? ⟨X, 7, none⟩ = some (.int .i64 came) := hX6.cell 7)
          have u1 : w6.cell? ⟨X, 1 + 1, none⟩ = some (.slice ap lp.length kp) := y2
          have u2 : w6.cell? ⟨X, 1 + 2, none⟩ = some (.int .i64 st) := y3
          have u3 : w6.cell? ⟨X, 1 + 3, none⟩ = some (.slice af lf.length kf) := y4
          have u4 : w6.cell? ⟨X, 1 + 4, none⟩ = some (S body) := y5
          have u5 : w6.cell? ⟨X, 1 + 5, none⟩ = some (.int .i64 asked) := y6
          have u6 : w6.cell? ⟨X, 1 + 6, none⟩ = some (.int .i64 came) := y7
          (have z0 : w6.cell? ⟨Z, 0, none⟩ = some (S []) := hZ6.cell 0; have z1 : w6.cell? ⟨Z, 1, none⟩ = some (.slice none 0 0) := hZ6.cell 1; have z2 : w6.cell? ⟨Z, 2, none⟩ = some (.int .i64 0) := hZ6.cell 2; have z3 : w6.cell? ⟨Z, 3, none⟩ = some (.slice none 0 0) := hZ6.cell 3; have z4 : w6.cell? ⟨Z, 4, none⟩ = some (S []) := hZ6.cell 4; have z5 : w6.cell? ⟨Z, 5, none⟩ = some (.int .i64 0) := hZ6.cell 5; have z6 : w6.cell? ⟨Z, 6, none⟩ = some (.int .i64 0) := hZ6.cell 6)
          have f0 := hZ6.free 0
          have f1 := hZ6.free 1
          have f2 := hZ6.free 2
          have f3 := hZ6.free 3
          have f4 := hZ6.free 4
          have f5 := hZ6.free 5
          have f6 := hZ6.free 6
          have hX6B : ∀ wx, But (fun k => k = Z) w6 wx → wx.cell? ⟨X, 0, none⟩ = some (.int .i64 eid) ∧ wx.cell? ⟨X, 1, none⟩ = some (S key) ∧ wx.cell? ⟨X, 1 + 1, none⟩ = some (.slice ap lp.length kp) ∧ wx.cell? ⟨X, 1 + 2, none⟩ = some (.int .i64 st) ∧ wx.cell? ⟨X, 1 + 3, none⟩ = some (.slice af lf.length kf) ∧ wx.cell? ⟨X, 1 + 4, none⟩ = some (S body) ∧ wx.cell? ⟨X, 1 + 5, none⟩ = some (.int .i64 asked) ∧ wx.cell? ⟨X, 1 + 6, none⟩ = some (.int .i64 came) := fun wx hb => ⟨(hX6.but hb hXZ).cell 0, (hX6.but hb hXZ).cell 1, (hX6.but hb hXZ).cell 2, (hX6.but hb hXZ).cell 3, (hX6.but hb hXZ).cell 4, (hX6.but hb hXZ).cell 5, (hX6.but hb hXZ).cell 6, (hX6.but hb hXZ).cell 7⟩
          have hr7 := (hr6.zput hZ6 hBZ (S key) (.slice ap lp.length kp) (.int .i64 st) (.slice af lf.length kf) (S body) (.int .i64 asked) (.int .i64 came)).drew
          have hB7 := (hZ6.put7 (S key) (.slice ap lp.length kp) (.int .i64 st) (.slice af lf.length kf) (S body) (.int .i64 asked) (.int .i64 came)).drew
          have hb7 := (put7_but (g := Z) hw6 (Nat.le_of_eq HZ.out.symm) (S key) (.slice ap lp.length kp) (.int .i64 st) (.slice af lf.length kf) (S body) (.int .i64 asked) (.int .i64 came)).drew
          have hq7 := (put7_one w6 Z (S key) (.slice ap lp.length kp) (.int .i64 st) (.slice af lf.length kf) (S body) (.int .i64 asked) (.int .i64 came)).drew
          clear hw6 hX6 hr6 hw5 hr5' z5' f5' hmem
          go_wp2_with fail
          refine wp_region_held_drew (S := (fun wx => wx.cell? ⟨X, 0, none⟩ = some (.int .i64 eid) ∧ wx.cell? ⟨X, 1, none⟩ = some (S key) ∧ wx.cell? ⟨X, 1 + 1, none⟩ = some (.slice ap lp.length kp) ∧ wx.cell? ⟨X, 1 + 2, none⟩ = some (.int .i64 st) ∧ wx.cell? ⟨X, 1 + 3, none⟩ = some (.slice af lf.length kf) ∧ wx.cell? ⟨X, 1 + 4, none⟩ = some (S body) ∧ wx.cell? ⟨X, 1 + 5, none⟩ = some (.int .i64 asked) ∧ wx.cell? ⟨X, 1 + 6, none⟩ = some (.int .i64 came))) (by kernel_rfl) (hX6B _ (But.refl _ _).drew) (fun hHeld => ?_)
          refine wpAnyH_take (i := 0) (v := ?_) (by rfl) (by kernel_rfl) (by kernel_rfl) (by kernel_rfl) (by exact fun _ _ _ h => h) (Or.inl ⟨by rfl, ?_⟩) hHeld ?_
          rotate_left
          · (intro w hSw; (try dsimp only at hSw); go_simp; try with_reducible rfl)
          simp only [Act.put, List.getElem_toArray, List.getElem_cons_succ, List.getElem_cons_zero, List.setIfInBounds_toArray, List.set_cons_zero, List.set_cons_succ]
          refine wpAnyH_take (i := 1) (v := ?_) (by rfl) (by kernel_rfl) (by kernel_rfl) (by kernel_rfl) (by exact fun _ _ _ h => h) (Or.inl ⟨by rfl, ?_⟩) hHeld ?_
          rotate_left
          · (intro w hSw; (try dsimp only at hSw); go_simp; try with_reducible rfl)
          simp only [Act.put, List.getElem_toArray, List.getElem_cons_succ, List.getElem_cons_zero, List.setIfInBounds_toArray, List.set_cons_zero, List.set_cons_succ]
          refine wpAnyH_take (i := 2) (v := ?_) (by rfl) (by kernel_rfl) (by kernel_rfl) (by kernel_rfl) (by exact fun _ _ _ h => h) (Or.inl ⟨by rfl, ?_⟩) hHeld ?_
          rotate_left
          · (intro w hSw; (try dsimp only at hSw); go_simp; try with_reducible rfl)
          simp only [Act.put, List.getElem_toArray, List.getElem_cons_succ, List.getElem_cons_zero, List.setIfInBounds_toArray, List.set_cons_zero, List.set_cons_succ]
          refine wpAnyH_take (i := 3) (v := ?_) (by rfl) (by kernel_rfl) (by kernel_rfl) (by kernel_rfl) (by exact fun _ _ _ h => h) (Or.inl ⟨by rfl, ?_⟩) hHeld ?_
          rotate_left
          · (intro w hSw; (try dsimp only at hSw); go_simp; try with_reducible rfl)
          simp only [Act.put, List.getElem_toArray, List.getElem_cons_succ, List.getElem_cons_zero, List.setIfInBounds_toArray, List.set_cons_zero, List.set_cons_succ]
          refine wpAnyH_ready (rs := [4]) (by kernel_rfl) (by simp) ?_
          refine AllReadyH.cons (by rfl) (fun K hK => ?_) AllReadyH.nil
          go_simp
          skip
          refine hK.out _ _ (hX6B _ hq7) (fun hHeld => ?_)
          clear hK K
          try simp only [Act.put, List.getElem_toArray, List.getElem_cons_succ, List.getElem_cons_zero, List.setIfInBounds_toArray, List.set_cons_zero, List.set_cons_succ]
          refine wpAnyH_take (i := 5) (v := ?_) (by rfl) (by kernel_rfl) (by kernel_rfl) (by kernel_rfl) (by exact fun _ _ _ h => h) (Or.inl ⟨by rfl, ?_⟩) hHeld ?_
          rotate_left
          · (intro w hSw; (try dsimp only at hSw); go_simp; try with_reducible rfl)
          simp only [Act.put, List.getElem_toArray, List.getElem_cons_succ, List.getElem_cons_zero, List.setIfInBounds_toArray, List.set_cons_zero, List.set_cons_succ]
          refine wpAnyH_take (i := 6) (v := ?_) (by rfl) (by kernel_rfl) (by kernel_rfl) (by kernel_rfl) (by exact fun _ _ _ h => h) (Or.inl ⟨by rfl, ?_⟩) hHeld ?_
          rotate_left
          · (intro w hSw; (try dsimp only at hSw); go_simp; try with_reducible rfl)
          simp only [Act.put, List.getElem_toArray, List.getElem_cons_succ, List.getElem_cons_zero, List.setIfInBounds_toArray, List.set_cons_zero, List.set_cons_succ]
          try simp only [Act.put, List.getElem_toArray, List.getElem_cons_succ, List.getElem_cons_zero, List.setIfInBounds_toArray, List.set_cons_zero, List.set_cons_succ]
          refine wpAnyH_done (by kernel_rfl) ?_ _
          go_wp2
          refine ret_findR (b := Z) (i := eid) (c := true) ?_ ?_ ?_ hB7 ?_
          · rfl
          · rfl
          · rfl
          · rw [HPO2.out]
            refine ⟨hj, by rw [← HE.out]; rfl, ⟨.slice a5 (eo'.length + 1) c5, ?_⟩, hb7⟩
            rw [← HEO.out, ← HEJ.out]
            exact hr7
        refine AllReadyH.cons (by rfl) (fun K hK => ?_) AllReadyH.nil
        go_simp
        skip
        refine hK.out _ _ (hXB _ (But.of_below (by first | exact (Below.refl _ _).drew | exact (Below.refl _ _).drew.alloc (Nat.le_refl _) _ | exact hw4 | exact hw4.alloc hw4.size _))) (fun hHeld => ?_)
        clear hK K
        try simp only [Act.put, List.getElem_toArray, List.getElem_cons_succ, List.getElem_cons_zero, List.setIfInBounds_toArray, List.set_cons_zero, List.set_cons_succ]
        refine wpAnyH_ready (rs := [4]) (by kernel_rfl) (by simp) ?_
        refine AllReadyH.cons (by rfl) (fun K hK => ?_) AllReadyH.nil
        go_simp
        skip
        refine hK.out _ _ (hXB _ (But.of_below (by first | exact (Below.refl _ _).drew | exact (Below.refl _ _).drew.alloc (Nat.le_refl _) _ | exact hw4 | exact hw4.alloc hw4.size _))) (fun hHeld => ?_)
        clear hK K
        try simp only [Act.put, List.getElem_toArray, List.getElem_cons_succ, List.getElem_cons_zero, List.setIfInBounds_toArray, List.set_cons_zero, List.set_cons_succ]
        refine wpAnyH_ready (rs := [6]) (by kernel_rfl) (by simp) ?_
        refine AllReadyH.cons (by rfl) (fun K hK => ?_) AllReadyH.nil
        go_simp
        (refine (hWX.out _ (by first | exact Bl.tr hb3 (Below.refl _ _).drew | exact Bl.tr hb3 ((Below.refl _ _).drew.alloc (Nat.le_refl _) _))).mono ?_); rintro e w4 ⟨v4, rfl, ho4, hb4⟩; have ho4 := own_base ho4 (show w3.heap.size ≤ _ from by first | exact Nat.le_refl _ | (simp; done)); obtain ⟨a4, c4, hv4⟩ := row_form ho4; subst hv4; have hw4 : Below w3.heap.size w3 w4 := (by first | exact (Below.refl w3.heap.size w3).drew.trans hb4 | exact ((Below.refl w3.heap.size w3).drew.alloc (Nat.le_refl _) _).trans (hb4.mono (by simp)))
        refine hK.out _ _ (hXB _ (But.of_below (by first | exact (Below.refl _ _).drew | exact (Below.refl _ _).drew.alloc (Nat.le_refl _) _ | exact hw4 | exact hw4.alloc hw4.size _))) (fun hHeld => ?_)
        clear hK K
        try simp only [Act.put, List.getElem_toArray, List.getElem_cons_succ, List.getElem_cons_zero, List.setIfInBounds_toArray, List.set_cons_zero, List.set_cons_succ]
        refine wpAnyH_ready (rs := [9]) (by kernel_rfl) (by simp) ?_
        refine AllReadyH.cons (by rfl) (fun K hK => ?_) AllReadyH.nil
        (refine step_of ?_ (by rfl); refine wp_appG _ _ 30 rfl w3.heap.size 67 (.agg Itz) 8 112 Tryd.underlying30 (by kernel_rfl) rfl (by decide) _ _ _ rfl (by first | exact ho4.alloc _ | exact ho4) _ _ _ [.int .i64 eid, S key, .slice ap lp.length kp, .int .i64 st, .slice af lf.length kf, S body, .int .i64 asked, .int .i64 came] rfl (by first | exact Rd.lit w4 67 #[.int .i64 eid, S key, .slice ap lp.length kp, .int .i64 st, .slice af lf.length kf, S body, .int .i64 asked, .int .i64 came] 8 1 rfl (by decide) | exact ((Rd.lit w3.drew 67 #[.int .i64 eid, S key, .slice ap lp.length kp, .int .i64 st, .slice af lf.length kf, S body, .int .i64 asked, .int .i64 came] 8 1 rfl (by decide)).below hb4).mono hb4.size | exact Rd.mono (Rd.below (w := (w3.alloc (.cells #[.int .i64 eid, S key, .slice ap lp.length kp, .int .i64 st, .slice af lf.length kf, S body, .int .i64 asked, .int .i64 came] 67)).drew) (B := w3.heap.size + 1) (Rd.lit w3 67 #[.int .i64 eid, S key, .slice ap lp.length kp, .int .i64 st, .slice af lf.length kf, S body, .int .i64 asked, .int .i64 came] 8 1 rfl (by decide)) (hb4.mono (by show w3.heap.size + 1 ≤ (w3.alloc _).heap.size; simp))) (by have q : (w3.alloc (.cells #[.int .i64 eid, S key, .slice ap lp.length kp, .int .i64 st, .slice af lf.length kf, S body, .int .i64 asked, .int .i64 came] 67)).heap.size ≤ w4.heap.size := hb4.size; simpa using q)) h1n (by unfold maxLen; omega) (by omega) (by first | exact hw4.size | exact (hw4.alloc hw4.size _).size | (simp; done)) ?_; intro a5 c5 w5 hown5 hb5 hg5; have hw5 : Below w3.heap.size w3 w5 := (by first | exact (hw4.alloc hw4.size _).trans hb5 | exact hw4.trans hb5); have hr5' := hr3.below hw5; have z5' : w5.cell? ⟨r, 2, none⟩ = some (.slice (some ⟨b, off, none⟩) er.length c) := hr5'.blk.cell 2; have f5' := hr5'.blk.free 2)
        refine hK.out _ _ (hXB _ (But.of_below hw5)) (fun hHeld => ?_)
        clear hK K
        try simp only [Act.put, List.getElem_toArray, List.getElem_cons_succ, List.getElem_cons_zero, List.setIfInBounds_toArray, List.set_cons_zero, List.set_cons_succ]
        refine wpAnyH_take (i := 10) (v := ?_) (by rfl) (by kernel_rfl) (by kernel_rfl) (by kernel_rfl) (by exact fun _ _ _ h => h) (Or.inl ⟨by rfl, ?_⟩) hHeld ?_
        rotate_left
        · (intro w hSw; (try dsimp only at hSw); go_simp; try with_reducible rfl)
        simp only [Act.put, List.getElem_toArray, List.getElem_cons_succ, List.getElem_cons_zero, List.setIfInBounds_toArray, List.set_cons_zero, List.set_cons_succ]
        refine wpAnyH_take (i := 11) (v := ?_) (by rfl) (by kernel_rfl) (by kernel_rfl) (by kernel_rfl) (by exact fun _ _ _ h => h) (Or.inl ⟨by rfl, ?_⟩) hHeld ?_
        rotate_left
        · (intro w hSw; (try dsimp only at hSw); go_simp; try with_reducible rfl)
        simp only [Act.put, List.getElem_toArray, List.getElem_cons_succ, List.getElem_cons_zero, List.setIfInBounds_toArray, List.set_cons_zero, List.set_cons_succ]
        refine wpAnyH_ready (rs := [12]) (by kernel_rfl) (by simp) ?_
        refine AllReadyH.cons (by rfl) (fun K hK => ?_) AllReadyH.nil
        go_simp
        skip
        refine hK.out _ _ (hXB _ ((But.of_below (S := fun k => k = r) hw5).setCell (p := ⟨r, 2, none⟩) (.inl rfl) _)) (fun hHeld => ?_)
        clear hK K
        try simp only [Act.put, List.getElem_toArray, List.getElem_cons_succ, List.getElem_cons_zero, List.setIfInBounds_toArray, List.set_cons_zero, List.set_cons_succ]
        try simp only [Act.put, List.getElem_toArray, List.getElem_cons_succ, List.getElem_cons_zero, List.setIfInBounds_toArray, List.set_cons_zero, List.set_cons_succ]
        refine wpAnyH_done (by kernel_rfl) ?_ _
        have hrow5 : w5.ownsRow B 67 8 (.slice a5 (eo'.length + 1) c5) (eo' ++ [ej]).length (icells (eo' ++ [ej])) := by
          rw [icells_append, HND.out, List.length_append]
          exact own_base hown5 (Nat.le_of_lt hr3.at)
        have hr5 := hr3.below hw5
        have hX5 : Blk w5 X 67 #[.int .i64 eid, S key, .slice ap lp.length kp, .int .i64 st, .slice af lf.length kf, S body, .int .i64 asked, .int .i64 came] := hX3.on hw5
        have hZ5 := hZ3.on hw5
        have hr6 := hr5.row_set hrow5 (fun e' he => (hRi e' he).below hw5 (Nat.le_of_lt hr3.at)) (by
          have : costs ((eo' ++ [ej]).map Ev.x) = costs (eo'.map Ev.x) + ej.x.cost := by rw [List.map_append, costs_append]; simp [costs]
          rw [this]
          omega)
        obtain ⟨w6, e6⟩ : ∃ w6 : World, w6 = w5.setCell ⟨r, 2, none⟩ (.slice a5 (eo'.length + 1) c5) := ⟨_, rfl⟩
        have hbt6 : But (fun k => k = r) w5 w6 := by rw [e6]; exact (But.refl (fun k => k = r) _).setCell (p := ⟨r, 2, none⟩) (.inl rfl) _
        have hX6 := hX5.but hbt6 hXr
        have hZ6 := hZ5.but hbt6 (by omega)
        rw [← e6] at hr6 ⊢
        have hw6 : But (fun k => k = r) w w6 := ((But.of_below hw3).trans (But.of_below hw5)).trans hbt6
        clear hr5 hrow5 hbt6 hX5 hZ5 e6 hg5 hb5 hown5 ho4 hb4 hXB x2a x2b x2c x2d x2e h1n hRi hWX
        (have y0 : w6.cell? ⟨X, 0, none⟩ = some (.int .i64 eid) := hX6.cell 0; have y1 : w6.cell? ⟨X, 1, none⟩ = some (S key) := hX6.cell 1; have y2 : w6.cell? ⟨X, 2, none⟩ = some (.slice ap lp.length kp) := hX6.cell 2; have y3 : w6.cell? ⟨X, 3, none⟩ = some (.int .i64 st) := hX6.cell 3; have y4 : w6.cell? ⟨X, 4, none⟩ = some (.slice af lf.length kf) := hX6.cell 4; have y5 : w6.cell? ⟨X, 5, none⟩ = some (S body) := hX6.cell 5; have y6 : w6.cell? ⟨X, 6, none⟩ = some (.int .i64 asked) := hX6.cell 6; have y7 : w6.cell? ⟨X, 7, none⟩ = some (.int .i64 came) := hX6.cell 7)
        have u1 : w6.cell? ⟨X, 1 + 1, none⟩ = some (.slice ap lp.length kp) := y2
        have u2 : w6.cell? ⟨X, 1 + 2, none⟩ = some (.int .i64 st) := y3
        have u3 : w6.cell? ⟨X, 1 + 3, none⟩ = some (.slice af lf.length kf) := y4
        have u4 : w6.cell? ⟨X, 1 + 4, none⟩ = some (S body) := y5
        have u5 : w6.cell? ⟨X, 1 + 5, none⟩ = some (.int .i64 asked) := y6
        have u6 : w6.cell? ⟨X, 1 + 6, none⟩ = some (.int .i64 came) := y7
        (have z0 : w6.cell? ⟨Z, 0, none⟩ = some (S []) := hZ6.cell 0; have z1 : w6.cell? ⟨Z, 1, none⟩ = some (.slice none 0 0) := hZ6.cell 1; have z2 : w6.cell? ⟨Z, 2, none⟩ = some (.int .i64 0) := hZ6.cell 2; have z3 : w6.cell? ⟨Z, 3, none⟩ = some (.slice none 0 0) := hZ6.cell 3; have z4 : w6.cell? ⟨Z, 4, none⟩ = some (S []) := hZ6.cell 4; have z5 : w6.cell? ⟨Z, 5, none⟩ = some (.int .i64 0) := hZ6.cell 5; have z6 : w6.cell? ⟨Z, 6, none⟩ = some (.int .i64 0) := hZ6.cell 6)
        have f0 := hZ6.free 0
        have f1 := hZ6.free 1
        have f2 := hZ6.free 2
        have f3 := hZ6.free 3
        have f4 := hZ6.free 4
        have f5 := hZ6.free 5
        have f6 := hZ6.free 6
        have hX6B : ∀ wx, But (fun k => k = Z) w6 wx → wx.cell? ⟨X, 0, none⟩ = some (.int .i64 eid) ∧ wx.cell? ⟨X, 1, none⟩ = some (S key) ∧ wx.cell? ⟨X, 1 + 1, none⟩ = some (.slice ap lp.length kp) ∧ wx.cell? ⟨X, 1 + 2, none⟩ = some (.int .i64 st) ∧ wx.cell? ⟨X, 1 + 3, none⟩ = some (.slice af lf.length kf) ∧ wx.cell? ⟨X, 1 + 4, none⟩ = some (S body) ∧ wx.cell? ⟨X, 1 + 5, none⟩ = some (.int .i64 asked) ∧ wx.cell? ⟨X, 1 + 6, none⟩ = some (.int .i64 came) := fun wx hb => ⟨(hX6.but hb hXZ).cell 0, (hX6.but hb hXZ).cell 1, (hX6.but hb hXZ).cell 2, (hX6.but hb hXZ).cell 3, (hX6.but hb hXZ).cell 4, (hX6.but hb hXZ).cell 5, (hX6.but hb hXZ).cell 6, (hX6.but hb hXZ).cell 7⟩
        have hr7 := (hr6.zput hZ6 hBZ (S key) (.slice ap lp.length kp) (.int .i64 st) (.slice af lf.length kf) (S body) (.int .i64 asked) (.int .i64 came)).drew
        have hB7 := (hZ6.put7 (S key) (.slice ap lp.length kp) (.int .i64 st) (.slice af lf.length kf) (S body) (.int .i64 asked) (.int .i64 came)).drew
        have hb7 := (put7_but (g := Z) hw6 (Nat.le_of_eq HZ.out.symm) (S key) (.slice ap lp.length kp) (.int .i64 st) (.slice af lf.length kf) (S body) (.int .i64 asked) (.int .i64 came)).drew
        have hq7 := (put7_one w6 Z (S key) (.slice ap lp.length kp) (.int .i64 st) (.slice af lf.length kf) (S body) (.int .i64 asked) (.int .i64 came)).drew
        clear hw6 hX6 hr6 hw5 hr5' z5' f5' hmem
        go_wp2_with fail
        refine wp_region_held_drew (S := (fun wx => wx.cell? ⟨X, 0, none⟩ = some (.int .i64 eid) ∧ wx.cell? ⟨X, 1, none⟩ = some (S key) ∧ wx.cell? ⟨X, 1 + 1, none⟩ = some (.slice ap lp.length kp) ∧ wx.cell? ⟨X, 1 + 2, none⟩ = some (.int .i64 st) ∧ wx.cell? ⟨X, 1 + 3, none⟩ = some (.slice af lf.length kf) ∧ wx.cell? ⟨X, 1 + 4, none⟩ = some (S body) ∧ wx.cell? ⟨X, 1 + 5, none⟩ = some (.int .i64 asked) ∧ wx.cell? ⟨X, 1 + 6, none⟩ = some (.int .i64 came))) (by kernel_rfl) (hX6B _ (But.refl _ _).drew) (fun hHeld => ?_)
        refine wpAnyH_take (i := 0) (v := ?_) (by rfl) (by kernel_rfl) (by kernel_rfl) (by kernel_rfl) (by exact fun _ _ _ h => h) (Or.inl ⟨by rfl, ?_⟩) hHeld ?_
        rotate_left
        · (intro w hSw; (try dsimp only at hSw); go_simp; try with_reducible rfl)
        simp only [Act.put, List.getElem_toArray, List.getElem_cons_succ, List.getElem_cons_zero, List.setIfInBounds_toArray, List.set_cons_zero, List.set_cons_succ]
        refine wpAnyH_take (i := 1) (v := ?_) (by rfl) (by kernel_rfl) (by kernel_rfl) (by kernel_rfl) (by exact fun _ _ _ h => h) (Or.inl ⟨by rfl, ?_⟩) hHeld ?_
        rotate_left
        · (intro w hSw; (try dsimp only at hSw); go_simp; try with_reducible rfl)
        simp only [Act.put, List.getElem_toArray, List.getElem_cons_succ, List.getElem_cons_zero, List.setIfInBounds_toArray, List.set_cons_zero, List.set_cons_succ]
        refine wpAnyH_take (i := 2) (v := ?_) (by rfl) (by kernel_rfl) (by kernel_rfl) (by kernel_rfl) (by exact fun _ _ _ h => h) (Or.inl ⟨by rfl, ?_⟩) hHeld ?_
        rotate_left
        · (intro w hSw; (try dsimp only at hSw); go_simp; try with_reducible rfl)
        simp only [Act.put, List.getElem_toArray, List.getElem_cons_succ, List.getElem_cons_zero, List.setIfInBounds_toArray, List.set_cons_zero, List.set_cons_succ]
        refine wpAnyH_take (i := 3) (v := ?_) (by rfl) (by kernel_rfl) (by kernel_rfl) (by kernel_rfl) (by exact fun _ _ _ h => h) (Or.inl ⟨by rfl, ?_⟩) hHeld ?_
        rotate_left
        · (intro w hSw; (try dsimp only at hSw); go_simp; try with_reducible rfl)
        simp only [Act.put, List.getElem_toArray, List.getElem_cons_succ, List.getElem_cons_zero, List.setIfInBounds_toArray, List.set_cons_zero, List.set_cons_succ]
        refine wpAnyH_ready (rs := [4]) (by kernel_rfl) (by simp) ?_
        refine AllReadyH.cons (by rfl) (fun K hK => ?_) AllReadyH.nil
        go_simp
        skip
        refine hK.out _ _ (hX6B _ hq7) (fun hHeld => ?_)
        clear hK K
        try simp only [Act.put, List.getElem_toArray, List.getElem_cons_succ, List.getElem_cons_zero, List.setIfInBounds_toArray, List.set_cons_zero, List.set_cons_succ]
        refine wpAnyH_take (i := 5) (v := ?_) (by rfl) (by kernel_rfl) (by kernel_rfl) (by kernel_rfl) (by exact fun _ _ _ h => h) (Or.inl ⟨by rfl, ?_⟩) hHeld ?_
        rotate_left
        · (intro w hSw; (try dsimp only at hSw); go_simp; try with_reducible rfl)
        simp only [Act.put, List.getElem_toArray, List.getElem_cons_succ, List.getElem_cons_zero, List.setIfInBounds_toArray, List.set_cons_zero, List.set_cons_succ]
        refine wpAnyH_take (i := 6) (v := ?_) (by rfl) (by kernel_rfl) (by kernel_rfl) (by kernel_rfl) (by exact fun _ _ _ h => h) (Or.inl ⟨by rfl, ?_⟩) hHeld ?_
        rotate_left
        · (intro w hSw; (try dsimp only at hSw); go_simp; try with_reducible rfl)
        simp only [Act.put, List.getElem_toArray, List.getElem_cons_succ, List.getElem_cons_zero, List.setIfInBounds_toArray, List.set_cons_zero, List.set_cons_succ]
        try simp only [Act.put, List.getElem_toArray, List.getElem_cons_succ, List.getElem_cons_zero, List.setIfInBounds_toArray, List.set_cons_zero, List.set_cons_succ]
        refine wpAnyH_done (by kernel_rfl) ?_ _
        go_wp2
        refine ret_findR (b := Z) (i := eid) (c := true) ?_ ?_ ?_ hB7 ?_
        · rfl
        · rfl
        · rfl
        · rw [HPO2.out]
          refine ⟨hj, by rw [← HE.out]; rfl, ⟨.slice a5 (eo'.length + 1) c5, ?_⟩, hb7⟩
          rw [← HEO.out, ← HEJ.out]
          exact hr7
    | succ i =>
      obtain rfl : z = (i : Int) := by omega
      have hlt : i < er.length := by omega
      have hst := best_step fkey list er i hlt
      clear x2
      have x2 : wr.cell? ⟨r, 2, none⟩ = some (.slice a er.length c) := hr.blk.cell 2
      have hHER : Hid (er = er) := rfl
      obtain ⟨b, off, rfl, hbb, c0, c1, c2, c3, c4, c5, c6, c7⟩ := it_at (Rd.own hr.row) i hlt
      have hl := hr.lists er[i] (List.getElem_mem hlt)
      have hco := hr.cost (List.getElem_mem hlt)
      obtain ⟨e, ee⟩ : ∃ e, e = er[i] := ⟨_, rfl⟩
      rw [← ee] at c0 c1 c2 c3 c4 c5 c6 c7 hl hco
      have HE := Lib.hid ee
      clear ee
      obtain ⟨vp, vf, ⟨eid, key, lp, st, lf, body, asked, came⟩⟩ := e
      obtain ⟨ap, kp, hvp, -⟩ := hl.1.form
      obtain ⟨af, kf, hvf, -⟩ := hl.2.form
      simp only at c0 c1 c2 c3 c4 c5 c6 c7 hvp hvf
      subst hvp hvf
      have hlp : Fo 53 B wr (.slice ap lp.length kp) lp := hl.1
      have hlf : Fo 62 B wr (.slice af lf.length kf) lf := hl.2
      have hcn : 64 + key.length + body.length + fsum lf + fsum lp ≤ 1048576 := hco
      have d2 : wr.cell? ⟨b, off + i * 8 + 1 + 1, none⟩ = some (.slice ap lp.length kp) := c2
      have d3 : wr.cell? ⟨b, off + i * 8 + 1 + 2, none⟩ = some (.int .i64 st) := c3
      have d4 : wr.cell? ⟨b, off + i * 8 + 1 + 3, none⟩ = some (.slice af lf.length kf) := c4
      have d5 : wr.cell? ⟨b, off + i * 8 + 1 + 4, none⟩ = some (S body) := c5
      have d6 : wr.cell? ⟨b, off + i * 8 + 1 + 5, none⟩ = some (.int .i64 asked) := c6
      have d7 : wr.cell? ⟨b, off + i * 8 + 1 + 6, none⟩ = some (.int .i64 came) := c7
      clear hl hco
      rw [← HE.out] at hst
      simp only at hst
      obtain ⟨we, ewe⟩ : ∃ we : World, we = wr.alloc (.cells #[S key, .slice ap lp.length kp, .int .i64 st, .slice af lf.length kf, S body, .int .i64 asked, .int .i64 came] 36) := ⟨_, rfl⟩
      obtain ⟨X, eX⟩ : ∃ X, X = wr.heap.size := ⟨_, rfl⟩
      have hXe : Blk we X 36 #[S key, .slice ap lp.length kp, .int .i64 st, .slice af lf.length kf, S body, .int .i64 asked, .int .i64 came] := by rw [ewe, eX]; exact Blk.new _ _ _
      have hbe : Below wr.heap.size wr we := by rw [ewe]; exact (Below.refl _ _).alloc (Nat.le_refl _) _
      have HX := Lib.hid eX
      have hwe : Below w0.heap.size w0 we := Bl.tr hbr hbe
      have hre := hr.below hbe
      have hlpe := (hlp.below hbe hBr).fs (Nat.le_of_lt hre.at)
      have hle := (hl0.below hwe).mono hwe.size
      have HBI := Lib.hid (fun (o : Option Nat) (h : o = bestAt fkey list ((er.drop (i + 1)).map Ev.x)) => h)
      have hpn : ∀ p ∈ lp, p.n.length ≤ 549755813888 := fun p hp => by
        have := fsum_mem hp
        omega
      go_upto_region 6 with fail
      rw [← HX.out, ← ewe]
      clear ewe eX c0 c1 c2 c3 c4 c5 c6 c7 d2 d3 d4 d5 d6 d7 x2
      (have y0 : we.cell? ⟨X, 0, none⟩ = some (S key) := hXe.cell 0; have y1 : we.cell? ⟨X, 1, none⟩ = some (.slice ap lp.length kp) := hXe.cell 1; have y2 : we.cell? ⟨X, 2, none⟩ = some (.int .i64 st) := hXe.cell 2; have y3 : we.cell? ⟨X, 3, none⟩ = some (.slice af lf.length kf) := hXe.cell 3; have y4 : we.cell? ⟨X, 4, none⟩ = some (S body) := hXe.cell 4; have y5 : we.cell? ⟨X, 5, none⟩ = some (.int .i64 asked) := hXe.cell 5; have y6 : we.cell? ⟨X, 6, none⟩ = some (.int .i64 came) := hXe.cell 6)
      have x2 : we.cell? ⟨r, 2, none⟩ = some (.slice (some ⟨b, off, none⟩) er.length c) := hre.blk.cell 2
      by_cases hkey : key = fkey
      · have hr2 : (key == fkey) = true := by simp [hkey]
        obtain ⟨mc, emc⟩ : ∃ mc, mc = matchP lp list := ⟨_, rfl⟩
        have hM := refMatch_any lp list _ vl we.drew (show Fs we.drew.heap.size we.drew _ lp from hlpe.drew) (show Fs we.drew.heap.size we.drew vl list from hle.drew) hll hpn
        rw [← emc] at hM
        have hft : fits19 fkey list ⟨eid, key, lp, st, lf, body, asked, came⟩ = mc := by
          unfold fits19
          rw [emc]
          simp [hkey]
        rw [hft] at hst
        clear hft emc hpn
        cases mc with
        | false =>
          have HB2 : Hid (bi (bestAt fkey list ((er.drop i).map Ev.x)) i = bi (bestAt fkey list ((er.drop (i + 1)).map Ev.x)) (i + 1)) := by
            show _ = _
            rw [hst]
            cases bestAt fkey list ((er.drop (i + 1)).map Ev.x) with
            | none => rfl
            | some j => simp [bi]; omega
          clear hst hkey
          obtain ⟨bv, ebv⟩ : ∃ bv, bv = bi (bestAt fkey list ((er.drop (i + 1)).map Ev.x)) (i + 1) := ⟨_, rfl⟩
          rw [← ebv] at HB2 ⊢
          clear ebv
          go_wp2_with fail
          refine wp_region_held_drew (S := (fun wx => wx.cell? ⟨X, 0, none⟩ = some (S key) ∧ wx.cell? ⟨X, 1, none⟩ = some (.slice ap lp.length kp) ∧ wx.cell? ⟨X, 6, none⟩ = some (.int .i64 came) ∧ wx.cell? ⟨r, 2, none⟩ = some (.slice (some ⟨b, off, none⟩) er.length c))) (by kernel_rfl) ⟨y0, y1, y6, x2⟩ (fun hHeld => ?_)
          refine wpAnyH_take (i := 0) (v := ?_) (by rfl) (by kernel_rfl) (by kernel_rfl) (by kernel_rfl) (by exact fun _ _ _ h => h) (Or.inl ⟨by rfl, ?_⟩) hHeld ?_
          rotate_left
          · (intro w hSw; (try dsimp only at hSw); go_simp; try with_reducible rfl)
          simp only [Act.put, List.getElem_toArray, List.getElem_cons_succ, List.getElem_cons_zero, List.setIfInBounds_toArray, List.set_cons_zero, List.set_cons_succ]
          refine wpAnyH_take (i := 1) (v := ?_) (by rfl) (by kernel_rfl) (by kernel_rfl) (by kernel_rfl) (by exact fun _ _ _ h => h) (Or.inl ⟨by rfl, ?_⟩) hHeld ?_
          rotate_left
          · (intro w hSw; (try dsimp only at hSw); go_simp; try with_reducible rfl)
          simp only [Act.put, List.getElem_toArray, List.getElem_cons_succ, List.getElem_cons_zero, List.setIfInBounds_toArray, List.set_cons_zero, List.set_cons_succ]
          refine wpAnyH_take (i := 2) (v := ?_) (by rfl) (by kernel_rfl) (by kernel_rfl) (by kernel_rfl) (by exact fun _ _ _ h => h) (Or.inl ⟨by rfl, ?_⟩) hHeld ?_
          rotate_left
          · (intro w hSw; (try dsimp only at hSw); go_simp; try with_reducible rfl)
          simp only [Act.put, List.getElem_toArray, List.getElem_cons_succ, List.getElem_cons_zero, List.setIfInBounds_toArray, List.set_cons_zero, List.set_cons_succ]
          refine wpAnyH_take (i := 3) (v := ?_) (by rfl) (by kernel_rfl) (by kernel_rfl) (by kernel_rfl) (by exact fun _ _ _ h => h) (Or.inl ⟨by rfl, ?_⟩) hHeld ?_
          rotate_left
          · (intro w hSw; (try dsimp only at hSw); go_simp; try with_reducible rfl)
          simp only [Act.put, List.getElem_toArray, List.getElem_cons_succ, List.getElem_cons_zero, List.setIfInBounds_toArray, List.set_cons_zero, List.set_cons_succ]
          refine wpAnyH_take (i := 4) (v := ?_) (by rfl) (by kernel_rfl) (by kernel_rfl) (by kernel_rfl) (by exact fun _ _ _ h => h) (Or.inl ⟨by rfl, ?_⟩) hHeld ?_
          rotate_left
          · (intro w hSw; (try dsimp only at hSw); go_simp; try with_reducible rfl)
          simp only [Act.put, List.getElem_toArray, List.getElem_cons_succ, List.getElem_cons_zero, List.setIfInBounds_toArray, List.set_cons_zero, List.set_cons_succ]
          refine wpAnyH_take (i := 5) (v := ?_) (by rfl) (by kernel_rfl) (by kernel_rfl) (by kernel_rfl) (by exact fun _ _ _ h => h) (Or.inl ⟨by rfl, ?_⟩) hHeld ?_
          rotate_left
          · (intro w hSw; (try dsimp only at hSw); go_simp; try with_reducible rfl)
          simp only [Act.put, List.getElem_toArray, List.getElem_cons_succ, List.getElem_cons_zero, List.setIfInBounds_toArray, List.set_cons_zero, List.set_cons_succ]
          refine wpAnyH_take (i := 6) (v := ?_) (by rfl) (by kernel_rfl) (by kernel_rfl) (by kernel_rfl) (by exact fun _ _ _ h => h) (Or.inl ⟨by rfl, ?_⟩) hHeld ?_
          rotate_left
          · (intro w hSw; (try dsimp only at hSw); go_simp; try with_reducible rfl)
          simp only [Act.put, List.getElem_toArray, List.getElem_cons_succ, List.getElem_cons_zero, List.setIfInBounds_toArray, List.set_cons_zero, List.set_cons_succ]
          refine wpAnyH_take (i := 7) (v := ?_) (by rfl) (by kernel_rfl) (by kernel_rfl) (by kernel_rfl) (by exact fun _ _ _ h => h) (Or.inl ⟨by rfl, ?_⟩) hHeld ?_
          rotate_left
          · (intro w hSw; (try dsimp only at hSw); go_simp; try with_reducible rfl)
          simp only [Act.put, List.getElem_toArray, List.getElem_cons_succ, List.getElem_cons_zero, List.setIfInBounds_toArray, List.set_cons_zero, List.set_cons_succ]
          refine wpAnyH_ready (rs := [8]) (by kernel_rfl) (by simp) ?_
          refine AllReadyH.cons (by rfl) (fun K hK => ?_) AllReadyH.nil
          go_simp
          (with_reducible refine hM.mono ?_); rintro e wk ⟨rfl, hbk⟩; replace hbk := Bl.undrew hbk; have hXk := hXe.on hbk; have hwk := Bl.tr hwe hbk
          refine hK.out _ _ ⟨hXk.cell 0, hXk.cell 1, hXk.cell 6, (hre.below hbk).blk.cell 2⟩ (fun hHeld => ?_)
          clear hK K
          try simp only [Act.put, List.getElem_toArray, List.getElem_cons_succ, List.getElem_cons_zero, List.setIfInBounds_toArray, List.set_cons_zero, List.set_cons_succ]
          refine wpAnyH_take (i := 9) (v := ?_) (by rfl) (by kernel_rfl) (by kernel_rfl) (by kernel_rfl) (by exact fun _ _ _ h => h) (Or.inl ⟨by rfl, ?_⟩) hHeld ?_
          rotate_left
          · (intro w hSw; (try dsimp only at hSw); go_simp; try with_reducible rfl)
          simp only [Act.put, List.getElem_toArray, List.getElem_cons_succ, List.getElem_cons_zero, List.setIfInBounds_toArray, List.set_cons_zero, List.set_cons_succ]
          refine wpAnyH_take (i := 10) (v := ?_) (by rfl) (by kernel_rfl) (by kernel_rfl) (by kernel_rfl) (by exact fun _ _ _ h => h) (Or.inl ⟨by rfl, ?_⟩) hHeld ?_
          rotate_left
          · (intro w hSw; (try dsimp only at hSw); go_simp; try with_reducible rfl)
          simp only [Act.put, List.getElem_toArray, List.getElem_cons_succ, List.getElem_cons_zero, List.setIfInBounds_toArray, List.set_cons_zero, List.set_cons_succ]
          refine wpAnyH_take (i := 11) (v := undef) (by rfl) (by kernel_rfl) (by kernel_rfl) (by kernel_rfl) (by exact fun _ _ _ h => h) (Or.inr ⟨by rfl, rfl⟩) hHeld ?_
          simp only [Act.put, List.getElem_toArray, List.getElem_cons_succ, List.getElem_cons_zero, List.setIfInBounds_toArray, List.set_cons_zero, List.set_cons_succ]
          refine wpAnyH_take (i := 12) (v := undef) (by rfl) (by kernel_rfl) (by kernel_rfl) (by kernel_rfl) (by exact fun _ _ _ h => h) (Or.inr ⟨by rfl, rfl⟩) hHeld ?_
          simp only [Act.put, List.getElem_toArray, List.getElem_cons_succ, List.getElem_cons_zero, List.setIfInBounds_toArray, List.set_cons_zero, List.set_cons_succ]
          refine wpAnyH_take (i := 13) (v := undef) (by rfl) (by kernel_rfl) (by kernel_rfl) (by kernel_rfl) (by exact fun _ _ _ h => h) (Or.inr ⟨by rfl, rfl⟩) hHeld ?_
          simp only [Act.put, List.getElem_toArray, List.getElem_cons_succ, List.getElem_cons_zero, List.setIfInBounds_toArray, List.set_cons_zero, List.set_cons_succ]
          refine wpAnyH_take (i := 14) (v := undef) (by rfl) (by kernel_rfl) (by kernel_rfl) (by kernel_rfl) (by exact fun _ _ _ h => h) (Or.inr ⟨by rfl, rfl⟩) hHeld ?_
          simp only [Act.put, List.getElem_toArray, List.getElem_cons_succ, List.getElem_cons_zero, List.setIfInBounds_toArray, List.set_cons_zero, List.set_cons_succ]
          refine wpAnyH_take (i := 15) (v := undef) (by rfl) (by kernel_rfl) (by kernel_rfl) (by kernel_rfl) (by exact fun _ _ _ h => h) (Or.inr ⟨by rfl, rfl⟩) hHeld ?_
          simp only [Act.put, List.getElem_toArray, List.getElem_cons_succ, List.getElem_cons_zero, List.setIfInBounds_toArray, List.set_cons_zero, List.set_cons_succ]
          refine wpAnyH_take (i := 16) (v := undef) (by rfl) (by kernel_rfl) (by kernel_rfl) (by kernel_rfl) (by exact fun _ _ _ h => h) (Or.inr ⟨by rfl, rfl⟩) hHeld ?_
          simp only [Act.put, List.getElem_toArray, List.getElem_cons_succ, List.getElem_cons_zero, List.setIfInBounds_toArray, List.set_cons_zero, List.set_cons_succ]
          refine wpAnyH_take (i := 17) (v := undef) (by rfl) (by kernel_rfl) (by kernel_rfl) (by kernel_rfl) (by exact fun _ _ _ h => h) (Or.inr ⟨by rfl, rfl⟩) hHeld ?_
          simp only [Act.put, List.getElem_toArray, List.getElem_cons_succ, List.getElem_cons_zero, List.setIfInBounds_toArray, List.set_cons_zero, List.set_cons_succ]
          refine wpAnyH_take (i := 18) (v := undef) (by rfl) (by kernel_rfl) (by kernel_rfl) (by kernel_rfl) (by exact fun _ _ _ h => h) (Or.inr ⟨by rfl, rfl⟩) hHeld ?_
          simp only [Act.put, List.getElem_toArray, List.getElem_cons_succ, List.getElem_cons_zero, List.setIfInBounds_toArray, List.set_cons_zero, List.set_cons_succ]
          refine wpAnyH_take (i := 19) (v := undef) (by rfl) (by kernel_rfl) (by kernel_rfl) (by kernel_rfl) (by exact fun _ _ _ h => h) (Or.inr ⟨by rfl, rfl⟩) hHeld ?_
          simp only [Act.put, List.getElem_toArray, List.getElem_cons_succ, List.getElem_cons_zero, List.setIfInBounds_toArray, List.set_cons_zero, List.set_cons_succ]
          refine wpAnyH_take (i := 20) (v := undef) (by rfl) (by kernel_rfl) (by kernel_rfl) (by kernel_rfl) (by exact fun _ _ _ h => h) (Or.inr ⟨by rfl, rfl⟩) hHeld ?_
          simp only [Act.put, List.getElem_toArray, List.getElem_cons_succ, List.getElem_cons_zero, List.setIfInBounds_toArray, List.set_cons_zero, List.set_cons_succ]
          refine wpAnyH_take (i := 21) (v := undef) (by rfl) (by kernel_rfl) (by kernel_rfl) (by kernel_rfl) (by exact fun _ _ _ h => h) (Or.inr ⟨by rfl, rfl⟩) hHeld ?_
          simp only [Act.put, List.getElem_toArray, List.getElem_cons_succ, List.getElem_cons_zero, List.setIfInBounds_toArray, List.set_cons_zero, List.set_cons_succ]
          refine wpAnyH_take (i := 22) (v := undef) (by rfl) (by kernel_rfl) (by kernel_rfl) (by kernel_rfl) (by exact fun _ _ _ h => h) (Or.inr ⟨by rfl, rfl⟩) hHeld ?_
          simp only [Act.put, List.getElem_toArray, List.getElem_cons_succ, List.getElem_cons_zero, List.setIfInBounds_toArray, List.set_cons_zero, List.set_cons_succ]
          refine wpAnyH_take (i := 23) (v := undef) (by rfl) (by kernel_rfl) (by kernel_rfl) (by kernel_rfl) (by exact fun _ _ _ h => h) (Or.inr ⟨by rfl, rfl⟩) hHeld ?_
          simp only [Act.put, List.getElem_toArray, List.getElem_cons_succ, List.getElem_cons_zero, List.setIfInBounds_toArray, List.set_cons_zero, List.set_cons_succ]
          refine wpAnyH_take (i := 24) (v := undef) (by rfl) (by kernel_rfl) (by kernel_rfl) (by kernel_rfl) (by exact fun _ _ _ h => h) (Or.inr ⟨by rfl, rfl⟩) hHeld ?_
          simp only [Act.put, List.getElem_toArray, List.getElem_cons_succ, List.getElem_cons_zero, List.setIfInBounds_toArray, List.set_cons_zero, List.set_cons_succ]
          refine wpAnyH_take (i := 25) (v := undef) (by rfl) (by kernel_rfl) (by kernel_rfl) (by kernel_rfl) (by exact fun _ _ _ h => h) (Or.inr ⟨by rfl, rfl⟩) hHeld ?_
          simp only [Act.put, List.getElem_toArray, List.getElem_cons_succ, List.getElem_cons_zero, List.setIfInBounds_toArray, List.set_cons_zero, List.set_cons_succ]
          refine wpAnyH_take (i := 26) (v := undef) (by rfl) (by kernel_rfl) (by kernel_rfl) (by kernel_rfl) (by exact fun _ _ _ h => h) (Or.inr ⟨by rfl, rfl⟩) hHeld ?_
          simp only [Act.put, List.getElem_toArray, List.getElem_cons_succ, List.getElem_cons_zero, List.setIfInBounds_toArray, List.set_cons_zero, List.set_cons_succ]
          refine wpAnyH_take (i := 27) (v := ?_) (by rfl) (by kernel_rfl) (by kernel_rfl) (by kernel_rfl) (by exact fun _ _ _ h => h) (Or.inl ⟨by rfl, ?_⟩) hHeld ?_
          rotate_left
          · (intro w hSw; (try dsimp only at hSw); go_simp; try with_reducible rfl)
          simp only [Act.put, List.getElem_toArray, List.getElem_cons_succ, List.getElem_cons_zero, List.setIfInBounds_toArray, List.set_cons_zero, List.set_cons_succ]
          try simp only [Act.put, List.getElem_toArray, List.getElem_cons_succ, List.getElem_cons_zero, List.setIfInBounds_toArray, List.set_cons_zero, List.set_cons_succ]
          refine wpAnyH_done (by kernel_rfl) ?_ _
          go_wp2
          go_roundw
          case rel => exact ⟨i, (i : Int) - 1, by go_num, by omega, by omega, by rw [HB2.out], hwk⟩
          case measure => (first | (simp [intOf]; done) | (simp [intOf]; omega))
        | true =>
          cases hbst : bestAt fkey list ((er.drop (i + 1)).map Ev.x) with
          | none =>
            rw [hbst] at hst
            have e9 : bi none (i + 1) = -1 := rfl
            have HB2 : Hid (bi (bestAt fkey list ((er.drop i).map Ev.x)) i = (i : Int)) := by
              show _ = _
              rw [hst]
              simp [bi]
            rw [e9]
            clear hst hkey hbst HBI
            go_wp2_with fail
            refine wp_region_held_drew (S := (fun wx => wx.cell? ⟨X, 0, none⟩ = some (S key) ∧ wx.cell? ⟨X, 1, none⟩ = some (.slice ap lp.length kp) ∧ wx.cell? ⟨X, 6, none⟩ = some (.int .i64 came) ∧ wx.cell? ⟨r, 2, none⟩ = some (.slice (some ⟨b, off, none⟩) er.length c))) (by kernel_rfl) ⟨y0, y1, y6, x2⟩ (fun hHeld => ?_)
            refine wpAnyH_take (i := 0) (v := ?_) (by rfl) (by kernel_rfl) (by kernel_rfl) (by kernel_rfl) (by exact fun _ _ _ h => h) (Or.inl ⟨by rfl, ?_⟩) hHeld ?_
            rotate_left
            · (intro w hSw; (try dsimp only at hSw); go_simp; try with_reducible rfl)
            simp only [Act.put, List.getElem_toArray, List.getElem_cons_succ, List.getElem_cons_zero, List.setIfInBounds_toArray, List.set_cons_zero, List.set_cons_succ]
            refine wpAnyH_take (i := 1) (v := ?_) (by rfl) (by kernel_rfl) (by kernel_rfl) (by kernel_rfl) (by exact fun _ _ _ h => h) (Or.inl ⟨by rfl, ?_⟩) hHeld ?_
            rotate_left
            · (intro w hSw; (try dsimp only at hSw); go_simp; try with_reducible rfl)
            simp only [Act.put, List.getElem_toArray, List.getElem_cons_succ, List.getElem_cons_zero, List.setIfInBounds_toArray, List.set_cons_zero, List.set_cons_succ]
            refine wpAnyH_take (i := 2) (v := ?_) (by rfl) (by kernel_rfl) (by kernel_rfl) (by kernel_rfl) (by exact fun _ _ _ h => h) (Or.inl ⟨by rfl, ?_⟩) hHeld ?_
            rotate_left
            · (intro w hSw; (try dsimp only at hSw); go_simp; try with_reducible rfl)
            simp only [Act.put, List.getElem_toArray, List.getElem_cons_succ, List.getElem_cons_zero, List.setIfInBounds_toArray, List.set_cons_zero, List.set_cons_succ]
            refine wpAnyH_take (i := 3) (v := ?_) (by rfl) (by kernel_rfl) (by kernel_rfl) (by kernel_rfl) (by exact fun _ _ _ h => h) (Or.inl ⟨by rfl, ?_⟩) hHeld ?_
            rotate_left
            · (intro w hSw; (try dsimp only at hSw); go_simp; try with_reducible rfl)
            simp only [Act.put, List.getElem_toArray, List.getElem_cons_succ, List.getElem_cons_zero, List.setIfInBounds_toArray, List.set_cons_zero, List.set_cons_succ]
            refine wpAnyH_take (i := 4) (v := ?_) (by rfl) (by kernel_rfl) (by kernel_rfl) (by kernel_rfl) (by exact fun _ _ _ h => h) (Or.inl ⟨by rfl, ?_⟩) hHeld ?_
            rotate_left
            · (intro w hSw; (try dsimp only at hSw); go_simp; try with_reducible rfl)
            simp only [Act.put, List.getElem_toArray, List.getElem_cons_succ, List.getElem_cons_zero, List.setIfInBounds_toArray, List.set_cons_zero, List.set_cons_succ]
            refine wpAnyH_take (i := 5) (v := ?_) (by rfl) (by kernel_rfl) (by kernel_rfl) (by kernel_rfl) (by exact fun _ _ _ h => h) (Or.inl ⟨by rfl, ?_⟩) hHeld ?_
            rotate_left
            · (intro w hSw; (try dsimp only at hSw); go_simp; try with_reducible rfl)
            simp only [Act.put, List.getElem_toArray, List.getElem_cons_succ, List.getElem_cons_zero, List.setIfInBounds_toArray, List.set_cons_zero, List.set_cons_succ]
            refine wpAnyH_take (i := 6) (v := ?_) (by rfl) (by kernel_rfl) (by kernel_rfl) (by kernel_rfl) (by exact fun _ _ _ h => h) (Or.inl ⟨by rfl, ?_⟩) hHeld ?_
            rotate_left
            · (intro w hSw; (try dsimp only at hSw); go_simp; try with_reducible rfl)
            simp only [Act.put, List.getElem_toArray, List.getElem_cons_succ, List.getElem_cons_zero, List.setIfInBounds_toArray, List.set_cons_zero, List.set_cons_succ]
            refine wpAnyH_take (i := 7) (v := ?_) (by rfl) (by kernel_rfl) (by kernel_rfl) (by kernel_rfl) (by exact fun _ _ _ h => h) (Or.inl ⟨by rfl, ?_⟩) hHeld ?_
            rotate_left
            · (intro w hSw; (try dsimp only at hSw); go_simp; try with_reducible rfl)
            simp only [Act.put, List.getElem_toArray, List.getElem_cons_succ, List.getElem_cons_zero, List.setIfInBounds_toArray, List.set_cons_zero, List.set_cons_succ]
            refine wpAnyH_ready (rs := [8]) (by kernel_rfl) (by simp) ?_
            refine AllReadyH.cons (by rfl) (fun K hK => ?_) AllReadyH.nil
            go_simp
            (with_reducible refine hM.mono ?_); rintro e wk ⟨rfl, hbk⟩; replace hbk := Bl.undrew hbk; have hXk := hXe.on hbk; have hwk := Bl.tr hwe hbk
            refine hK.out _ _ ⟨hXk.cell 0, hXk.cell 1, hXk.cell 6, (hre.below hbk).blk.cell 2⟩ (fun hHeld => ?_)
            clear hK K
            try simp only [Act.put, List.getElem_toArray, List.getElem_cons_succ, List.getElem_cons_zero, List.setIfInBounds_toArray, List.set_cons_zero, List.set_cons_succ]
            refine wpAnyH_take (i := 9) (v := ?_) (by rfl) (by kernel_rfl) (by kernel_rfl) (by kernel_rfl) (by exact fun _ _ _ h => h) (Or.inl ⟨by rfl, ?_⟩) hHeld ?_
            rotate_left
            · (intro w hSw; (try dsimp only at hSw); go_simp; try with_reducible rfl)
            simp only [Act.put, List.getElem_toArray, List.getElem_cons_succ, List.getElem_cons_zero, List.setIfInBounds_toArray, List.set_cons_zero, List.set_cons_succ]
            refine wpAnyH_take (i := 10) (v := ?_) (by rfl) (by kernel_rfl) (by kernel_rfl) (by kernel_rfl) (by exact fun _ _ _ h => h) (Or.inl ⟨by rfl, ?_⟩) hHeld ?_
            rotate_left
            · (intro w hSw; (try dsimp only at hSw); go_simp; try with_reducible rfl)
            simp only [Act.put, List.getElem_toArray, List.getElem_cons_succ, List.getElem_cons_zero, List.setIfInBounds_toArray, List.set_cons_zero, List.set_cons_succ]
            refine wpAnyH_take (i := 11) (v := ?_) (by rfl) (by kernel_rfl) (by kernel_rfl) (by kernel_rfl) (by exact fun _ _ _ h => h) (Or.inl ⟨by rfl, ?_⟩) hHeld ?_
            rotate_left
            · (intro w hSw; (try dsimp only at hSw); go_simp; try with_reducible rfl)
            simp only [Act.put, List.getElem_toArray, List.getElem_cons_succ, List.getElem_cons_zero, List.setIfInBounds_toArray, List.set_cons_zero, List.set_cons_succ]
            refine wpAnyH_take (i := 12) (v := ?_) (by rfl) (by kernel_rfl) (by kernel_rfl) (by kernel_rfl) (by exact fun _ _ _ h => h) (Or.inl ⟨by rfl, ?_⟩) hHeld ?_
            rotate_left
            · (intro w hSw; (try dsimp only at hSw); go_simp; try with_reducible rfl)
            simp only [Act.put, List.getElem_toArray, List.getElem_cons_succ, List.getElem_cons_zero, List.setIfInBounds_toArray, List.set_cons_zero, List.set_cons_succ]
            refine wpAnyH_take (i := 13) (v := ?_) (by rfl) (by kernel_rfl) (by kernel_rfl) (by kernel_rfl) (by exact fun _ _ _ h => h) (Or.inl ⟨by rfl, ?_⟩) hHeld ?_
            rotate_left
            · (intro w hSw; (try dsimp only at hSw); go_simp; try with_reducible rfl)
            simp only [Act.put, List.getElem_toArray, List.getElem_cons_succ, List.getElem_cons_zero, List.setIfInBounds_toArray, List.set_cons_zero, List.set_cons_succ]
            refine wpAnyH_take (i := 14) (v := undef) (by rfl) (by kernel_rfl) (by kernel_rfl) (by kernel_rfl) (by exact fun _ _ _ h => h) (Or.inr ⟨by rfl, rfl⟩) hHeld ?_
            simp only [Act.put, List.getElem_toArray, List.getElem_cons_succ, List.getElem_cons_zero, List.setIfInBounds_toArray, List.set_cons_zero, List.set_cons_succ]
            refine wpAnyH_take (i := 15) (v := undef) (by rfl) (by kernel_rfl) (by kernel_rfl) (by kernel_rfl) (by exact fun _ _ _ h => h) (Or.inr ⟨by rfl, rfl⟩) hHeld ?_
            simp only [Act.put, List.getElem_toArray, List.getElem_cons_succ, List.getElem_cons_zero, List.setIfInBounds_toArray, List.set_cons_zero, List.set_cons_succ]
            refine wpAnyH_take (i := 16) (v := undef) (by rfl) (by kernel_rfl) (by kernel_rfl) (by kernel_rfl) (by exact fun _ _ _ h => h) (Or.inr ⟨by rfl, rfl⟩) hHeld ?_
            simp only [Act.put, List.getElem_toArray, List.getElem_cons_succ, List.getElem_cons_zero, List.setIfInBounds_toArray, List.set_cons_zero, List.set_cons_succ]
            refine wpAnyH_take (i := 17) (v := undef) (by rfl) (by kernel_rfl) (by kernel_rfl) (by kernel_rfl) (by exact fun _ _ _ h => h) (Or.inr ⟨by rfl, rfl⟩) hHeld ?_
            simp only [Act.put, List.getElem_toArray, List.getElem_cons_succ, List.getElem_cons_zero, List.setIfInBounds_toArray, List.set_cons_zero, List.set_cons_succ]
            refine wpAnyH_take (i := 18) (v := undef) (by rfl) (by kernel_rfl) (by kernel_rfl) (by kernel_rfl) (by exact fun _ _ _ h => h) (Or.inr ⟨by rfl, rfl⟩) hHeld ?_
            simp only [Act.put, List.getElem_toArray, List.getElem_cons_succ, List.getElem_cons_zero, List.setIfInBounds_toArray, List.set_cons_zero, List.set_cons_succ]
            refine wpAnyH_take (i := 19) (v := undef) (by rfl) (by kernel_rfl) (by kernel_rfl) (by kernel_rfl) (by exact fun _ _ _ h => h) (Or.inr ⟨by rfl, rfl⟩) hHeld ?_
            simp only [Act.put, List.getElem_toArray, List.getElem_cons_succ, List.getElem_cons_zero, List.setIfInBounds_toArray, List.set_cons_zero, List.set_cons_succ]
            refine wpAnyH_take (i := 20) (v := undef) (by rfl) (by kernel_rfl) (by kernel_rfl) (by kernel_rfl) (by exact fun _ _ _ h => h) (Or.inr ⟨by rfl, rfl⟩) hHeld ?_
            simp only [Act.put, List.getElem_toArray, List.getElem_cons_succ, List.getElem_cons_zero, List.setIfInBounds_toArray, List.set_cons_zero, List.set_cons_succ]
            refine wpAnyH_take (i := 21) (v := undef) (by rfl) (by kernel_rfl) (by kernel_rfl) (by kernel_rfl) (by exact fun _ _ _ h => h) (Or.inr ⟨by rfl, rfl⟩) hHeld ?_
            simp only [Act.put, List.getElem_toArray, List.getElem_cons_succ, List.getElem_cons_zero, List.setIfInBounds_toArray, List.set_cons_zero, List.set_cons_succ]
            refine wpAnyH_take (i := 22) (v := undef) (by rfl) (by kernel_rfl) (by kernel_rfl) (by kernel_rfl) (by exact fun _ _ _ h => h) (Or.inr ⟨by rfl, rfl⟩) hHeld ?_
            simp only [Act.put, List.getElem_toArray, List.getElem_cons_succ, List.getElem_cons_zero, List.setIfInBounds_toArray, List.set_cons_zero, List.set_cons_succ]
            refine wpAnyH_take (i := 23) (v := undef) (by rfl) (by kernel_rfl) (by kernel_rfl) (by kernel_rfl) (by exact fun _ _ _ h => h) (Or.inr ⟨by rfl, rfl⟩) hHeld ?_
            simp only [Act.put, List.getElem_toArray, List.getElem_cons_succ, List.getElem_cons_zero, List.setIfInBounds_toArray, List.set_cons_zero, List.set_cons_succ]
            refine wpAnyH_take (i := 24) (v := undef) (by rfl) (by kernel_rfl) (by kernel_rfl) (by kernel_rfl) (by exact fun _ _ _ h => h) (Or.inr ⟨by rfl, rfl⟩) hHeld ?_
            simp only [Act.put, List.getElem_toArray, List.getElem_cons_succ, List.getElem_cons_zero, List.setIfInBounds_toArray, List.set_cons_zero, List.set_cons_succ]
            refine wpAnyH_take (i := 25) (v := undef) (by rfl) (by kernel_rfl) (by kernel_rfl) (by kernel_rfl) (by exact fun _ _ _ h => h) (Or.inr ⟨by rfl, rfl⟩) hHeld ?_
            simp only [Act.put, List.getElem_toArray, List.getElem_cons_succ, List.getElem_cons_zero, List.setIfInBounds_toArray, List.set_cons_zero, List.set_cons_succ]
            refine wpAnyH_take (i := 26) (v := ?_) (by rfl) (by kernel_rfl) (by kernel_rfl) (by kernel_rfl) (by exact fun _ _ _ h => h) (Or.inl ⟨by rfl, ?_⟩) hHeld ?_
            rotate_left
            · (intro w hSw; (try dsimp only at hSw); go_simp; try with_reducible rfl)
            simp only [Act.put, List.getElem_toArray, List.getElem_cons_succ, List.getElem_cons_zero, List.setIfInBounds_toArray, List.set_cons_zero, List.set_cons_succ]
            refine wpAnyH_take (i := 27) (v := ?_) (by rfl) (by kernel_rfl) (by kernel_rfl) (by kernel_rfl) (by exact fun _ _ _ h => h) (Or.inl ⟨by rfl, ?_⟩) hHeld ?_
            rotate_left
            · (intro w hSw; (try dsimp only at hSw); go_simp; try with_reducible rfl)
            simp only [Act.put, List.getElem_toArray, List.getElem_cons_succ, List.getElem_cons_zero, List.setIfInBounds_toArray, List.set_cons_zero, List.set_cons_succ]
            try simp only [Act.put, List.getElem_toArray, List.getElem_cons_succ, List.getElem_cons_zero, List.setIfInBounds_toArray, List.set_cons_zero, List.set_cons_succ]
            refine wpAnyH_done (by kernel_rfl) ?_ _
            go_wp2
            go_roundw
            case rel => exact ⟨i, (i : Int) - 1, by go_num, by omega, by omega, by rw [HB2.out], hwk⟩
            case measure => (first | (simp [intOf]; done) | (simp [intOf]; omega))
          | some j =>
            have hjl := bestAt_lt hbst
            rw [List.length_map, List.length_drop] at hjl
            have hjj : i + 1 + j < er.length := by omega
            have hgt : (((er.drop (i + 1)).map Ev.x)[j]?.map It.came).getD 0 = er[i + 1 + j].x.came := by
              rw [List.getElem?_map, List.getElem?_drop, List.getElem?_eq_getElem hjj]
              rfl
            rw [hbst] at hst
            simp only [Bool.true_and] at hst
            rw [hgt] at hst
            obtain ⟨b', off', eab, hbb', -, -, -, -, -, -, -, c7'⟩ := it_at (Rd.own hre.row) (i + 1 + j) hjj
            simp only [Option.some.injEq, Addr.mk.injEq, and_true] at eab
            obtain ⟨rfl, rfl⟩ := eab
            obtain ⟨cb, ecb⟩ : ∃ cb, cb = er[i + 1 + j].x.came := ⟨_, rfl⟩
            rw [← ecb] at hst c7'
            obtain ⟨J, eJ⟩ : ∃ J, J = i + 1 + j := ⟨_, rfl⟩
            have e9 : bi (some j) (i + 1) = (J : Int) := by unfold bi; rw [eJ]
            rw [e9]
            rw [← eJ] at hjj c7'
            have tb : decide ((J : Int) < 0) = false := by simp
            have q7 : we.cell? ⟨b, off + J * 8 + 1 + 6, none⟩ = some (.int .i64 cb) := c7'
            have hbw : b < we.heap.size := hbb'
            have hjz : (0 : Int) ≤ (J : Int) := by omega
            clear ecb hgt hbst HBI hkey hjl
            by_cases hcc : cb < came
            · have tc : decide (cb < came) = true := by simpa using hcc
              have HB2 : Hid (bi (bestAt fkey list ((er.drop i).map Ev.x)) i = (i : Int)) := by
                show _ = _
                rw [hst, if_pos tc]
                simp [bi]
              clear hst hcc e9 eJ
              go_wp2_with fail
              refine wp_region_held_drew (S := (fun wx => wx.cell? ⟨X, 0, none⟩ = some (S key) ∧ wx.cell? ⟨X, 1, none⟩ = some (.slice ap lp.length kp) ∧ wx.cell? ⟨X, 6, none⟩ = some (.int .i64 came) ∧ wx.cell? ⟨r, 2, none⟩ = some (.slice (some ⟨b, off, none⟩) er.length c) ∧ wx.cell? ⟨b, off + J * 8 + 1 + 6, none⟩ = some (.int .i64 cb))) (by kernel_rfl) ⟨y0, y1, y6, x2, q7⟩ (fun hHeld => ?_)
              refine wpAnyH_take (i := 0) (v := ?_) (by rfl) (by kernel_rfl) (by kernel_rfl) (by kernel_rfl) (by exact fun _ _ _ h => h) (Or.inl ⟨by rfl, ?_⟩) hHeld ?_
              rotate_left
              · (intro w hSw; (try dsimp only at hSw); go_simp; try with_reducible rfl)
              simp only [Act.put, List.getElem_toArray, List.getElem_cons_succ, List.getElem_cons_zero, List.setIfInBounds_toArray, List.set_cons_zero, List.set_cons_succ]
              refine wpAnyH_take (i := 1) (v := ?_) (by rfl) (by kernel_rfl) (by kernel_rfl) (by kernel_rfl) (by exact fun _ _ _ h => h) (Or.inl ⟨by rfl, ?_⟩) hHeld ?_
              rotate_left
              · (intro w hSw; (try dsimp only at hSw); go_simp; try with_reducible rfl)
              simp only [Act.put, List.getElem_toArray, List.getElem_cons_succ, List.getElem_cons_zero, List.setIfInBounds_toArray, List.set_cons_zero, List.set_cons_succ]
              refine wpAnyH_take (i := 2) (v := ?_) (by rfl) (by kernel_rfl) (by kernel_rfl) (by kernel_rfl) (by exact fun _ _ _ h => h) (Or.inl ⟨by rfl, ?_⟩) hHeld ?_
              rotate_left
              · (intro w hSw; (try dsimp only at hSw); go_simp; try with_reducible rfl)
              simp only [Act.put, List.getElem_toArray, List.getElem_cons_succ, List.getElem_cons_zero, List.setIfInBounds_toArray, List.set_cons_zero, List.set_cons_succ]
              refine wpAnyH_take (i := 3) (v := ?_) (by rfl) (by kernel_rfl) (by kernel_rfl) (by kernel_rfl) (by exact fun _ _ _ h => h) (Or.inl ⟨by rfl, ?_⟩) hHeld ?_
              rotate_left
              · (intro w hSw; (try dsimp only at hSw); go_simp; try with_reducible rfl)
              simp only [Act.put, List.getElem_toArray, List.getElem_cons_succ, List.getElem_cons_zero, List.setIfInBounds_toArray, List.set_cons_zero, List.set_cons_succ]
              refine wpAnyH_take (i := 4) (v := ?_) (by rfl) (by kernel_rfl) (by kernel_rfl) (by kernel_rfl) (by exact fun _ _ _ h => h) (Or.inl ⟨by rfl, ?_⟩) hHeld ?_
              rotate_left
              · (intro w hSw; (try dsimp only at hSw); go_simp; try with_reducible rfl)
              simp only [Act.put, List.getElem_toArray, List.getElem_cons_succ, List.getElem_cons_zero, List.setIfInBounds_toArray, List.set_cons_zero, List.set_cons_succ]
              refine wpAnyH_take (i := 5) (v := ?_) (by rfl) (by kernel_rfl) (by kernel_rfl) (by kernel_rfl) (by exact fun _ _ _ h => h) (Or.inl ⟨by rfl, ?_⟩) hHeld ?_
              rotate_left
              · (intro w hSw; (try dsimp only at hSw); go_simp; try with_reducible rfl)
              simp only [Act.put, List.getElem_toArray, List.getElem_cons_succ, List.getElem_cons_zero, List.setIfInBounds_toArray, List.set_cons_zero, List.set_cons_succ]
              refine wpAnyH_take (i := 6) (v := ?_) (by rfl) (by kernel_rfl) (by kernel_rfl) (by kernel_rfl) (by exact fun _ _ _ h => h) (Or.inl ⟨by rfl, ?_⟩) hHeld ?_
              rotate_left
              · (intro w hSw; (try dsimp only at hSw); go_simp; try with_reducible rfl)
              simp only [Act.put, List.getElem_toArray, List.getElem_cons_succ, List.getElem_cons_zero, List.setIfInBounds_toArray, List.set_cons_zero, List.set_cons_succ]
              refine wpAnyH_take (i := 7) (v := ?_) (by rfl) (by kernel_rfl) (by kernel_rfl) (by kernel_rfl) (by exact fun _ _ _ h => h) (Or.inl ⟨by rfl, ?_⟩) hHeld ?_
              rotate_left
              · (intro w hSw; (try dsimp only at hSw); go_simp; try with_reducible rfl)
              simp only [Act.put, List.getElem_toArray, List.getElem_cons_succ, List.getElem_cons_zero, List.setIfInBounds_toArray, List.set_cons_zero, List.set_cons_succ]
              refine wpAnyH_ready (rs := [8]) (by kernel_rfl) (by simp) ?_
              refine AllReadyH.cons (by rfl) (fun K hK => ?_) AllReadyH.nil
              go_simp
              (with_reducible refine hM.mono ?_); rintro e wk ⟨rfl, hbk⟩; replace hbk := Bl.undrew hbk; have hXk := hXe.on hbk; have hwk := Bl.tr hwe hbk
              refine hK.out _ _ ⟨hXk.cell 0, hXk.cell 1, hXk.cell 6, (hre.below hbk).blk.cell 2, ((bcell hbk).1 b (off + J * 8 + 1 + 6) hbw).trans q7⟩ (fun hHeld => ?_)
              clear hK K
              try simp only [Act.put, List.getElem_toArray, List.getElem_cons_succ, List.getElem_cons_zero, List.setIfInBounds_toArray, List.set_cons_zero, List.set_cons_succ]
              refine wpAnyH_take (i := 9) (v := ?_) (by rfl) (by kernel_rfl) (by kernel_rfl) (by kernel_rfl) (by exact fun _ _ _ h => h) (Or.inl ⟨by rfl, ?_⟩) hHeld ?_
              rotate_left
              · (intro w hSw; (try dsimp only at hSw); go_simp; try with_reducible rfl)
              simp only [Act.put, List.getElem_toArray, List.getElem_cons_succ, List.getElem_cons_zero, List.setIfInBounds_toArray, List.set_cons_zero, List.set_cons_succ]
              refine wpAnyH_take (i := 10) (v := ?_) (by rfl) (by kernel_rfl) (by kernel_rfl) (by kernel_rfl) (by exact fun _ _ _ h => h) (Or.inl ⟨by rfl, ?_⟩) hHeld ?_
              rotate_left
              · (intro w hSw; (try dsimp only at hSw); go_simp; try with_reducible rfl)
              simp only [Act.put, List.getElem_toArray, List.getElem_cons_succ, List.getElem_cons_zero, List.setIfInBounds_toArray, List.set_cons_zero, List.set_cons_succ]
              refine wpAnyH_take (i := 11) (v := ?_) (by rfl) (by kernel_rfl) (by kernel_rfl) (by kernel_rfl) (by exact fun _ _ _ h => h) (Or.inl ⟨by rfl, ?_⟩) hHeld ?_
              rotate_left
              · (intro w hSw; (try dsimp only at hSw); go_simp; try with_reducible rfl)
              simp only [Act.put, List.getElem_toArray, List.getElem_cons_succ, List.getElem_cons_zero, List.setIfInBounds_toArray, List.set_cons_zero, List.set_cons_succ]
              refine wpAnyH_take (i := 12) (v := ?_) (by rfl) (by kernel_rfl) (by kernel_rfl) (by kernel_rfl) (by exact fun _ _ _ h => h) (Or.inl ⟨by rfl, ?_⟩) hHeld ?_
              rotate_left
              · (intro w hSw; (try dsimp only at hSw); go_simp; try with_reducible rfl)
              simp only [Act.put, List.getElem_toArray, List.getElem_cons_succ, List.getElem_cons_zero, List.setIfInBounds_toArray, List.set_cons_zero, List.set_cons_succ]
              refine wpAnyH_take (i := 13) (v := ?_) (by rfl) (by kernel_rfl) (by kernel_rfl) (by kernel_rfl) (by exact fun _ _ _ h => h) (Or.inl ⟨by rfl, ?_⟩) hHeld ?_
              rotate_left
              · (intro w hSw; (try dsimp only at hSw); go_simp; try with_reducible rfl)
              simp only [Act.put, List.getElem_toArray, List.getElem_cons_succ, List.getElem_cons_zero, List.setIfInBounds_toArray, List.set_cons_zero, List.set_cons_succ]
              refine wpAnyH_take (i := 14) (v := ?_) (by rfl) (by kernel_rfl) (by kernel_rfl) (by kernel_rfl) (by exact fun _ _ _ h => h) (Or.inl ⟨by rfl, ?_⟩) hHeld ?_
              rotate_left
              · (intro w hSw; (try dsimp only at hSw); go_simp; try with_reducible rfl)
              simp only [Act.put, List.getElem_toArray, List.getElem_cons_succ, List.getElem_cons_zero, List.setIfInBounds_toArray, List.set_cons_zero, List.set_cons_succ]
              refine wpAnyH_take (i := 15) (v := ?_) (by rfl) (by kernel_rfl) (by kernel_rfl) (by kernel_rfl) (by exact fun _ _ _ h => h) (Or.inl ⟨by rfl, ?_⟩) hHeld ?_
              rotate_left
              · (intro w hSw; (try dsimp only at hSw); go_simp; try with_reducible rfl)
              simp only [Act.put, List.getElem_toArray, List.getElem_cons_succ, List.getElem_cons_zero, List.setIfInBounds_toArray, List.set_cons_zero, List.set_cons_succ]
              refine wpAnyH_take (i := 16) (v := ?_) (by rfl) (by kernel_rfl) (by kernel_rfl) (by kernel_rfl) (by exact fun _ _ _ h => h) (Or.inl ⟨by rfl, ?_⟩) hHeld ?_
              rotate_left
              · (intro w hSw; (try dsimp only at hSw); go_simp; try with_reducible rfl)
              simp only [Act.put, List.getElem_toArray, List.getElem_cons_succ, List.getElem_cons_zero, List.setIfInBounds_toArray, List.set_cons_zero, List.set_cons_succ]
              refine wpAnyH_take (i := 17) (v := ?_) (by rfl) (by kernel_rfl) (by kernel_rfl) (by kernel_rfl) (by exact fun _ _ _ h => h) (Or.inl ⟨by rfl, ?_⟩) hHeld ?_
              rotate_left
              · (intro w hSw; (try dsimp only at hSw); go_simp; try with_reducible rfl)
              simp only [Act.put, List.getElem_toArray, List.getElem_cons_succ, List.getElem_cons_zero, List.setIfInBounds_toArray, List.set_cons_zero, List.set_cons_succ]
              refine wpAnyH_take (i := 18) (v := ?_) (by rfl) (by kernel_rfl) (by kernel_rfl) (by kernel_rfl) (by exact fun _ _ _ h => h) (Or.inl ⟨by rfl, ?_⟩) hHeld ?_
              rotate_left
              · (intro w hSw; (try dsimp only at hSw); go_simp; try with_reducible rfl)
              simp only [Act.put, List.getElem_toArray, List.getElem_cons_succ, List.getElem_cons_zero, List.setIfInBounds_toArray, List.set_cons_zero, List.set_cons_succ]
              refine wpAnyH_take (i := 19) (v := ?_) (by rfl) (by kernel_rfl) (by kernel_rfl) (by kernel_rfl) (by exact fun _ _ _ h => h) (Or.inl ⟨by rfl, ?_⟩) hHeld ?_
              rotate_left
              · (intro w hSw; (try dsimp only at hSw); go_simp; try with_reducible rfl)
              simp only [Act.put, List.getElem_toArray, List.getElem_cons_succ, List.getElem_cons_zero, List.setIfInBounds_toArray, List.set_cons_zero, List.set_cons_succ]
              refine wpAnyH_take (i := 20) (v := ?_) (by rfl) (by kernel_rfl) (by kernel_rfl) (by kernel_rfl) (by exact fun _ _ _ h => h) (Or.inl ⟨by rfl, ?_⟩) hHeld ?_
              rotate_left
              · (intro w hSw; (try dsimp only at hSw); go_simp; try with_reducible rfl)
              simp only [Act.put, List.getElem_toArray, List.getElem_cons_succ, List.getElem_cons_zero, List.setIfInBounds_toArray, List.set_cons_zero, List.set_cons_succ]
              refine wpAnyH_take (i := 21) (v := ?_) (by rfl) (by kernel_rfl) (by kernel_rfl) (by kernel_rfl) (by exact fun _ _ _ h => h) (Or.inl ⟨by rfl, ?_⟩) hHeld ?_
              rotate_left
              · (intro w hSw; (try dsimp only at hSw); go_simp; try with_reducible rfl)
              simp only [Act.put, List.getElem_toArray, List.getElem_cons_succ, List.getElem_cons_zero, List.setIfInBounds_toArray, List.set_cons_zero, List.set_cons_succ]
              refine wpAnyH_take (i := 22) (v := ?_) (by rfl) (by kernel_rfl) (by kernel_rfl) (by kernel_rfl) (by exact fun _ _ _ h => h) (Or.inl ⟨by rfl, ?_⟩) hHeld ?_
              rotate_left
              · (intro w hSw; (try dsimp only at hSw); go_simp; try with_reducible rfl)
              simp only [Act.put, List.getElem_toArray, List.getElem_cons_succ, List.getElem_cons_zero, List.setIfInBounds_toArray, List.set_cons_zero, List.set_cons_succ]
              refine wpAnyH_take (i := 23) (v := ?_) (by rfl) (by kernel_rfl) (by kernel_rfl) (by kernel_rfl) (by exact fun _ _ _ h => h) (Or.inl ⟨by rfl, ?_⟩) hHeld ?_
              rotate_left
              · (intro w hSw; (try dsimp only at hSw); go_simp; try with_reducible rfl)
              simp only [Act.put, List.getElem_toArray, List.getElem_cons_succ, List.getElem_cons_zero, List.setIfInBounds_toArray, List.set_cons_zero, List.set_cons_succ]
              refine wpAnyH_take (i := 24) (v := ?_) (by rfl) (by kernel_rfl) (by kernel_rfl) (by kernel_rfl) (by exact fun _ _ _ h => h) (Or.inl ⟨by rfl, ?_⟩) hHeld ?_
              rotate_left
              · (intro w hSw; (try dsimp only at hSw); go_simp; try with_reducible rfl)
              simp only [Act.put, List.getElem_toArray, List.getElem_cons_succ, List.getElem_cons_zero, List.setIfInBounds_toArray, List.set_cons_zero, List.set_cons_succ]
              refine wpAnyH_take (i := 25) (v := ?_) (by rfl) (by kernel_rfl) (by kernel_rfl) (by kernel_rfl) (by exact fun _ _ _ h => h) (Or.inl ⟨by rfl, ?_⟩) hHeld ?_
              rotate_left
              · (intro w hSw; (try dsimp only at hSw); go_simp; try with_reducible rfl)
              simp only [Act.put, List.getElem_toArray, List.getElem_cons_succ, List.getElem_cons_zero, List.setIfInBounds_toArray, List.set_cons_zero, List.set_cons_succ]
              refine wpAnyH_take (i := 26) (v := ?_) (by rfl) (by kernel_rfl) (by kernel_rfl) (by kernel_rfl) (by exact fun _ _ _ h => h) (Or.inl ⟨by rfl, ?_⟩) hHeld ?_
              rotate_left
              · (intro w hSw; (try dsimp only at hSw); go_simp; try with_reducible rfl)
              simp only [Act.put, List.getElem_toArray, List.getElem_cons_succ, List.getElem_cons_zero, List.setIfInBounds_toArray, List.set_cons_zero, List.set_cons_succ]
              refine wpAnyH_take (i := 27) (v := ?_) (by rfl) (by kernel_rfl) (by kernel_rfl) (by kernel_rfl) (by exact fun _ _ _ h => h) (Or.inl ⟨by rfl, ?_⟩) hHeld ?_
              rotate_left
              · (intro w hSw; (try dsimp only at hSw); go_simp; try with_reducible rfl)
              simp only [Act.put, List.getElem_toArray, List.getElem_cons_succ, List.getElem_cons_zero, List.setIfInBounds_toArray, List.set_cons_zero, List.set_cons_succ]
              try simp only [Act.put, List.getElem_toArray, List.getElem_cons_succ, List.getElem_cons_zero, List.setIfInBounds_toArray, List.set_cons_zero, List.set_cons_succ]
              refine wpAnyH_done (by kernel_rfl) ?_ _
              go_wp2
              go_roundw
              case rel => exact ⟨i, (i : Int) - 1, by go_num, by omega, by omega, by rw [HB2.out], hwk⟩
              case measure => (first | (simp [intOf]; done) | (simp [intOf]; omega))
            · have tc : decide (cb < came) = false := by simpa using hcc
              have HB2 : Hid (bi (bestAt fkey list ((er.drop i).map Ev.x)) i = (J : Int)) := by
                show _ = _
                rw [hst, if_neg (by rw [tc]; simp), eJ]
                simp [bi]
                omega
              clear hst hcc e9 eJ
              go_wp2_with fail
              refine wp_region_held_drew (S := (fun wx => wx.cell? ⟨X, 0, none⟩ = some (S key) ∧ wx.cell? ⟨X, 1, none⟩ = some (.slice ap lp.length kp) ∧ wx.cell? ⟨X, 6, none⟩ = some (.int .i64 came) ∧ wx.cell? ⟨r, 2, none⟩ = some (.slice (some ⟨b, off, none⟩) er.length c) ∧ wx.cell? ⟨b, off + J * 8 + 1 + 6, none⟩ = some (.int .i64 cb))) (by kernel_rfl) ⟨y0, y1, y6, x2, q7⟩ (fun hHeld => ?_)
              refine wpAnyH_take (i := 0) (v := ?_) (by rfl) (by kernel_rfl) (by kernel_rfl) (by kernel_rfl) (by exact fun _ _ _ h => h) (Or.inl ⟨by rfl, ?_⟩) hHeld ?_
              rotate_left
              · (intro w hSw; (try dsimp only at hSw); go_simp; try with_reducible rfl)
              simp only [Act.put, List.getElem_toArray, List.getElem_cons_succ, List.getElem_cons_zero, List.setIfInBounds_toArray, List.set_cons_zero, List.set_cons_succ]
              refine wpAnyH_take (i := 1) (v := ?_) (by rfl) (by kernel_rfl) (by kernel_rfl) (by kernel_rfl) (by exact fun _ _ _ h => h) (Or.inl ⟨by rfl, ?_⟩) hHeld ?_
              rotate_left
              · (intro w hSw; (try dsimp only at hSw); go_simp; try with_reducible rfl)
              simp only [Act.put, List.getElem_toArray, List.getElem_cons_succ, List.getElem_cons_zero, List.setIfInBounds_toArray, List.set_cons_zero, List.set_cons_succ]
              refine wpAnyH_take (i := 2) (v := ?_) (by rfl) (by kernel_rfl) (by kernel_rfl) (by kernel_rfl) (by exact fun _ _ _ h => h) (Or.inl ⟨by rfl, ?_⟩) hHeld ?_
              rotate_left
              · (intro w hSw; (try dsimp only at hSw); go_simp; try with_reducible rfl)
              simp only [Act.put, List.getElem_toArray, List.getElem_cons_succ, List.getElem_cons_zero, List.setIfInBounds_toArray, List.set_cons_zero, List.set_cons_succ]
              refine wpAnyH_take (i := 3) (v := ?_) (by rfl) (by kernel_rfl) (by kernel_rfl) (by kernel_rfl) (by exact fun _ _ _ h => h) (Or.inl ⟨by rfl, ?_⟩) hHeld ?_
              rotate_left
              · (intro w hSw; (try dsimp only at hSw); go_simp; try with_reducible rfl)
              simp only [Act.put, List.getElem_toArray, List.getElem_cons_succ, List.getElem_cons_zero, List.setIfInBounds_toArray, List.set_cons_zero, List.set_cons_succ]
              refine wpAnyH_take (i := 4) (v := ?_) (by rfl) (by kernel_rfl) (by kernel_rfl) (by kernel_rfl) (by exact fun _ _ _ h => h) (Or.inl ⟨by rfl, ?_⟩) hHeld ?_
              rotate_left
              · (intro w hSw; (try dsimp only at hSw); go_simp; try with_reducible rfl)
              simp only [Act.put, List.getElem_toArray, List.getElem_cons_succ, List.getElem_cons_zero, List.setIfInBounds_toArray, List.set_cons_zero, List.set_cons_succ]
              refine wpAnyH_take (i := 5) (v := ?_) (by rfl) (by kernel_rfl) (by kernel_rfl) (by kernel_rfl) (by exact fun _ _ _ h => h) (Or.inl ⟨by rfl, ?_⟩) hHeld ?_
              rotate_left
              · (intro w hSw; (try dsimp only at hSw); go_simp; try with_reducible rfl)
              simp only [Act.put, List.getElem_toArray, List.getElem_cons_succ, List.getElem_cons_zero, List.setIfInBounds_toArray, List.set_cons_zero, List.set_cons_succ]
              refine wpAnyH_take (i := 6) (v := ?_) (by rfl) (by kernel_rfl) (by kernel_rfl) (by kernel_rfl) (by exact fun _ _ _ h => h) (Or.inl ⟨by rfl, ?_⟩) hHeld ?_
              rotate_left
              · (intro w hSw; (try dsimp only at hSw); go_simp; try with_reducible rfl)
              simp only [Act.put, List.getElem_toArray, List.getElem_cons_succ, List.getElem_cons_zero, List.setIfInBounds_toArray, List.set_cons_zero, List.set_cons_succ]
              refine wpAnyH_take (i := 7) (v := ?_) (by rfl) (by kernel_rfl) (by kernel_rfl) (by kernel_rfl) (by exact fun _ _ _ h => h) (Or.inl ⟨by rfl, ?_⟩) hHeld ?_
              rotate_left
              · (intro w hSw; (try dsimp only at hSw); go_simp; try with_reducible rfl)
              simp only [Act.put, List.getElem_toArray, List.getElem_cons_succ, List.getElem_cons_zero, List.setIfInBounds_toArray, List.set_cons_zero, List.set_cons_succ]
              refine wpAnyH_ready (rs := [8]) (by kernel_rfl) (by simp) ?_
              refine AllReadyH.cons (by rfl) (fun K hK => ?_) AllReadyH.nil
              go_simp
              (with_reducible refine hM.mono ?_); rintro e wk ⟨rfl, hbk⟩; replace hbk := Bl.undrew hbk; have hXk := hXe.on hbk; have hwk := Bl.tr hwe hbk
              refine hK.out _ _ ⟨hXk.cell 0, hXk.cell 1, hXk.cell 6, (hre.below hbk).blk.cell 2, ((bcell hbk).1 b (off + J * 8 + 1 + 6) hbw).trans q7⟩ (fun hHeld => ?_)
              clear hK K
              try simp only [Act.put, List.getElem_toArray, List.getElem_cons_succ, List.getElem_cons_zero, List.setIfInBounds_toArray, List.set_cons_zero, List.set_cons_succ]
              refine wpAnyH_take (i := 9) (v := ?_) (by rfl) (by kernel_rfl) (by kernel_rfl) (by kernel_rfl) (by exact fun _ _ _ h => h) (Or.inl ⟨by rfl, ?_⟩) hHeld ?_
              rotate_left
              · (intro w hSw; (try dsimp only at hSw); go_simp; try with_reducible rfl)
              simp only [Act.put, List.getElem_toArray, List.getElem_cons_succ, List.getElem_cons_zero, List.setIfInBounds_toArray, List.set_cons_zero, List.set_cons_succ]
              refine wpAnyH_take (i := 10) (v := ?_) (by rfl) (by kernel_rfl) (by kernel_rfl) (by kernel_rfl) (by exact fun _ _ _ h => h) (Or.inl ⟨by rfl, ?_⟩) hHeld ?_
              rotate_left
              · (intro w hSw; (try dsimp only at hSw); go_simp; try with_reducible rfl)
              simp only [Act.put, List.getElem_toArray, List.getElem_cons_succ, List.getElem_cons_zero, List.setIfInBounds_toArray, List.set_cons_zero, List.set_cons_succ]
              refine wpAnyH_take (i := 11) (v := ?_) (by rfl) (by kernel_rfl) (by kernel_rfl) (by kernel_rfl) (by exact fun _ _ _ h => h) (Or.inl ⟨by rfl, ?_⟩) hHeld ?_
              rotate_left
              · (intro w hSw; (try dsimp only at hSw); go_simp; try with_reducible rfl)
              simp only [Act.put, List.getElem_toArray, List.getElem_cons_succ, List.getElem_cons_zero, List.setIfInBounds_toArray, List.set_cons_zero, List.set_cons_succ]
              refine wpAnyH_take (i := 12) (v := ?_) (by rfl) (by kernel_rfl) (by kernel_rfl) (by kernel_rfl) (by exact fun _ _ _ h => h) (Or.inl ⟨by rfl, ?_⟩) hHeld ?_
              rotate_left
              · (intro w hSw; (try dsimp only at hSw); go_simp; try with_reducible rfl)
              simp only [Act.put, List.getElem_toArray, List.getElem_cons_succ, List.getElem_cons_zero, List.setIfInBounds_toArray, List.set_cons_zero, List.set_cons_succ]
              refine wpAnyH_take (i := 13) (v := ?_) (by rfl) (by kernel_rfl) (by kernel_rfl) (by kernel_rfl) (by exact fun _ _ _ h => h) (Or.inl ⟨by rfl, ?_⟩) hHeld ?_
              rotate_left
              · (intro w hSw; (try dsimp only at hSw); go_simp; try with_reducible rfl)
              simp only [Act.put, List.getElem_toArray, List.getElem_cons_succ, List.getElem_cons_zero, List.setIfInBounds_toArray, List.set_cons_zero, List.set_cons_succ]
              refine wpAnyH_take (i := 14) (v := ?_) (by rfl) (by kernel_rfl) (by kernel_rfl) (by kernel_rfl) (by exact fun _ _ _ h => h) (Or.inl ⟨by rfl, ?_⟩) hHeld ?_
              rotate_left
              · (intro w hSw; (try dsimp only at hSw); go_simp; try with_reducible rfl)
              simp only [Act.put, List.getElem_toArray, List.getElem_cons_succ, List.getElem_cons_zero, List.setIfInBounds_toArray, List.set_cons_zero, List.set_cons_succ]
              refine wpAnyH_take (i := 15) (v := ?_) (by rfl) (by kernel_rfl) (by kernel_rfl) (by kernel_rfl) (by exact fun _ _ _ h => h) (Or.inl ⟨by rfl, ?_⟩) hHeld ?_
              rotate_left
              · (intro w hSw; (try dsimp only at hSw); go_simp; try with_reducible rfl)
              simp only [Act.put, List.getElem_toArray, List.getElem_cons_succ, List.getElem_cons_zero, List.setIfInBounds_toArray, List.set_cons_zero, List.set_cons_succ]
              refine wpAnyH_take (i := 16) (v := ?_) (by rfl) (by kernel_rfl) (by kernel_rfl) (by kernel_rfl) (by exact fun _ _ _ h => h) (Or.inl ⟨by rfl, ?_⟩) hHeld ?_
              rotate_left
              · (intro w hSw; (try dsimp only at hSw); go_simp; try with_reducible rfl)
              simp only [Act.put, List.getElem_toArray, List.getElem_cons_succ, List.getElem_cons_zero, List.setIfInBounds_toArray, List.set_cons_zero, List.set_cons_succ]
              refine wpAnyH_take (i := 17) (v := ?_) (by rfl) (by kernel_rfl) (by kernel_rfl) (by kernel_rfl) (by exact fun _ _ _ h => h) (Or.inl ⟨by rfl, ?_⟩) hHeld ?_
              rotate_left
              · (intro w hSw; (try dsimp only at hSw); go_simp; try with_reducible rfl)
              simp only [Act.put, List.getElem_toArray, List.getElem_cons_succ, List.getElem_cons_zero, List.setIfInBounds_toArray, List.set_cons_zero, List.set_cons_succ]
              refine wpAnyH_take (i := 18) (v := ?_) (by rfl) (by kernel_rfl) (by kernel_rfl) (by kernel_rfl) (by exact fun _ _ _ h => h) (Or.inl ⟨by rfl, ?_⟩) hHeld ?_
              rotate_left
              · (intro w hSw; (try dsimp only at hSw); go_simp; try with_reducible rfl)
              simp only [Act.put, List.getElem_toArray, List.getElem_cons_succ, List.getElem_cons_zero, List.setIfInBounds_toArray, List.set_cons_zero, List.set_cons_succ]
              refine wpAnyH_take (i := 19) (v := ?_) (by rfl) (by kernel_rfl) (by kernel_rfl) (by kernel_rfl) (by exact fun _ _ _ h => h) (Or.inl ⟨by rfl, ?_⟩) hHeld ?_
              rotate_left
              · (intro w hSw; (try dsimp only at hSw); go_simp; try with_reducible rfl)
              simp only [Act.put, List.getElem_toArray, List.getElem_cons_succ, List.getElem_cons_zero, List.setIfInBounds_toArray, List.set_cons_zero, List.set_cons_succ]
              refine wpAnyH_take (i := 20) (v := ?_) (by rfl) (by kernel_rfl) (by kernel_rfl) (by kernel_rfl) (by exact fun _ _ _ h => h) (Or.inl ⟨by rfl, ?_⟩) hHeld ?_
              rotate_left
              · (intro w hSw; (try dsimp only at hSw); go_simp; try with_reducible rfl)
              simp only [Act.put, List.getElem_toArray, List.getElem_cons_succ, List.getElem_cons_zero, List.setIfInBounds_toArray, List.set_cons_zero, List.set_cons_succ]
              refine wpAnyH_take (i := 21) (v := ?_) (by rfl) (by kernel_rfl) (by kernel_rfl) (by kernel_rfl) (by exact fun _ _ _ h => h) (Or.inl ⟨by rfl, ?_⟩) hHeld ?_
              rotate_left
              · (intro w hSw; (try dsimp only at hSw); go_simp; try with_reducible rfl)
              simp only [Act.put, List.getElem_toArray, List.getElem_cons_succ, List.getElem_cons_zero, List.setIfInBounds_toArray, List.set_cons_zero, List.set_cons_succ]
              refine wpAnyH_take (i := 22) (v := ?_) (by rfl) (by kernel_rfl) (by kernel_rfl) (by kernel_rfl) (by exact fun _ _ _ h => h) (Or.inl ⟨by rfl, ?_⟩) hHeld ?_
              rotate_left
              · (intro w hSw; (try dsimp only at hSw); go_simp; try with_reducible rfl)
              simp only [Act.put, List.getElem_toArray, List.getElem_cons_succ, List.getElem_cons_zero, List.setIfInBounds_toArray, List.set_cons_zero, List.set_cons_succ]
              refine wpAnyH_take (i := 23) (v := ?_) (by rfl) (by kernel_rfl) (by kernel_rfl) (by kernel_rfl) (by exact fun _ _ _ h => h) (Or.inl ⟨by rfl, ?_⟩) hHeld ?_
              rotate_left
              · (intro w hSw; (try dsimp only at hSw); go_simp; try with_reducible rfl)
              simp only [Act.put, List.getElem_toArray, List.getElem_cons_succ, List.getElem_cons_zero, List.setIfInBounds_toArray, List.set_cons_zero, List.set_cons_succ]
              refine wpAnyH_take (i := 24) (v := ?_) (by rfl) (by kernel_rfl) (by kernel_rfl) (by kernel_rfl) (by exact fun _ _ _ h => h) (Or.inl ⟨by rfl, ?_⟩) hHeld ?_
              rotate_left
              · (intro w hSw; (try dsimp only at hSw); go_simp; try with_reducible rfl)
              simp only [Act.put, List.getElem_toArray, List.getElem_cons_succ, List.getElem_cons_zero, List.setIfInBounds_toArray, List.set_cons_zero, List.set_cons_succ]
              refine wpAnyH_take (i := 25) (v := ?_) (by rfl) (by kernel_rfl) (by kernel_rfl) (by kernel_rfl) (by exact fun _ _ _ h => h) (Or.inl ⟨by rfl, ?_⟩) hHeld ?_
              rotate_left
              · (intro w hSw; (try dsimp only at hSw); go_simp; try with_reducible rfl)
              simp only [Act.put, List.getElem_toArray, List.getElem_cons_succ, List.getElem_cons_zero, List.setIfInBounds_toArray, List.set_cons_zero, List.set_cons_succ]
              refine wpAnyH_take (i := 26) (v := ?_) (by rfl) (by kernel_rfl) (by kernel_rfl) (by kernel_rfl) (by exact fun _ _ _ h => h) (Or.inl ⟨by rfl, ?_⟩) hHeld ?_
              rotate_left
              · (intro w hSw; (try dsimp only at hSw); go_simp; try with_reducible rfl)
              simp only [Act.put, List.getElem_toArray, List.getElem_cons_succ, List.getElem_cons_zero, List.setIfInBounds_toArray, List.set_cons_zero, List.set_cons_succ]
              refine wpAnyH_take (i := 27) (v := ?_) (by rfl) (by kernel_rfl) (by kernel_rfl) (by kernel_rfl) (by exact fun _ _ _ h => h) (Or.inl ⟨by rfl, ?_⟩) hHeld ?_
              rotate_left
              · (intro w hSw; (try dsimp only at hSw); go_simp; try with_reducible rfl)
              simp only [Act.put, List.getElem_toArray, List.getElem_cons_succ, List.getElem_cons_zero, List.setIfInBounds_toArray, List.set_cons_zero, List.set_cons_succ]
              try simp only [Act.put, List.getElem_toArray, List.getElem_cons_succ, List.getElem_cons_zero, List.setIfInBounds_toArray, List.set_cons_zero, List.set_cons_succ]
              refine wpAnyH_done (by kernel_rfl) ?_ _
              go_wp2
              go_roundw
              case rel => exact ⟨i, (i : Int) - 1, by go_num, by omega, by omega, by rw [HB2.out], hwk⟩
              case measure => (first | (simp [intOf]; done) | (simp [intOf]; omega))
      · have hr2 : (key == fkey) = false := by simp [hkey]
        have hft : fits19 fkey list ⟨eid, key, lp, st, lf, body, asked, came⟩ = false := by
          unfold fits19
          simp [hkey]
        rw [hft] at hst
        have HB2 : Hid (bi (bestAt fkey list ((er.drop i).map Ev.x)) i = bi (bestAt fkey list ((er.drop (i + 1)).map Ev.x)) (i + 1)) := by
          show _ = _
          rw [hst]
          cases bestAt fkey list ((er.drop (i + 1)).map Ev.x) with
          | none => rfl
          | some j => simp [bi]; omega
        clear hst hkey hft hpn
        obtain ⟨bv, ebv⟩ : ∃ bv, bv = bi (bestAt fkey list ((er.drop (i + 1)).map Ev.x)) (i + 1) := ⟨_, rfl⟩
        rw [← ebv] at HB2 ⊢
        clear ebv HBI
        have hwk := hwe.drew
        go_wp2_with fail
        refine wp_region_held_drew (S := (fun wx => wx.cell? ⟨X, 0, none⟩ = some (S key) ∧ wx.cell? ⟨X, 1, none⟩ = some (.slice ap lp.length kp) ∧ wx.cell? ⟨X, 6, none⟩ = some (.int .i64 came) ∧ wx.cell? ⟨r, 2, none⟩ = some (.slice (some ⟨b, off, none⟩) er.length c))) (by kernel_rfl) ⟨y0, y1, y6, x2⟩ (fun hHeld => ?_)
        refine wpAnyH_take (i := 0) (v := ?_) (by rfl) (by kernel_rfl) (by kernel_rfl) (by kernel_rfl) (by exact fun _ _ _ h => h) (Or.inl ⟨by rfl, ?_⟩) hHeld ?_
        rotate_left
        · (intro w hSw; (try dsimp only at hSw); go_simp; try with_reducible rfl)
        simp only [Act.put, List.getElem_toArray, List.getElem_cons_succ, List.getElem_cons_zero, List.setIfInBounds_toArray, List.set_cons_zero, List.set_cons_succ]
        refine wpAnyH_take (i := 1) (v := ?_) (by rfl) (by kernel_rfl) (by kernel_rfl) (by kernel_rfl) (by exact fun _ _ _ h => h) (Or.inl ⟨by rfl, ?_⟩) hHeld ?_
        rotate_left
        · (intro w hSw; (try dsimp only at hSw); go_simp; try with_reducible rfl)
        simp only [Act.put, List.getElem_toArray, List.getElem_cons_succ, List.getElem_cons_zero, List.setIfInBounds_toArray, List.set_cons_zero, List.set_cons_succ]
        refine wpAnyH_take (i := 2) (v := ?_) (by rfl) (by kernel_rfl) (by kernel_rfl) (by kernel_rfl) (by exact fun _ _ _ h => h) (Or.inl ⟨by rfl, ?_⟩) hHeld ?_
        rotate_left
        · (intro w hSw; (try dsimp only at hSw); go_simp; try with_reducible rfl)
        simp only [Act.put, List.getElem_toArray, List.getElem_cons_succ, List.getElem_cons_zero, List.setIfInBounds_toArray, List.set_cons_zero, List.set_cons_succ]
        refine wpAnyH_take (i := 3) (v := ?_) (by rfl) (by kernel_rfl) (by kernel_rfl) (by kernel_rfl) (by exact fun _ _ _ h => h) (Or.inl ⟨by rfl, ?_⟩) hHeld ?_
        rotate_left
        · (intro w hSw; (try dsimp only at hSw); go_simp; try with_reducible rfl)
        simp only [Act.put, List.getElem_toArray, List.getElem_cons_succ, List.getElem_cons_zero, List.setIfInBounds_toArray, List.set_cons_zero, List.set_cons_succ]
        refine wpAnyH_take (i := 4) (v := ?_) (by rfl) (by kernel_rfl) (by kernel_rfl) (by kernel_rfl) (by exact fun _ _ _ h => h) (Or.inl ⟨by rfl, ?_⟩) hHeld ?_
        rotate_left
        · (intro w hSw; (try dsimp only at hSw); go_simp; try with_reducible rfl)
        simp only [Act.put, List.getElem_toArray, List.getElem_cons_succ, List.getElem_cons_zero, List.setIfInBounds_toArray, List.set_cons_zero, List.set_cons_succ]
        refine wpAnyH_take (i := 5) (v := undef) (by rfl) (by kernel_rfl) (by kernel_rfl) (by kernel_rfl) (by exact fun _ _ _ h => h) (Or.inr ⟨by rfl, rfl⟩) hHeld ?_
        simp only [Act.put, List.getElem_toArray, List.getElem_cons_succ, List.getElem_cons_zero, List.setIfInBounds_toArray, List.set_cons_zero, List.set_cons_succ]
        refine wpAnyH_take (i := 6) (v := undef) (by rfl) (by kernel_rfl) (by kernel_rfl) (by kernel_rfl) (by exact fun _ _ _ h => h) (Or.inr ⟨by rfl, rfl⟩) hHeld ?_
        simp only [Act.put, List.getElem_toArray, List.getElem_cons_succ, List.getElem_cons_zero, List.setIfInBounds_toArray, List.set_cons_zero, List.set_cons_succ]
        refine wpAnyH_take (i := 7) (v := undef) (by rfl) (by kernel_rfl) (by kernel_rfl) (by kernel_rfl) (by exact fun _ _ _ h => h) (Or.inr ⟨by rfl, rfl⟩) hHeld ?_
        simp only [Act.put, List.getElem_toArray, List.getElem_cons_succ, List.getElem_cons_zero, List.setIfInBounds_toArray, List.set_cons_zero, List.set_cons_succ]
        refine wpAnyH_take (i := 8) (v := undef) (by rfl) (by kernel_rfl) (by kernel_rfl) (by kernel_rfl) (by exact fun _ _ _ h => h) (Or.inr ⟨by rfl, rfl⟩) hHeld ?_
        simp only [Act.put, List.getElem_toArray, List.getElem_cons_succ, List.getElem_cons_zero, List.setIfInBounds_toArray, List.set_cons_zero, List.set_cons_succ]
        refine wpAnyH_take (i := 9) (v := ?_) (by rfl) (by kernel_rfl) (by kernel_rfl) (by kernel_rfl) (by exact fun _ _ _ h => h) (Or.inl ⟨by rfl, ?_⟩) hHeld ?_
        rotate_left
        · (intro w hSw; (try dsimp only at hSw); go_simp; try with_reducible rfl)
        simp only [Act.put, List.getElem_toArray, List.getElem_cons_succ, List.getElem_cons_zero, List.setIfInBounds_toArray, List.set_cons_zero, List.set_cons_succ]
        refine wpAnyH_take (i := 10) (v := ?_) (by rfl) (by kernel_rfl) (by kernel_rfl) (by kernel_rfl) (by exact fun _ _ _ h => h) (Or.inl ⟨by rfl, ?_⟩) hHeld ?_
        rotate_left
        · (intro w hSw; (try dsimp only at hSw); go_simp; try with_reducible rfl)
        simp only [Act.put, List.getElem_toArray, List.getElem_cons_succ, List.getElem_cons_zero, List.setIfInBounds_toArray, List.set_cons_zero, List.set_cons_succ]
        refine wpAnyH_take (i := 11) (v := undef) (by rfl) (by kernel_rfl) (by kernel_rfl) (by kernel_rfl) (by exact fun _ _ _ h => h) (Or.inr ⟨by rfl, rfl⟩) hHeld ?_
        simp only [Act.put, List.getElem_toArray, List.getElem_cons_succ, List.getElem_cons_zero, List.setIfInBounds_toArray, List.set_cons_zero, List.set_cons_succ]
        refine wpAnyH_take (i := 12) (v := undef) (by rfl) (by kernel_rfl) (by kernel_rfl) (by kernel_rfl) (by exact fun _ _ _ h => h) (Or.inr ⟨by rfl, rfl⟩) hHeld ?_
        simp only [Act.put, List.getElem_toArray, List.getElem_cons_succ, List.getElem_cons_zero, List.setIfInBounds_toArray, List.set_cons_zero, List.set_cons_succ]
        refine wpAnyH_take (i := 13) (v := undef) (by rfl) (by kernel_rfl) (by kernel_rfl) (by kernel_rfl) (by exact fun _ _ _ h => h) (Or.inr ⟨by rfl, rfl⟩) hHeld ?_
        simp only [Act.put, List.getElem_toArray, List.getElem_cons_succ, List.getElem_cons_zero, List.setIfInBounds_toArray, List.set_cons_zero, List.set_cons_succ]
        refine wpAnyH_take (i := 14) (v := undef) (by rfl) (by kernel_rfl) (by kernel_rfl) (by kernel_rfl) (by exact fun _ _ _ h => h) (Or.inr ⟨by rfl, rfl⟩) hHeld ?_
        simp only [Act.put, List.getElem_toArray, List.getElem_cons_succ, List.getElem_cons_zero, List.setIfInBounds_toArray, List.set_cons_zero, List.set_cons_succ]
        refine wpAnyH_take (i := 15) (v := undef) (by rfl) (by kernel_rfl) (by kernel_rfl) (by kernel_rfl) (by exact fun _ _ _ h => h) (Or.inr ⟨by rfl, rfl⟩) hHeld ?_
        simp only [Act.put, List.getElem_toArray, List.getElem_cons_succ, List.getElem_cons_zero, List.setIfInBounds_toArray, List.set_cons_zero, List.set_cons_succ]
        refine wpAnyH_take (i := 16) (v := undef) (by rfl) (by kernel_rfl) (by kernel_rfl) (by kernel_rfl) (by exact fun _ _ _ h => h) (Or.inr ⟨by rfl, rfl⟩) hHeld ?_
        simp only [Act.put, List.getElem_toArray, List.getElem_cons_succ, List.getElem_cons_zero, List.setIfInBounds_toArray, List.set_cons_zero, List.set_cons_succ]
        refine wpAnyH_take (i := 17) (v := undef) (by rfl) (by kernel_rfl) (by kernel_rfl) (by kernel_rfl) (by exact fun _ _ _ h => h) (Or.inr ⟨by rfl, rfl⟩) hHeld ?_
        simp only [Act.put, List.getElem_toArray, List.getElem_cons_succ, List.getElem_cons_zero, List.setIfInBounds_toArray, List.set_cons_zero, List.set_cons_succ]
        refine wpAnyH_take (i := 18) (v := undef) (by rfl) (by kernel_rfl) (by kernel_rfl) (by kernel_rfl) (by exact fun _ _ _ h => h) (Or.inr ⟨by rfl, rfl⟩) hHeld ?_
        simp only [Act.put, List.getElem_toArray, List.getElem_cons_succ, List.getElem_cons_zero, List.setIfInBounds_toArray, List.set_cons_zero, List.set_cons_succ]
        refine wpAnyH_take (i := 19) (v := undef) (by rfl) (by kernel_rfl) (by kernel_rfl) (by kernel_rfl) (by exact fun _ _ _ h => h) (Or.inr ⟨by rfl, rfl⟩) hHeld ?_
        simp only [Act.put, List.getElem_toArray, List.getElem_cons_succ, List.getElem_cons_zero, List.setIfInBounds_toArray, List.set_cons_zero, List.set_cons_succ]
        refine wpAnyH_take (i := 20) (v := undef) (by rfl) (by kernel_rfl) (by kernel_rfl) (by kernel_rfl) (by exact fun _ _ _ h => h) (Or.inr ⟨by rfl, rfl⟩) hHeld ?_
        simp only [Act.put, List.getElem_toArray, List.getElem_cons_succ, List.getElem_cons_zero, List.setIfInBounds_toArray, List.set_cons_zero, List.set_cons_succ]
        refine wpAnyH_take (i := 21) (v := undef) (by rfl) (by kernel_rfl) (by kernel_rfl) (by kernel_rfl) (by exact fun _ _ _ h => h) (Or.inr ⟨by rfl, rfl⟩) hHeld ?_
        simp only [Act.put, List.getElem_toArray, List.getElem_cons_succ, List.getElem_cons_zero, List.setIfInBounds_toArray, List.set_cons_zero, List.set_cons_succ]
        refine wpAnyH_take (i := 22) (v := undef) (by rfl) (by kernel_rfl) (by kernel_rfl) (by kernel_rfl) (by exact fun _ _ _ h => h) (Or.inr ⟨by rfl, rfl⟩) hHeld ?_
        simp only [Act.put, List.getElem_toArray, List.getElem_cons_succ, List.getElem_cons_zero, List.setIfInBounds_toArray, List.set_cons_zero, List.set_cons_succ]
        refine wpAnyH_take (i := 23) (v := undef) (by rfl) (by kernel_rfl) (by kernel_rfl) (by kernel_rfl) (by exact fun _ _ _ h => h) (Or.inr ⟨by rfl, rfl⟩) hHeld ?_
        simp only [Act.put, List.getElem_toArray, List.getElem_cons_succ, List.getElem_cons_zero, List.setIfInBounds_toArray, List.set_cons_zero, List.set_cons_succ]
        refine wpAnyH_take (i := 24) (v := undef) (by rfl) (by kernel_rfl) (by kernel_rfl) (by kernel_rfl) (by exact fun _ _ _ h => h) (Or.inr ⟨by rfl, rfl⟩) hHeld ?_
        simp only [Act.put, List.getElem_toArray, List.getElem_cons_succ, List.getElem_cons_zero, List.setIfInBounds_toArray, List.set_cons_zero, List.set_cons_succ]
        refine wpAnyH_take (i := 25) (v := undef) (by rfl) (by kernel_rfl) (by kernel_rfl) (by kernel_rfl) (by exact fun _ _ _ h => h) (Or.inr ⟨by rfl, rfl⟩) hHeld ?_
        simp only [Act.put, List.getElem_toArray, List.getElem_cons_succ, List.getElem_cons_zero, List.setIfInBounds_toArray, List.set_cons_zero, List.set_cons_succ]
        refine wpAnyH_take (i := 26) (v := undef) (by rfl) (by kernel_rfl) (by kernel_rfl) (by kernel_rfl) (by exact fun _ _ _ h => h) (Or.inr ⟨by rfl, rfl⟩) hHeld ?_
        simp only [Act.put, List.getElem_toArray, List.getElem_cons_succ, List.getElem_cons_zero, List.setIfInBounds_toArray, List.set_cons_zero, List.set_cons_succ]
        refine wpAnyH_take (i := 27) (v := ?_) (by rfl) (by kernel_rfl) (by kernel_rfl) (by kernel_rfl) (by exact fun _ _ _ h => h) (Or.inl ⟨by rfl, ?_⟩) hHeld ?_
        rotate_left
        · (intro w hSw; (try dsimp only at hSw); go_simp; try with_reducible rfl)
        simp only [Act.put, List.getElem_toArray, List.getElem_cons_succ, List.getElem_cons_zero, List.setIfInBounds_toArray, List.set_cons_zero, List.set_cons_succ]
        try simp only [Act.put, List.getElem_toArray, List.getElem_cons_succ, List.getElem_cons_zero, List.setIfInBounds_toArray, List.set_cons_zero, List.set_cons_succ]
        refine wpAnyH_done (by kernel_rfl) ?_ _
        go_wp2
        go_roundw
        case rel => exact ⟨i, (i : Int) - 1, by go_num, by omega, by omega, by rw [HB2.out], hwk⟩
        case measure => (first | (simp [intOf]; done) | (simp [intOf]; omega))
end Go.Proofs.YtnflihjgbkocnaaDoor
