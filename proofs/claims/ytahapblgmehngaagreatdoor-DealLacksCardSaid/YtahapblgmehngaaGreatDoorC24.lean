/- Parts of the proof of DealLacks_holds: the texts Dea3. -/
import Derived.Test.YtahapblgmehngaaGreatDoorC21
import Derived.Test.YtahapblgmehngaaGreatDoorC23
set_option linter.unusedSimpArgs false
set_option linter.unusedVariables false
set_option linter.unnecessarySimpa false
namespace Go.Dr
open Go.RowKit

/-- The nine cells of a deal are written. -/
abbrev put9 (W : World) (g : Nat) (b0 b1 b2 b3 b4 b5 b6 b7 b8 : Value) : World := (((((((((W.setCell ⟨g, 0, none⟩ b0).setCell ⟨g, 1, none⟩ b1).setCell ⟨g, 2, none⟩ b2).setCell ⟨g, 3, none⟩ b3).setCell ⟨g, 4, none⟩ b4).setCell ⟨g, 5, none⟩ b5).setCell ⟨g, 6, none⟩ b6).setCell ⟨g, 7, none⟩ b7).setCell ⟨g, 8, none⟩ b8)
theorem Blk.put9 {w : World} {g : Nat} {t : TypeId} {z0 z1 z2 z3 z4 z5 z6 z7 z8 : Value} (h : Blk w g t #[z0, z1, z2, z3, z4, z5, z6, z7, z8]) (b0 b1 b2 b3 b4 b5 b6 b7 b8 : Value) : Blk (put9 w g b0 b1 b2 b3 b4 b5 b6 b7 b8) g t #[b0, b1, b2, b3, b4, b5, b6, b7, b8] := by
  have := ((((((((h.set 0 b0).set 1 b1).set 2 b2).set 3 b3).set 4 b4).set 5 b5).set 6 b6).set 7 b7).set 8 b8
  simpa using this
theorem put9_below {B : Nat} {a w : World} (h : Below B a w) {g : Nat} (hg : B ≤ g) (b0 b1 b2 b3 b4 b5 b6 b7 b8 : Value) : Below B a (put9 w g b0 b1 b2 b3 b4 b5 b6 b7 b8) :=
  ((((((((h.setCell (p := ⟨g, 0, none⟩) hg b0).setCell (p := ⟨g, 1, none⟩) hg b1).setCell (p := ⟨g, 2, none⟩) hg b2).setCell (p := ⟨g, 3, none⟩) hg b3).setCell (p := ⟨g, 4, none⟩) hg b4).setCell (p := ⟨g, 5, none⟩) hg b5).setCell (p := ⟨g, 6, none⟩) hg b6).setCell (p := ⟨g, 7, none⟩) hg b7).setCell (p := ⟨g, 8, none⟩) hg b8
theorem put9_other {w : World} {g k : Nat} {t : TypeId} {xs : Array Value} (h : Blk w k t xs) (hk : k ≠ g) (b0 b1 b2 b3 b4 b5 b6 b7 b8 : Value) : Blk (put9 w g b0 b1 b2 b3 b4 b5 b6 b7 b8) k t xs := by
  have hb : But (fun i => i = g) w (put9 w g b0 b1 b2 b3 b4 b5 b6 b7 b8) := (((((((((But.refl (fun i => i = g) w).setCell (p := ⟨g, 0, none⟩) (.inl rfl) b0).setCell (p := ⟨g, 1, none⟩) (.inl rfl) b1).setCell (p := ⟨g, 2, none⟩) (.inl rfl) b2).setCell (p := ⟨g, 3, none⟩) (.inl rfl) b3).setCell (p := ⟨g, 4, none⟩) (.inl rfl) b4).setCell (p := ⟨g, 5, none⟩) (.inl rfl) b5).setCell (p := ⟨g, 6, none⟩) (.inl rfl) b6).setCell (p := ⟨g, 7, none⟩) (.inl rfl) b7).setCell (p := ⟨g, 8, none⟩) (.inl rfl) b8
  exact h.but hb hk
end Go.Dr
namespace Go.Proofs.YtahapblgmehngaaGreatDoor
open Go.RowKit Go.Dr
theorem run_oi (ns nc nt pu pr mr px oi : Bool) (ma sm mf ms : Int) (w : World) : (Instr.field 80 (.agg #[.bool ns, .bool nc, .bool nt, .bool pu, .bool pr, .bool mr, .bool px, .bool oi, .int .i64 ma, .int .i64 sm, .int .i64 mf, .int .i64 ms]) 7).run Tryz.prog w = .ok (.bool oi) w := by kernel_rfl
abbrev dealV (kind id : Int) (key : Bytes) (vp : Value) (st : Int) (vf : Value) (body : Bytes) (asked came : Int) : Value := .agg #[.int .i64 kind, .int .i64 id, S key, vp, .int .i64 st, vf, S body, .int .i64 asked, .int .i64 came]
abbrev dealZ (kind : Int) : Value := dealV kind 0 [] (.slice none 0 0) 0 (.slice none 0 0) [] 0 0

set_option maxRecDepth 100000 in
set_option maxHeartbeats 4000000 in
theorem ret_serve {W : World} {tmps : Array Value} {b : Nat} {v0 v1 v2 v3 v4 v5 v6 v7 v8 : Value} {c : Bool} {R : Ending → World → Prop} (hs : tmps[2]? = some (.pointer (some ⟨b, 0, none⟩))) (hc : tmps[3]? = some (.bool c)) (h : Blk W b 38 #[v0, v1, v2, v3, v4, v5, v6, v7, v8]) (hR : R (.returned (.tuple #[.agg #[v0, v1, v2, v3, v4, v5, v6, v7, v8], .bool c])) W) :
    bodyPost Tryz.prog Tryz.f35 R .ret { tmps := tmps, defers := [] } W := by
  (have g0 : W.cell? ⟨b, 0, none⟩ = some (v0) := h.cell 0; have g1 : W.cell? ⟨b, 1, none⟩ = some (v1) := h.cell 1; have g2 : W.cell? ⟨b, 2, none⟩ = some (v2) := h.cell 2; have g3 : W.cell? ⟨b, 3, none⟩ = some (v3) := h.cell 3; have g4 : W.cell? ⟨b, 4, none⟩ = some (v4) := h.cell 4; have g5 : W.cell? ⟨b, 5, none⟩ = some (v5) := h.cell 5; have g6 : W.cell? ⟨b, 6, none⟩ = some (v6) := h.cell 6; have g7 : W.cell? ⟨b, 7, none⟩ = some (v7) := h.cell 7; have g8 : W.cell? ⟨b, 8, none⟩ = some (v8) := h.cell 8)
  exact bodyPost_ret (v := .tuple #[.agg #[v0, v1, v2, v3, v4, v5, v6, v7, v8], .bool c]) (by simp [results, Tryz.results35, go_sem, hs, hc, g0, g1, g2, g3, g4, g5, g6, g7, g8]) rfl hR

set_option maxRecDepth 100000 in
set_option maxHeartbeats 4000000 in
theorem deal_serve_any (rm rs ra rp : Bytes) (pr : Option Addr) (cr : Nat) (lr : List F) (now : Int) (key : Bytes) (a1 : Option Addr) (n1 c1 : Nat) (st : Int) (a2 : Option Addr) (c2 : Nat) (lf : List F) (body : Bytes) (asked came id : Int) (fd : Bool) (w : World) (hr : Fs w.heap.size w (.slice pr lr.length cr) lr) (hf : Fs w.heap.size w (.slice a2 lf.length c2) lf) (hl : fsum lr ≤ 1099511627776) (hl2 : fsum lf ≤ 1099511627776) :
    Calls Tryz.prog 35 #[.agg #[S rm, S rs, S ra, S rp, .slice pr lr.length cr, .int .i64 now, S key, .slice a1 n1 c1, .int .i64 st, .slice a2 lf.length c2, S body, .int .i64 asked, .int .i64 came, .int .i64 id, .bool fd]] w fun e w' => e = .returned (.tuple #[dealV 1 id key (.slice a1 n1 c1) st (.slice a2 lf.length c2) body asked came, .bool (fd && goodF lr lf st asked came now)]) ∧ Below w.heap.size w w' := by
  obtain ⟨w1, e1⟩ : ∃ w1 : World, w1 = w.alloc (.cells #[S rm, S rs, S ra, S rp, .slice pr lr.length cr, .int .i64 now, S key, .slice a1 n1 c1, .int .i64 st, .slice a2 lf.length c2, S body, .int .i64 asked, .int .i64 came, .int .i64 id, .bool fd] 72) := ⟨_, rfl⟩
  obtain ⟨M, eM⟩ : ∃ M, M = w.heap.size := ⟨_, rfl⟩
  have hs1 : w1.heap.size = M + 1 := by rw [e1, eM]; simp
  have hM1 : Blk w1 M 72 #[S rm, S rs, S ra, S rp, .slice pr lr.length cr, .int .i64 now, S key, .slice a1 n1 c1, .int .i64 st, .slice a2 lf.length c2, S body, .int .i64 asked, .int .i64 came, .int .i64 id, .bool fd] := by rw [e1, eM]; exact Blk.new _ _ _
  obtain ⟨w0, e0⟩ : ∃ w0 : World, w0 = w1.alloc (.cells #[.int .i64 0, .int .i64 0, S [], .slice none 0 0, .int .i64 0, .slice none 0 0, S [], .int .i64 0, .int .i64 0] 38) := ⟨_, rfl⟩
  obtain ⟨Z, eZ⟩ : ∃ Z, Z = M + 1 := ⟨_, rfl⟩
  have hM0 : Blk w0 M 72 #[S rm, S rs, S ra, S rp, .slice pr lr.length cr, .int .i64 now, S key, .slice a1 n1 c1, .int .i64 st, .slice a2 lf.length c2, S body, .int .i64 asked, .int .i64 came, .int .i64 id, .bool fd] := by rw [e0]; exact hM1.alloc _
  have hZ0 : Blk w0 Z 38 #[.int .i64 0, .int .i64 0, S [], .slice none 0 0, .int .i64 0, .slice none 0 0, S [], .int .i64 0, .int .i64 0] := by rw [e0, eZ, ← hs1]; exact Blk.new _ _ _
  have hb0 : Below w.heap.size w w0 := by rw [e0]; exact ((by rw [e1]; exact (Below.refl _ _).alloc (Nat.le_refl _) _ : Below w.heap.size w w1)).alloc (by rw [hs1, eM]; omega) _
  have hMZ : M ≠ Z := by omega
  have hwZ : w.heap.size ≤ Z := by omega
  have hr0 := (hr.below hb0).mono hb0.size
  have hf0 := (hf.below hb0).mono hb0.size
  have HM := Lib.hid eM
  have HZ := Lib.hid eZ
  have HW : Hid (w0 = (w.alloc (.cells #[S rm, S rs, S ra, S rp, .slice pr lr.length cr, .int .i64 now, S key, .slice a1 n1 c1, .int .i64 st, .slice a2 lf.length c2, S body, .int .i64 asked, .int .i64 came, .int .i64 id, .bool fd] 72)).alloc (.cells #[.int .i64 0, .int .i64 0, S [], .slice none 0 0, .int .i64 0, .slice none 0 0, S [], .int .i64 0, .int .i64 0] 38)) := by show _ = _; rw [e0, e1]
  clear e0 e1 eZ eM hs1 hM1
  obtain ⟨gd, egd⟩ : ∃ gd, gd = goodF lr lf st asked came now := ⟨_, rfl⟩
  have hG := fun w h1 h2 => Good_any ⟨rm, rs, ra, rp, .slice pr lr.length cr⟩ ⟨key, .slice a1 n1 c1, st, .slice a2 lf.length c2, body, asked, came⟩ lr lf now w h1 h2 hl hl2
  simp only [Rq.val, En.val] at hG
  rw [← egd] at hG ⊢
  have HG := Lib.hid hG
  clear egd hG
  cases fd with
  | false =>
    obtain ⟨res, eres⟩ : ∃ res, res = (false && gd) := ⟨_, rfl⟩
    rw [← eres]
    have HRES : Hid (res = false) := by show _ = _; rw [eres]; rfl
    clear eres
    go_enter Tryz.func35, Tryz.ntmps35
    go_upto_region 1 with fail
    rw [← HW.out, ← HM.out, ← HZ.out]
    have x0 : w0.cell? ⟨M, 0, none⟩ = some (S rm) := hM0.cell 0; have x1 : w0.cell? ⟨M, 1, none⟩ = some (S rs) := hM0.cell 1; have x2 : w0.cell? ⟨M, 2, none⟩ = some (S ra) := hM0.cell 2; have x3 : w0.cell? ⟨M, 3, none⟩ = some (S rp) := hM0.cell 3; have x4 : w0.cell? ⟨M, 4, none⟩ = some (.slice pr lr.length cr) := hM0.cell 4; have x5 : w0.cell? ⟨M, 5, none⟩ = some (.int .i64 now) := hM0.cell 5; have x6 : w0.cell? ⟨M, 6, none⟩ = some (S key) := hM0.cell 6; have x7 : w0.cell? ⟨M, 7, none⟩ = some (.slice a1 n1 c1) := hM0.cell 7; have x8 : w0.cell? ⟨M, 8, none⟩ = some (.int .i64 st) := hM0.cell 8; have x9 : w0.cell? ⟨M, 9, none⟩ = some (.slice a2 lf.length c2) := hM0.cell 9; have x10 : w0.cell? ⟨M, 10, none⟩ = some (S body) := hM0.cell 10; have x11 : w0.cell? ⟨M, 11, none⟩ = some (.int .i64 asked) := hM0.cell 11; have x12 : w0.cell? ⟨M, 12, none⟩ = some (.int .i64 came) := hM0.cell 12; have x13 : w0.cell? ⟨M, 13, none⟩ = some (.int .i64 id) := hM0.cell 13; have x14 : w0.cell? ⟨M, 14, none⟩ = some (.bool false) := hM0.cell 14; have v1 : w0.cell? ⟨M, 6 + 1, none⟩ = some (.slice a1 n1 c1) := hM0.cell 7; have v2 : w0.cell? ⟨M, 6 + 2, none⟩ = some (.int .i64 st) := hM0.cell 8; have v3 : w0.cell? ⟨M, 6 + 3, none⟩ = some (.slice a2 lf.length c2) := hM0.cell 9; have v4 : w0.cell? ⟨M, 6 + 4, none⟩ = some (S body) := hM0.cell 10; have v5 : w0.cell? ⟨M, 6 + 5, none⟩ = some (.int .i64 asked) := hM0.cell 11; have v6 : w0.cell? ⟨M, 6 + 6, none⟩ = some (.int .i64 came) := hM0.cell 12
    have z0 : w0.cell? ⟨Z, 0, none⟩ = some (.int .i64 0) := hZ0.cell 0; have f0 := hZ0.free 0; have z1 : w0.cell? ⟨Z, 1, none⟩ = some (.int .i64 0) := hZ0.cell 1; have f1 := hZ0.free 1; have z2 : w0.cell? ⟨Z, 2, none⟩ = some (S []) := hZ0.cell 2; have f2 := hZ0.free 2; have z3 : w0.cell? ⟨Z, 3, none⟩ = some (.slice none 0 0) := hZ0.cell 3; have f3 := hZ0.free 3; have z4 : w0.cell? ⟨Z, 4, none⟩ = some (.int .i64 0) := hZ0.cell 4; have f4 := hZ0.free 4; have z5 : w0.cell? ⟨Z, 5, none⟩ = some (.slice none 0 0) := hZ0.cell 5; have f5 := hZ0.free 5; have z6 : w0.cell? ⟨Z, 6, none⟩ = some (S []) := hZ0.cell 6; have f6 := hZ0.free 6; have z7 : w0.cell? ⟨Z, 7, none⟩ = some (.int .i64 0) := hZ0.cell 7; have f7 := hZ0.free 7; have z8 : w0.cell? ⟨Z, 8, none⟩ = some (.int .i64 0) := hZ0.cell 8; have f8 := hZ0.free 8
    go_wp2_with fail
    refine wp_region_held_drew (S := (fun wx => wx.cell? ⟨M, 0, none⟩ = some (S rm) ∧ wx.cell? ⟨M, 1, none⟩ = some (S rs) ∧ wx.cell? ⟨M, 2, none⟩ = some (S ra) ∧ wx.cell? ⟨M, 3, none⟩ = some (S rp) ∧ wx.cell? ⟨M, 4, none⟩ = some (.slice pr lr.length cr) ∧ wx.cell? ⟨M, 5, none⟩ = some (.int .i64 now) ∧ wx.cell? ⟨M, 6, none⟩ = some (S key) ∧ wx.cell? ⟨M, 6 + 1, none⟩ = some (.slice a1 n1 c1) ∧ wx.cell? ⟨M, 6 + 2, none⟩ = some (.int .i64 st) ∧ wx.cell? ⟨M, 6 + 3, none⟩ = some (.slice a2 lf.length c2) ∧ wx.cell? ⟨M, 6 + 4, none⟩ = some (S body) ∧ wx.cell? ⟨M, 6 + 5, none⟩ = some (.int .i64 asked) ∧ wx.cell? ⟨M, 6 + 6, none⟩ = some (.int .i64 came) ∧ wx.cell? ⟨M, 13, none⟩ = some (.int .i64 id) ∧ wx.cell? ⟨M, 14, none⟩ = some (.bool false))) (by kernel_rfl) ⟨hM0.cell 0, hM0.cell 1, hM0.cell 2, hM0.cell 3, hM0.cell 4, hM0.cell 5, hM0.cell 6, hM0.cell 7, hM0.cell 8, hM0.cell 9, hM0.cell 10, hM0.cell 11, hM0.cell 12, hM0.cell 13, hM0.cell 14⟩ (fun hHeld => ?_)
    (refine tkA 0 ?_ ?_ hHeld ?_; rotate_left; (intro w hSw; (try dsimp only at hSw); go_simp; try with_reducible rfl); simp only [Act.put, PT])
    (refine tkA 1 ?_ ?_ hHeld ?_; rotate_left; (intro w hSw; (try dsimp only at hSw); go_simp; try with_reducible rfl); simp only [Act.put, PT])
    (refine tkA 2 ?_ ?_ hHeld ?_; rotate_left; (intro w hSw; (try dsimp only at hSw); go_simp; try with_reducible rfl); simp only [Act.put, PT])
    (refine tkA 3 ?_ ?_ hHeld ?_; rotate_left; (intro w hSw; (try dsimp only at hSw); go_simp; try with_reducible rfl); simp only [Act.put, PT])
    (refine tkA 4 ?_ ?_ hHeld ?_; rotate_left; (intro w hSw; (try dsimp only at hSw); go_simp; try with_reducible rfl); simp only [Act.put, PT])
    (refine tkA 5 ?_ ?_ hHeld ?_; rotate_left; (intro w hSw; (try dsimp only at hSw); go_simp; try with_reducible rfl); simp only [Act.put, PT])
    (refine tkA 6 ?_ ?_ hHeld ?_; rotate_left; (intro w hSw; (try dsimp only at hSw); go_simp; try with_reducible rfl); simp only [Act.put, PT])
    (refine tkA 7 ?_ ?_ hHeld ?_; rotate_left; (intro w hSw; (try dsimp only at hSw); go_simp; try with_reducible rfl); simp only [Act.put, PT])
    (refine tkB 8 hHeld ?_; simp only [Act.put, PT])
    (refine tkB 9 hHeld ?_; simp only [Act.put, PT])
    (refine tkB 10 hHeld ?_; simp only [Act.put, PT])
    (refine tkB 11 hHeld ?_; simp only [Act.put, PT])
    (refine tkB 12 hHeld ?_; simp only [Act.put, PT])
    (refine tkB 13 hHeld ?_; simp only [Act.put, PT])
    (refine tkB 14 hHeld ?_; simp only [Act.put, PT])
    (refine tkA 15 ?_ ?_ hHeld ?_; rotate_left; (intro w hSw; (try dsimp only at hSw); go_simp; try with_reducible rfl); simp only [Act.put, PT])
    refine wpAnyH_ready (rs := [16]) (by kernel_rfl) (by simp) ?_
    refine AllReadyH.cons (by rfl) (fun K hK => ?_) AllReadyH.nil
    go_simp
    skip
    refine hK.out _ _ ⟨((put9_other hM0 hMZ (.int .i64 1) (.int .i64 id) (S key) (.slice a1 n1 c1) (.int .i64 st) (.slice a2 lf.length c2) (S body) (.int .i64 asked) (.int .i64 came)).drew).cell 0, ((put9_other hM0 hMZ (.int .i64 1) (.int .i64 id) (S key) (.slice a1 n1 c1) (.int .i64 st) (.slice a2 lf.length c2) (S body) (.int .i64 asked) (.int .i64 came)).drew).cell 1, ((put9_other hM0 hMZ (.int .i64 1) (.int .i64 id) (S key) (.slice a1 n1 c1) (.int .i64 st) (.slice a2 lf.length c2) (S body) (.int .i64 asked) (.int .i64 came)).drew).cell 2, ((put9_other hM0 hMZ (.int .i64 1) (.int .i64 id) (S key) (.slice a1 n1 c1) (.int .i64 st) (.slice a2 lf.length c2) (S body) (.int .i64 asked) (.int .i64 came)).drew).cell 3, ((put9_other hM0 hMZ (.int .i64 1) (.int .i64 id) (S key) (.slice a1 n1 c1) (.int .i64 st) (.slice a2 lf.length c2) (S body) (.int .i64 asked) (.int .i64 came)).drew).cell 4, ((put9_other hM0 hMZ (.int .i64 1) (.int .i64 id) (S key) (.slice a1 n1 c1) (.int .i64 st) (.slice a2 lf.length c2) (S body) (.int .i64 asked) (.int .i64 came)).drew).cell 5, ((put9_other hM0 hMZ (.int .i64 1) (.int .i64 id) (S key) (.slice a1 n1 c1) (.int .i64 st) (.slice a2 lf.length c2) (S body) (.int .i64 asked) (.int .i64 came)).drew).cell 6, ((put9_other hM0 hMZ (.int .i64 1) (.int .i64 id) (S key) (.slice a1 n1 c1) (.int .i64 st) (.slice a2 lf.length c2) (S body) (.int .i64 asked) (.int .i64 came)).drew).cell 7, ((put9_other hM0 hMZ (.int .i64 1) (.int .i64 id) (S key) (.slice a1 n1 c1) (.int .i64 st) (.slice a2 lf.length c2) (S body) (.int .i64 asked) (.int .i64 came)).drew).cell 8, ((put9_other hM0 hMZ (.int .i64 1) (.int .i64 id) (S key) (.slice a1 n1 c1) (.int .i64 st) (.slice a2 lf.length c2) (S body) (.int .i64 asked) (.int .i64 came)).drew).cell 9, ((put9_other hM0 hMZ (.int .i64 1) (.int .i64 id) (S key) (.slice a1 n1 c1) (.int .i64 st) (.slice a2 lf.length c2) (S body) (.int .i64 asked) (.int .i64 came)).drew).cell 10, ((put9_other hM0 hMZ (.int .i64 1) (.int .i64 id) (S key) (.slice a1 n1 c1) (.int .i64 st) (.slice a2 lf.length c2) (S body) (.int .i64 asked) (.int .i64 came)).drew).cell 11, ((put9_other hM0 hMZ (.int .i64 1) (.int .i64 id) (S key) (.slice a1 n1 c1) (.int .i64 st) (.slice a2 lf.length c2) (S body) (.int .i64 asked) (.int .i64 came)).drew).cell 12, ((put9_other hM0 hMZ (.int .i64 1) (.int .i64 id) (S key) (.slice a1 n1 c1) (.int .i64 st) (.slice a2 lf.length c2) (S body) (.int .i64 asked) (.int .i64 came)).drew).cell 13, ((put9_other hM0 hMZ (.int .i64 1) (.int .i64 id) (S key) (.slice a1 n1 c1) (.int .i64 st) (.slice a2 lf.length c2) (S body) (.int .i64 asked) (.int .i64 came)).drew).cell 14⟩ (fun hHeld => ?_)
    clear hK K
    try simp only [Act.put, PT]
    (refine tkA 17 ?_ ?_ hHeld ?_; rotate_left; (intro w hSw; (try dsimp only at hSw); go_simp; try with_reducible rfl); simp only [Act.put, PT])
    try simp only [Act.put, PT]
    refine wpAnyH_done (by kernel_rfl) ?_ _
    have hBf := (hZ0.put9 (.int .i64 1) (.int .i64 id) (S key) (.slice a1 n1 c1) (.int .i64 st) (.slice a2 lf.length c2) (S body) (.int .i64 asked) (.int .i64 came)).drew
    have hbf := (put9_below hb0 hwZ (.int .i64 1) (.int .i64 id) (S key) (.slice a1 n1 c1) (.int .i64 st) (.slice a2 lf.length c2) (S body) (.int .i64 asked) (.int .i64 came)).drew
    go_wp2
    refine ret_serve (b := Z) (c := false) ?_ ?_ hBf ?_
    · rfl
    · rfl
    · exact ⟨by rw [HRES.out], hbf⟩
  | true =>
    obtain ⟨res, eres⟩ : ∃ res, res = (true && gd) := ⟨_, rfl⟩
    rw [← eres]
    have HRES : Hid (res = gd) := by show _ = _; rw [eres]; rfl
    clear eres
    go_enter Tryz.func35, Tryz.ntmps35
    go_upto_region 1 with fail
    rw [← HW.out, ← HM.out, ← HZ.out]
    have x0 : w0.cell? ⟨M, 0, none⟩ = some (S rm) := hM0.cell 0; have x1 : w0.cell? ⟨M, 1, none⟩ = some (S rs) := hM0.cell 1; have x2 : w0.cell? ⟨M, 2, none⟩ = some (S ra) := hM0.cell 2; have x3 : w0.cell? ⟨M, 3, none⟩ = some (S rp) := hM0.cell 3; have x4 : w0.cell? ⟨M, 4, none⟩ = some (.slice pr lr.length cr) := hM0.cell 4; have x5 : w0.cell? ⟨M, 5, none⟩ = some (.int .i64 now) := hM0.cell 5; have x6 : w0.cell? ⟨M, 6, none⟩ = some (S key) := hM0.cell 6; have x7 : w0.cell? ⟨M, 7, none⟩ = some (.slice a1 n1 c1) := hM0.cell 7; have x8 : w0.cell? ⟨M, 8, none⟩ = some (.int .i64 st) := hM0.cell 8; have x9 : w0.cell? ⟨M, 9, none⟩ = some (.slice a2 lf.length c2) := hM0.cell 9; have x10 : w0.cell? ⟨M, 10, none⟩ = some (S body) := hM0.cell 10; have x11 : w0.cell? ⟨M, 11, none⟩ = some (.int .i64 asked) := hM0.cell 11; have x12 : w0.cell? ⟨M, 12, none⟩ = some (.int .i64 came) := hM0.cell 12; have x13 : w0.cell? ⟨M, 13, none⟩ = some (.int .i64 id) := hM0.cell 13; have x14 : w0.cell? ⟨M, 14, none⟩ = some (.bool true) := hM0.cell 14; have v1 : w0.cell? ⟨M, 6 + 1, none⟩ = some (.slice a1 n1 c1) := hM0.cell 7; have v2 : w0.cell? ⟨M, 6 + 2, none⟩ = some (.int .i64 st) := hM0.cell 8; have v3 : w0.cell? ⟨M, 6 + 3, none⟩ = some (.slice a2 lf.length c2) := hM0.cell 9; have v4 : w0.cell? ⟨M, 6 + 4, none⟩ = some (S body) := hM0.cell 10; have v5 : w0.cell? ⟨M, 6 + 5, none⟩ = some (.int .i64 asked) := hM0.cell 11; have v6 : w0.cell? ⟨M, 6 + 6, none⟩ = some (.int .i64 came) := hM0.cell 12
    go_wp2_with fail
    refine wp_region_held_drew (S := (fun wx => wx.cell? ⟨M, 0, none⟩ = some (S rm) ∧ wx.cell? ⟨M, 1, none⟩ = some (S rs) ∧ wx.cell? ⟨M, 2, none⟩ = some (S ra) ∧ wx.cell? ⟨M, 3, none⟩ = some (S rp) ∧ wx.cell? ⟨M, 4, none⟩ = some (.slice pr lr.length cr) ∧ wx.cell? ⟨M, 5, none⟩ = some (.int .i64 now) ∧ wx.cell? ⟨M, 6, none⟩ = some (S key) ∧ wx.cell? ⟨M, 6 + 1, none⟩ = some (.slice a1 n1 c1) ∧ wx.cell? ⟨M, 6 + 2, none⟩ = some (.int .i64 st) ∧ wx.cell? ⟨M, 6 + 3, none⟩ = some (.slice a2 lf.length c2) ∧ wx.cell? ⟨M, 6 + 4, none⟩ = some (S body) ∧ wx.cell? ⟨M, 6 + 5, none⟩ = some (.int .i64 asked) ∧ wx.cell? ⟨M, 6 + 6, none⟩ = some (.int .i64 came) ∧ wx.cell? ⟨M, 13, none⟩ = some (.int .i64 id) ∧ wx.cell? ⟨M, 14, none⟩ = some (.bool true))) (by kernel_rfl) ⟨hM0.cell 0, hM0.cell 1, hM0.cell 2, hM0.cell 3, hM0.cell 4, hM0.cell 5, hM0.cell 6, hM0.cell 7, hM0.cell 8, hM0.cell 9, hM0.cell 10, hM0.cell 11, hM0.cell 12, hM0.cell 13, hM0.cell 14⟩ (fun hHeld => ?_)
    (refine tkA 0 ?_ ?_ hHeld ?_; rotate_left; (intro w hSw; (try dsimp only at hSw); go_simp; try with_reducible rfl); simp only [Act.put, PT])
    (refine tkA 1 ?_ ?_ hHeld ?_; rotate_left; (intro w hSw; (try dsimp only at hSw); go_simp; try with_reducible rfl); simp only [Act.put, PT])
    (refine tkA 2 ?_ ?_ hHeld ?_; rotate_left; (intro w hSw; (try dsimp only at hSw); go_simp; try with_reducible rfl); simp only [Act.put, PT])
    (refine tkA 3 ?_ ?_ hHeld ?_; rotate_left; (intro w hSw; (try dsimp only at hSw); go_simp; try with_reducible rfl); simp only [Act.put, PT])
    (refine tkA 4 ?_ ?_ hHeld ?_; rotate_left; (intro w hSw; (try dsimp only at hSw); go_simp; try with_reducible rfl); simp only [Act.put, PT])
    (refine tkA 5 ?_ ?_ hHeld ?_; rotate_left; (intro w hSw; (try dsimp only at hSw); go_simp; try with_reducible rfl); simp only [Act.put, PT])
    (refine tkA 6 ?_ ?_ hHeld ?_; rotate_left; (intro w hSw; (try dsimp only at hSw); go_simp; try with_reducible rfl); simp only [Act.put, PT])
    (refine tkA 7 ?_ ?_ hHeld ?_; rotate_left; (intro w hSw; (try dsimp only at hSw); go_simp; try with_reducible rfl); simp only [Act.put, PT])
    (refine tkA 8 ?_ ?_ hHeld ?_; rotate_left; (intro w hSw; (try dsimp only at hSw); go_simp; try with_reducible rfl); simp only [Act.put, PT])
    (refine tkA 9 ?_ ?_ hHeld ?_; rotate_left; (intro w hSw; (try dsimp only at hSw); go_simp; try with_reducible rfl); simp only [Act.put, PT])
    (refine tkA 10 ?_ ?_ hHeld ?_; rotate_left; (intro w hSw; (try dsimp only at hSw); go_simp; try with_reducible rfl); simp only [Act.put, PT])
    (refine tkA 11 ?_ ?_ hHeld ?_; rotate_left; (intro w hSw; (try dsimp only at hSw); go_simp; try with_reducible rfl); simp only [Act.put, PT])
    (refine tkA 12 ?_ ?_ hHeld ?_; rotate_left; (intro w hSw; (try dsimp only at hSw); go_simp; try with_reducible rfl); simp only [Act.put, PT])
    (refine tkA 13 ?_ ?_ hHeld ?_; rotate_left; (intro w hSw; (try dsimp only at hSw); go_simp; try with_reducible rfl); simp only [Act.put, PT])
    refine wpAnyH_ready (rs := [14]) (by kernel_rfl) (by simp) ?_
    refine AllReadyH.cons (by rfl) (fun K hK => ?_) AllReadyH.nil
    go_simp
    (with_reducible refine (HG.out w0.drew (show Fs w0.drew.heap.size w0.drew _ lr from hr0.drew) (show Fs w0.drew.heap.size w0.drew _ lf from hf0.drew)).mono ?_); rintro e w2 ⟨rfl, hb2⟩; replace hb2 := Bl.undrew hb2; have hM2 := hM0.on hb2; have hZ2 := hZ0.on hb2; have z0 : w2.cell? ⟨Z, 0, none⟩ = some (.int .i64 0) := hZ2.cell 0; have f0 := hZ2.free 0; have z1 : w2.cell? ⟨Z, 1, none⟩ = some (.int .i64 0) := hZ2.cell 1; have f1 := hZ2.free 1; have z2 : w2.cell? ⟨Z, 2, none⟩ = some (S []) := hZ2.cell 2; have f2 := hZ2.free 2; have z3 : w2.cell? ⟨Z, 3, none⟩ = some (.slice none 0 0) := hZ2.cell 3; have f3 := hZ2.free 3; have z4 : w2.cell? ⟨Z, 4, none⟩ = some (.int .i64 0) := hZ2.cell 4; have f4 := hZ2.free 4; have z5 : w2.cell? ⟨Z, 5, none⟩ = some (.slice none 0 0) := hZ2.cell 5; have f5 := hZ2.free 5; have z6 : w2.cell? ⟨Z, 6, none⟩ = some (S []) := hZ2.cell 6; have f6 := hZ2.free 6; have z7 : w2.cell? ⟨Z, 7, none⟩ = some (.int .i64 0) := hZ2.cell 7; have f7 := hZ2.free 7; have z8 : w2.cell? ⟨Z, 8, none⟩ = some (.int .i64 0) := hZ2.cell 8; have f8 := hZ2.free 8
    refine hK.out _ _ ⟨hM2.cell 0, hM2.cell 1, hM2.cell 2, hM2.cell 3, hM2.cell 4, hM2.cell 5, hM2.cell 6, hM2.cell 7, hM2.cell 8, hM2.cell 9, hM2.cell 10, hM2.cell 11, hM2.cell 12, hM2.cell 13, hM2.cell 14⟩ (fun hHeld => ?_)
    clear hK K
    try simp only [Act.put, PT]
    (refine tkA 15 ?_ ?_ hHeld ?_; rotate_left; (intro w hSw; (try dsimp only at hSw); go_simp; try with_reducible rfl); simp only [Act.put, PT])
    refine wpAnyH_ready (rs := [16]) (by kernel_rfl) (by simp) ?_
    refine AllReadyH.cons (by rfl) (fun K hK => ?_) AllReadyH.nil
    go_simp
    skip
    refine hK.out _ _ ⟨(put9_other hM2 hMZ (.int .i64 1) (.int .i64 id) (S key) (.slice a1 n1 c1) (.int .i64 st) (.slice a2 lf.length c2) (S body) (.int .i64 asked) (.int .i64 came)).cell 0, (put9_other hM2 hMZ (.int .i64 1) (.int .i64 id) (S key) (.slice a1 n1 c1) (.int .i64 st) (.slice a2 lf.length c2) (S body) (.int .i64 asked) (.int .i64 came)).cell 1, (put9_other hM2 hMZ (.int .i64 1) (.int .i64 id) (S key) (.slice a1 n1 c1) (.int .i64 st) (.slice a2 lf.length c2) (S body) (.int .i64 asked) (.int .i64 came)).cell 2, (put9_other hM2 hMZ (.int .i64 1) (.int .i64 id) (S key) (.slice a1 n1 c1) (.int .i64 st) (.slice a2 lf.length c2) (S body) (.int .i64 asked) (.int .i64 came)).cell 3, (put9_other hM2 hMZ (.int .i64 1) (.int .i64 id) (S key) (.slice a1 n1 c1) (.int .i64 st) (.slice a2 lf.length c2) (S body) (.int .i64 asked) (.int .i64 came)).cell 4, (put9_other hM2 hMZ (.int .i64 1) (.int .i64 id) (S key) (.slice a1 n1 c1) (.int .i64 st) (.slice a2 lf.length c2) (S body) (.int .i64 asked) (.int .i64 came)).cell 5, (put9_other hM2 hMZ (.int .i64 1) (.int .i64 id) (S key) (.slice a1 n1 c1) (.int .i64 st) (.slice a2 lf.length c2) (S body) (.int .i64 asked) (.int .i64 came)).cell 6, (put9_other hM2 hMZ (.int .i64 1) (.int .i64 id) (S key) (.slice a1 n1 c1) (.int .i64 st) (.slice a2 lf.length c2) (S body) (.int .i64 asked) (.int .i64 came)).cell 7, (put9_other hM2 hMZ (.int .i64 1) (.int .i64 id) (S key) (.slice a1 n1 c1) (.int .i64 st) (.slice a2 lf.length c2) (S body) (.int .i64 asked) (.int .i64 came)).cell 8, (put9_other hM2 hMZ (.int .i64 1) (.int .i64 id) (S key) (.slice a1 n1 c1) (.int .i64 st) (.slice a2 lf.length c2) (S body) (.int .i64 asked) (.int .i64 came)).cell 9, (put9_other hM2 hMZ (.int .i64 1) (.int .i64 id) (S key) (.slice a1 n1 c1) (.int .i64 st) (.slice a2 lf.length c2) (S body) (.int .i64 asked) (.int .i64 came)).cell 10, (put9_other hM2 hMZ (.int .i64 1) (.int .i64 id) (S key) (.slice a1 n1 c1) (.int .i64 st) (.slice a2 lf.length c2) (S body) (.int .i64 asked) (.int .i64 came)).cell 11, (put9_other hM2 hMZ (.int .i64 1) (.int .i64 id) (S key) (.slice a1 n1 c1) (.int .i64 st) (.slice a2 lf.length c2) (S body) (.int .i64 asked) (.int .i64 came)).cell 12, (put9_other hM2 hMZ (.int .i64 1) (.int .i64 id) (S key) (.slice a1 n1 c1) (.int .i64 st) (.slice a2 lf.length c2) (S body) (.int .i64 asked) (.int .i64 came)).cell 13, (put9_other hM2 hMZ (.int .i64 1) (.int .i64 id) (S key) (.slice a1 n1 c1) (.int .i64 st) (.slice a2 lf.length c2) (S body) (.int .i64 asked) (.int .i64 came)).cell 14⟩ (fun hHeld => ?_)
    clear hK K
    try simp only [Act.put, PT]
    (refine tkA 17 ?_ ?_ hHeld ?_; rotate_left; (intro w hSw; (try dsimp only at hSw); go_simp; try with_reducible rfl); simp only [Act.put, PT])
    try simp only [Act.put, PT]
    refine wpAnyH_done (by kernel_rfl) ?_ _
    have hb2' := Bl.tr hb0 hb2
    have hBf := (hZ2.put9 (.int .i64 1) (.int .i64 id) (S key) (.slice a1 n1 c1) (.int .i64 st) (.slice a2 lf.length c2) (S body) (.int .i64 asked) (.int .i64 came))
    have hbf := (put9_below hb2' hwZ (.int .i64 1) (.int .i64 id) (S key) (.slice a1 n1 c1) (.int .i64 st) (.slice a2 lf.length c2) (S body) (.int .i64 asked) (.int .i64 came))
    go_wp2
    refine ret_serve (b := Z) (c := gd) ?_ ?_ hBf ?_
    · rfl
    · rfl
    · exact ⟨by rw [HRES.out], hbf⟩

set_option maxRecDepth 100000 in
set_option maxHeartbeats 4000000 in
theorem ret_lack {W : World} {tmps : Array Value} {b : Nat} {v0 v1 v2 v3 v4 v5 v6 v7 v8 : Value} {c : Bool} {R : Ending → World → Prop} (hs : tmps[2]? = some (.pointer (some ⟨b, 0, none⟩))) (hc : tmps[3]? = some (.bool c)) (h : Blk W b 38 #[v0, v1, v2, v3, v4, v5, v6, v7, v8]) (hR : R (.returned (.tuple #[.agg #[v0, v1, v2, v3, v4, v5, v6, v7, v8], .bool c])) W) :
    bodyPost Tryz.prog Tryz.f36 R .ret { tmps := tmps, defers := [] } W := by
  (have g0 : W.cell? ⟨b, 0, none⟩ = some (v0) := h.cell 0; have g1 : W.cell? ⟨b, 1, none⟩ = some (v1) := h.cell 1; have g2 : W.cell? ⟨b, 2, none⟩ = some (v2) := h.cell 2; have g3 : W.cell? ⟨b, 3, none⟩ = some (v3) := h.cell 3; have g4 : W.cell? ⟨b, 4, none⟩ = some (v4) := h.cell 4; have g5 : W.cell? ⟨b, 5, none⟩ = some (v5) := h.cell 5; have g6 : W.cell? ⟨b, 6, none⟩ = some (v6) := h.cell 6; have g7 : W.cell? ⟨b, 7, none⟩ = some (v7) := h.cell 7; have g8 : W.cell? ⟨b, 8, none⟩ = some (v8) := h.cell 8)
  exact bodyPost_ret (v := .tuple #[.agg #[v0, v1, v2, v3, v4, v5, v6, v7, v8], .bool c]) (by simp [results, Tryz.results36, go_sem, hs, hc, g0, g1, g2, g3, g4, g5, g6, g7, g8]) rfl hR

set_option maxRecDepth 100000 in
set_option maxHeartbeats 4000000 in
theorem deal_lack_any (rm rs ra rp : Bytes) (pr : Option Addr) (cr : Nat) (lr : List F) (now : Int) (key : Bytes) (a1 : Option Addr) (n1 c1 : Nat) (st : Int) (a2 : Option Addr) (c2 : Nat) (lf : List F) (body : Bytes) (asked came id : Int) (fd : Bool) (w : World) (hr : Fs w.heap.size w (.slice pr lr.length cr) lr) (hf : Fs w.heap.size w (.slice a2 lf.length c2) lf) (hl : fsum lr ≤ 1099511627776) (hl2 : fsum lf ≤ 1099511627776) :
    Calls Tryz.prog 36 #[.agg #[S rm, S rs, S ra, S rp, .slice pr lr.length cr, .int .i64 now, S key, .slice a1 n1 c1, .int .i64 st, .slice a2 lf.length c2, S body, .int .i64 asked, .int .i64 came, .int .i64 id, .bool fd]] w fun e w' => e = .returned (.tuple #[dealZ 4, .bool ((saysC lr).oi)]) ∧ Below w.heap.size w w' := by
  obtain ⟨w1, e1⟩ : ∃ w1 : World, w1 = w.alloc (.cells #[S rm, S rs, S ra, S rp, .slice pr lr.length cr, .int .i64 now, S key, .slice a1 n1 c1, .int .i64 st, .slice a2 lf.length c2, S body, .int .i64 asked, .int .i64 came, .int .i64 id, .bool fd] 72) := ⟨_, rfl⟩
  obtain ⟨M, eM⟩ : ∃ M, M = w.heap.size := ⟨_, rfl⟩
  have hs1 : w1.heap.size = M + 1 := by rw [e1, eM]; simp
  have hM1 : Blk w1 M 72 #[S rm, S rs, S ra, S rp, .slice pr lr.length cr, .int .i64 now, S key, .slice a1 n1 c1, .int .i64 st, .slice a2 lf.length c2, S body, .int .i64 asked, .int .i64 came, .int .i64 id, .bool fd] := by rw [e1, eM]; exact Blk.new _ _ _
  obtain ⟨w0, e0⟩ : ∃ w0 : World, w0 = w1.alloc (.cells #[.int .i64 0, .int .i64 0, S [], .slice none 0 0, .int .i64 0, .slice none 0 0, S [], .int .i64 0, .int .i64 0] 38) := ⟨_, rfl⟩
  obtain ⟨Z, eZ⟩ : ∃ Z, Z = M + 1 := ⟨_, rfl⟩
  have hM0 : Blk w0 M 72 #[S rm, S rs, S ra, S rp, .slice pr lr.length cr, .int .i64 now, S key, .slice a1 n1 c1, .int .i64 st, .slice a2 lf.length c2, S body, .int .i64 asked, .int .i64 came, .int .i64 id, .bool fd] := by rw [e0]; exact hM1.alloc _
  have hZ0 : Blk w0 Z 38 #[.int .i64 0, .int .i64 0, S [], .slice none 0 0, .int .i64 0, .slice none 0 0, S [], .int .i64 0, .int .i64 0] := by rw [e0, eZ, ← hs1]; exact Blk.new _ _ _
  have hb0 : Below w.heap.size w w0 := by rw [e0]; exact ((by rw [e1]; exact (Below.refl _ _).alloc (Nat.le_refl _) _ : Below w.heap.size w w1)).alloc (by rw [hs1, eM]; omega) _
  have hMZ : M ≠ Z := by omega
  have hwZ : w.heap.size ≤ Z := by omega
  have hr0 := (hr.below hb0).mono hb0.size
  have hf0 := (hf.below hb0).mono hb0.size
  have HM := Lib.hid eM
  have HZ := Lib.hid eZ
  have HW : Hid (w0 = (w.alloc (.cells #[S rm, S rs, S ra, S rp, .slice pr lr.length cr, .int .i64 now, S key, .slice a1 n1 c1, .int .i64 st, .slice a2 lf.length c2, S body, .int .i64 asked, .int .i64 came, .int .i64 id, .bool fd] 72)).alloc (.cells #[.int .i64 0, .int .i64 0, S [], .slice none 0 0, .int .i64 0, .slice none 0 0, S [], .int .i64 0, .int .i64 0] 38)) := by show _ = _; rw [e0, e1]
  clear e0 e1 eZ eM hs1 hM1
  obtain ⟨c, ec⟩ : ∃ c, c = saysC lr := ⟨_, rfl⟩
  have hG := Says_any ⟨rm, rs, ra, rp, .slice pr lr.length cr⟩ lr w0 hr0 hl
  rw [← ec] at hG ⊢
  obtain ⟨ns, nc, nt, pu, pr', mr, px, oi, ma, sm, mf, ms⟩ := c
  simp only [Rq.val, Ctl.val] at hG ⊢
  have hrun := run_oi ns nc nt pu pr' mr px oi ma sm mf ms
  clear ec
  go_enter Tryz.func36, Tryz.ntmps36
  go_upto_region 1 with fail
  rw [← HW.out, ← HM.out, ← HZ.out]
  have x0 : w0.cell? ⟨M, 0, none⟩ = some (S rm) := hM0.cell 0; have x1 : w0.cell? ⟨M, 1, none⟩ = some (S rs) := hM0.cell 1; have x2 : w0.cell? ⟨M, 2, none⟩ = some (S ra) := hM0.cell 2; have x3 : w0.cell? ⟨M, 3, none⟩ = some (S rp) := hM0.cell 3; have x4 : w0.cell? ⟨M, 4, none⟩ = some (.slice pr lr.length cr) := hM0.cell 4; have x5 : w0.cell? ⟨M, 5, none⟩ = some (.int .i64 now) := hM0.cell 5; have x6 : w0.cell? ⟨M, 6, none⟩ = some (S key) := hM0.cell 6; have x7 : w0.cell? ⟨M, 7, none⟩ = some (.slice a1 n1 c1) := hM0.cell 7; have x8 : w0.cell? ⟨M, 8, none⟩ = some (.int .i64 st) := hM0.cell 8; have x9 : w0.cell? ⟨M, 9, none⟩ = some (.slice a2 lf.length c2) := hM0.cell 9; have x10 : w0.cell? ⟨M, 10, none⟩ = some (S body) := hM0.cell 10; have x11 : w0.cell? ⟨M, 11, none⟩ = some (.int .i64 asked) := hM0.cell 11; have x12 : w0.cell? ⟨M, 12, none⟩ = some (.int .i64 came) := hM0.cell 12; have x13 : w0.cell? ⟨M, 13, none⟩ = some (.int .i64 id) := hM0.cell 13; have x14 : w0.cell? ⟨M, 14, none⟩ = some (.bool fd) := hM0.cell 14; have v1 : w0.cell? ⟨M, 6 + 1, none⟩ = some (.slice a1 n1 c1) := hM0.cell 7; have v2 : w0.cell? ⟨M, 6 + 2, none⟩ = some (.int .i64 st) := hM0.cell 8; have v3 : w0.cell? ⟨M, 6 + 3, none⟩ = some (.slice a2 lf.length c2) := hM0.cell 9; have v4 : w0.cell? ⟨M, 6 + 4, none⟩ = some (S body) := hM0.cell 10; have v5 : w0.cell? ⟨M, 6 + 5, none⟩ = some (.int .i64 asked) := hM0.cell 11; have v6 : w0.cell? ⟨M, 6 + 6, none⟩ = some (.int .i64 came) := hM0.cell 12
  go_wp2_with fail
  refine hG.mono ?_
  rintro e w2 ⟨rfl, hb2⟩
  have hZ2 := hZ0.on hb2
  have hb2' := Bl.tr hb0 hb2
  have z0 : w2.cell? ⟨Z, 0, none⟩ = some (.int .i64 0) := hZ2.cell 0; have f0 := hZ2.free 0; have z1 : w2.cell? ⟨Z, 1, none⟩ = some (.int .i64 0) := hZ2.cell 1; have f1 := hZ2.free 1; have z2 : w2.cell? ⟨Z, 2, none⟩ = some (S []) := hZ2.cell 2; have f2 := hZ2.free 2; have z3 : w2.cell? ⟨Z, 3, none⟩ = some (.slice none 0 0) := hZ2.cell 3; have f3 := hZ2.free 3; have z4 : w2.cell? ⟨Z, 4, none⟩ = some (.int .i64 0) := hZ2.cell 4; have f4 := hZ2.free 4; have z5 : w2.cell? ⟨Z, 5, none⟩ = some (.slice none 0 0) := hZ2.cell 5; have f5 := hZ2.free 5; have z6 : w2.cell? ⟨Z, 6, none⟩ = some (S []) := hZ2.cell 6; have f6 := hZ2.free 6; have z7 : w2.cell? ⟨Z, 7, none⟩ = some (.int .i64 0) := hZ2.cell 7; have f7 := hZ2.free 7; have z8 : w2.cell? ⟨Z, 8, none⟩ = some (.int .i64 0) := hZ2.cell 8; have f8 := hZ2.free 8
  have hBf := (hZ2.put9 (.int .i64 4) (.int .i64 0) (S []) (.slice none 0 0) (.int .i64 0) (.slice none 0 0) (S []) (.int .i64 0) (.int .i64 0))
  have hbf := (put9_below hb2' hwZ (.int .i64 4) (.int .i64 0) (S []) (.slice none 0 0) (.int .i64 0) (.slice none 0 0) (S []) (.int .i64 0) (.int .i64 0))
  go_wp2
  refine ret_lack (b := Z) (c := oi) ?_ ?_ hBf ?_
  · rfl
  · rfl
  · exact ⟨by rw [show dealZ 4 = dealZ 4 from rfl], hbf⟩

set_option maxRecDepth 100000 in
set_option maxHeartbeats 4000000 in
theorem ret_pass {W : World} {tmps : Array Value} {b : Nat} {v0 v1 v2 v3 v4 v5 v6 v7 v8 : Value} {c : Bool} {R : Ending → World → Prop} (hs : tmps[2]? = some (.pointer (some ⟨b, 0, none⟩))) (hc : tmps[3]? = some (.bool c)) (h : Blk W b 38 #[v0, v1, v2, v3, v4, v5, v6, v7, v8]) (hR : R (.returned (.tuple #[.agg #[v0, v1, v2, v3, v4, v5, v6, v7, v8], .bool c])) W) :
    bodyPost Tryz.prog Tryz.f37 R .ret { tmps := tmps, defers := [] } W := by
  (have g0 : W.cell? ⟨b, 0, none⟩ = some (v0) := h.cell 0; have g1 : W.cell? ⟨b, 1, none⟩ = some (v1) := h.cell 1; have g2 : W.cell? ⟨b, 2, none⟩ = some (v2) := h.cell 2; have g3 : W.cell? ⟨b, 3, none⟩ = some (v3) := h.cell 3; have g4 : W.cell? ⟨b, 4, none⟩ = some (v4) := h.cell 4; have g5 : W.cell? ⟨b, 5, none⟩ = some (v5) := h.cell 5; have g6 : W.cell? ⟨b, 6, none⟩ = some (v6) := h.cell 6; have g7 : W.cell? ⟨b, 7, none⟩ = some (v7) := h.cell 7; have g8 : W.cell? ⟨b, 8, none⟩ = some (v8) := h.cell 8)
  exact bodyPost_ret (v := .tuple #[.agg #[v0, v1, v2, v3, v4, v5, v6, v7, v8], .bool c]) (by simp [results, Tryz.results37, go_sem, hs, hc, g0, g1, g2, g3, g4, g5, g6, g7, g8]) rfl hR

set_option maxRecDepth 100000 in
set_option maxHeartbeats 4000000 in
theorem deal_pass_any (rm rs ra rp : Bytes) (pr : Option Addr) (cr : Nat) (lr : List F) (now : Int) (key : Bytes) (a1 : Option Addr) (n1 c1 : Nat) (st : Int) (a2 : Option Addr) (c2 : Nat) (lf : List F) (body : Bytes) (asked came id : Int) (fd : Bool) (w : World) (hr : Fs w.heap.size w (.slice pr lr.length cr) lr) (hf : Fs w.heap.size w (.slice a2 lf.length c2) lf) (hl : fsum lr ≤ 1099511627776) (hl2 : fsum lf ≤ 1099511627776) :
    Calls Tryz.prog 37 #[.agg #[S rm, S rs, S ra, S rp, .slice pr lr.length cr, .int .i64 now, S key, .slice a1 n1 c1, .int .i64 st, .slice a2 lf.length c2, S body, .int .i64 asked, .int .i64 came, .int .i64 id, .bool fd]] w fun e w' => e = .returned (.tuple #[dealZ 5, .bool (rm == [72, 69, 65, 68])]) ∧ Below w.heap.size w w' := by
  obtain ⟨w1, e1⟩ : ∃ w1 : World, w1 = w.alloc (.cells #[S rm, S rs, S ra, S rp, .slice pr lr.length cr, .int .i64 now, S key, .slice a1 n1 c1, .int .i64 st, .slice a2 lf.length c2, S body, .int .i64 asked, .int .i64 came, .int .i64 id, .bool fd] 72) := ⟨_, rfl⟩
  obtain ⟨M, eM⟩ : ∃ M, M = w.heap.size := ⟨_, rfl⟩
  have hs1 : w1.heap.size = M + 1 := by rw [e1, eM]; simp
  have hM1 : Blk w1 M 72 #[S rm, S rs, S ra, S rp, .slice pr lr.length cr, .int .i64 now, S key, .slice a1 n1 c1, .int .i64 st, .slice a2 lf.length c2, S body, .int .i64 asked, .int .i64 came, .int .i64 id, .bool fd] := by rw [e1, eM]; exact Blk.new _ _ _
  obtain ⟨w0, e0⟩ : ∃ w0 : World, w0 = w1.alloc (.cells #[.int .i64 0, .int .i64 0, S [], .slice none 0 0, .int .i64 0, .slice none 0 0, S [], .int .i64 0, .int .i64 0] 38) := ⟨_, rfl⟩
  obtain ⟨Z, eZ⟩ : ∃ Z, Z = M + 1 := ⟨_, rfl⟩
  have hM0 : Blk w0 M 72 #[S rm, S rs, S ra, S rp, .slice pr lr.length cr, .int .i64 now, S key, .slice a1 n1 c1, .int .i64 st, .slice a2 lf.length c2, S body, .int .i64 asked, .int .i64 came, .int .i64 id, .bool fd] := by rw [e0]; exact hM1.alloc _
  have hZ0 : Blk w0 Z 38 #[.int .i64 0, .int .i64 0, S [], .slice none 0 0, .int .i64 0, .slice none 0 0, S [], .int .i64 0, .int .i64 0] := by rw [e0, eZ, ← hs1]; exact Blk.new _ _ _
  have hb0 : Below w.heap.size w w0 := by rw [e0]; exact ((by rw [e1]; exact (Below.refl _ _).alloc (Nat.le_refl _) _ : Below w.heap.size w w1)).alloc (by rw [hs1, eM]; omega) _
  have hMZ : M ≠ Z := by omega
  have hwZ : w.heap.size ≤ Z := by omega
  have hr0 := (hr.below hb0).mono hb0.size
  have hf0 := (hf.below hb0).mono hb0.size
  have HM := Lib.hid eM
  have HZ := Lib.hid eZ
  have HW : Hid (w0 = (w.alloc (.cells #[S rm, S rs, S ra, S rp, .slice pr lr.length cr, .int .i64 now, S key, .slice a1 n1 c1, .int .i64 st, .slice a2 lf.length c2, S body, .int .i64 asked, .int .i64 came, .int .i64 id, .bool fd] 72)).alloc (.cells #[.int .i64 0, .int .i64 0, S [], .slice none 0 0, .int .i64 0, .slice none 0 0, S [], .int .i64 0, .int .i64 0] 38)) := by show _ = _; rw [e0, e1]
  clear e0 e1 eZ eM hs1 hM1
  obtain ⟨res, eres⟩ : ∃ res, res = (rm == [72, 69, 65, 68]) := ⟨_, rfl⟩
  rw [← eres]
  have HRES := Lib.hid eres
  by_cases hh : rm = [72, 69, 65, 68]
  · have HR2 : Hid (res = true) := by show _ = _; rw [eres]; simp [hh]
    subst hh
    clear eres HRES
    go_enter Tryz.func37, Tryz.ntmps37
    go_upto_region 1 with fail
    rw [← HW.out, ← HM.out, ← HZ.out]
    have x0 : w0.cell? ⟨M, 0, none⟩ = some (S [72, 69, 65, 68]) := hM0.cell 0; have x1 : w0.cell? ⟨M, 1, none⟩ = some (S rs) := hM0.cell 1; have x2 : w0.cell? ⟨M, 2, none⟩ = some (S ra) := hM0.cell 2; have x3 : w0.cell? ⟨M, 3, none⟩ = some (S rp) := hM0.cell 3; have x4 : w0.cell? ⟨M, 4, none⟩ = some (.slice pr lr.length cr) := hM0.cell 4; have x5 : w0.cell? ⟨M, 5, none⟩ = some (.int .i64 now) := hM0.cell 5; have x6 : w0.cell? ⟨M, 6, none⟩ = some (S key) := hM0.cell 6; have x7 : w0.cell? ⟨M, 7, none⟩ = some (.slice a1 n1 c1) := hM0.cell 7; have x8 : w0.cell? ⟨M, 8, none⟩ = some (.int .i64 st) := hM0.cell 8; have x9 : w0.cell? ⟨M, 9, none⟩ = some (.slice a2 lf.length c2) := hM0.cell 9; have x10 : w0.cell? ⟨M, 10, none⟩ = some (S body) := hM0.cell 10; have x11 : w0.cell? ⟨M, 11, none⟩ = some (.int .i64 asked) := hM0.cell 11; have x12 : w0.cell? ⟨M, 12, none⟩ = some (.int .i64 came) := hM0.cell 12; have x13 : w0.cell? ⟨M, 13, none⟩ = some (.int .i64 id) := hM0.cell 13; have x14 : w0.cell? ⟨M, 14, none⟩ = some (.bool fd) := hM0.cell 14; have v1 : w0.cell? ⟨M, 6 + 1, none⟩ = some (.slice a1 n1 c1) := hM0.cell 7; have v2 : w0.cell? ⟨M, 6 + 2, none⟩ = some (.int .i64 st) := hM0.cell 8; have v3 : w0.cell? ⟨M, 6 + 3, none⟩ = some (.slice a2 lf.length c2) := hM0.cell 9; have v4 : w0.cell? ⟨M, 6 + 4, none⟩ = some (S body) := hM0.cell 10; have v5 : w0.cell? ⟨M, 6 + 5, none⟩ = some (.int .i64 asked) := hM0.cell 11; have v6 : w0.cell? ⟨M, 6 + 6, none⟩ = some (.int .i64 came) := hM0.cell 12
    have z0 : w0.cell? ⟨Z, 0, none⟩ = some (.int .i64 0) := hZ0.cell 0; have f0 := hZ0.free 0; have z1 : w0.cell? ⟨Z, 1, none⟩ = some (.int .i64 0) := hZ0.cell 1; have f1 := hZ0.free 1; have z2 : w0.cell? ⟨Z, 2, none⟩ = some (S []) := hZ0.cell 2; have f2 := hZ0.free 2; have z3 : w0.cell? ⟨Z, 3, none⟩ = some (.slice none 0 0) := hZ0.cell 3; have f3 := hZ0.free 3; have z4 : w0.cell? ⟨Z, 4, none⟩ = some (.int .i64 0) := hZ0.cell 4; have f4 := hZ0.free 4; have z5 : w0.cell? ⟨Z, 5, none⟩ = some (.slice none 0 0) := hZ0.cell 5; have f5 := hZ0.free 5; have z6 : w0.cell? ⟨Z, 6, none⟩ = some (S []) := hZ0.cell 6; have f6 := hZ0.free 6; have z7 : w0.cell? ⟨Z, 7, none⟩ = some (.int .i64 0) := hZ0.cell 7; have f7 := hZ0.free 7; have z8 : w0.cell? ⟨Z, 8, none⟩ = some (.int .i64 0) := hZ0.cell 8; have f8 := hZ0.free 8
    go_wp2_with fail
    refine wp_region_held_drew (S := (fun wx => wx.cell? ⟨M, 0, none⟩ = some (S [72, 69, 65, 68]) ∧ wx.cell? ⟨M, 1, none⟩ = some (S rs) ∧ wx.cell? ⟨M, 2, none⟩ = some (S ra) ∧ wx.cell? ⟨M, 3, none⟩ = some (S rp) ∧ wx.cell? ⟨M, 4, none⟩ = some (.slice pr lr.length cr) ∧ wx.cell? ⟨M, 5, none⟩ = some (.int .i64 now) ∧ wx.cell? ⟨M, 6, none⟩ = some (S key) ∧ wx.cell? ⟨M, 6 + 1, none⟩ = some (.slice a1 n1 c1) ∧ wx.cell? ⟨M, 6 + 2, none⟩ = some (.int .i64 st) ∧ wx.cell? ⟨M, 6 + 3, none⟩ = some (.slice a2 lf.length c2) ∧ wx.cell? ⟨M, 6 + 4, none⟩ = some (S body) ∧ wx.cell? ⟨M, 6 + 5, none⟩ = some (.int .i64 asked) ∧ wx.cell? ⟨M, 6 + 6, none⟩ = some (.int .i64 came) ∧ wx.cell? ⟨M, 13, none⟩ = some (.int .i64 id) ∧ wx.cell? ⟨M, 14, none⟩ = some (.bool fd))) (by kernel_rfl) ⟨hM0.cell 0, hM0.cell 1, hM0.cell 2, hM0.cell 3, hM0.cell 4, hM0.cell 5, hM0.cell 6, hM0.cell 7, hM0.cell 8, hM0.cell 9, hM0.cell 10, hM0.cell 11, hM0.cell 12, hM0.cell 13, hM0.cell 14⟩ (fun hHeld => ?_)
    (refine tkA 0 ?_ ?_ hHeld ?_; rotate_left; (intro w hSw; (try dsimp only at hSw); go_simp; try with_reducible rfl); simp only [Act.put, PT])
    (refine tkA 1 ?_ ?_ hHeld ?_; rotate_left; (intro w hSw; (try dsimp only at hSw); go_simp; try with_reducible rfl); simp only [Act.put, PT])
    (refine tkA 2 ?_ ?_ hHeld ?_; rotate_left; (intro w hSw; (try dsimp only at hSw); go_simp; try with_reducible rfl); simp only [Act.put, PT])
    (refine tkA 3 ?_ ?_ hHeld ?_; rotate_left; (intro w hSw; (try dsimp only at hSw); go_simp; try with_reducible rfl); simp only [Act.put, PT])
    (refine tkA 4 ?_ ?_ hHeld ?_; rotate_left; (intro w hSw; (try dsimp only at hSw); go_simp; try with_reducible rfl); simp only [Act.put, PT])
    refine wpAnyH_ready (rs := [5]) (by kernel_rfl) (by simp) ?_
    refine AllReadyH.cons (by rfl) (fun K hK => ?_) AllReadyH.nil
    go_simp
    skip
    refine hK.out _ _ ⟨((put9_other hM0 hMZ (.int .i64 5) (.int .i64 0) (S []) (.slice none 0 0) (.int .i64 0) (.slice none 0 0) (S []) (.int .i64 0) (.int .i64 0)).drew).cell 0, ((put9_other hM0 hMZ (.int .i64 5) (.int .i64 0) (S []) (.slice none 0 0) (.int .i64 0) (.slice none 0 0) (S []) (.int .i64 0) (.int .i64 0)).drew).cell 1, ((put9_other hM0 hMZ (.int .i64 5) (.int .i64 0) (S []) (.slice none 0 0) (.int .i64 0) (.slice none 0 0) (S []) (.int .i64 0) (.int .i64 0)).drew).cell 2, ((put9_other hM0 hMZ (.int .i64 5) (.int .i64 0) (S []) (.slice none 0 0) (.int .i64 0) (.slice none 0 0) (S []) (.int .i64 0) (.int .i64 0)).drew).cell 3, ((put9_other hM0 hMZ (.int .i64 5) (.int .i64 0) (S []) (.slice none 0 0) (.int .i64 0) (.slice none 0 0) (S []) (.int .i64 0) (.int .i64 0)).drew).cell 4, ((put9_other hM0 hMZ (.int .i64 5) (.int .i64 0) (S []) (.slice none 0 0) (.int .i64 0) (.slice none 0 0) (S []) (.int .i64 0) (.int .i64 0)).drew).cell 5, ((put9_other hM0 hMZ (.int .i64 5) (.int .i64 0) (S []) (.slice none 0 0) (.int .i64 0) (.slice none 0 0) (S []) (.int .i64 0) (.int .i64 0)).drew).cell 6, ((put9_other hM0 hMZ (.int .i64 5) (.int .i64 0) (S []) (.slice none 0 0) (.int .i64 0) (.slice none 0 0) (S []) (.int .i64 0) (.int .i64 0)).drew).cell 7, ((put9_other hM0 hMZ (.int .i64 5) (.int .i64 0) (S []) (.slice none 0 0) (.int .i64 0) (.slice none 0 0) (S []) (.int .i64 0) (.int .i64 0)).drew).cell 8, ((put9_other hM0 hMZ (.int .i64 5) (.int .i64 0) (S []) (.slice none 0 0) (.int .i64 0) (.slice none 0 0) (S []) (.int .i64 0) (.int .i64 0)).drew).cell 9, ((put9_other hM0 hMZ (.int .i64 5) (.int .i64 0) (S []) (.slice none 0 0) (.int .i64 0) (.slice none 0 0) (S []) (.int .i64 0) (.int .i64 0)).drew).cell 10, ((put9_other hM0 hMZ (.int .i64 5) (.int .i64 0) (S []) (.slice none 0 0) (.int .i64 0) (.slice none 0 0) (S []) (.int .i64 0) (.int .i64 0)).drew).cell 11, ((put9_other hM0 hMZ (.int .i64 5) (.int .i64 0) (S []) (.slice none 0 0) (.int .i64 0) (.slice none 0 0) (S []) (.int .i64 0) (.int .i64 0)).drew).cell 12, ((put9_other hM0 hMZ (.int .i64 5) (.int .i64 0) (S []) (.slice none 0 0) (.int .i64 0) (.slice none 0 0) (S []) (.int .i64 0) (.int .i64 0)).drew).cell 13, ((put9_other hM0 hMZ (.int .i64 5) (.int .i64 0) (S []) (.slice none 0 0) (.int .i64 0) (.slice none 0 0) (S []) (.int .i64 0) (.int .i64 0)).drew).cell 14⟩ (fun hHeld => ?_)
    clear hK K
    try simp only [Act.put, PT]
    (refine tkA 6 ?_ ?_ hHeld ?_; rotate_left; (intro w hSw; (try dsimp only at hSw); go_simp; try with_reducible rfl); simp only [Act.put, PT])
    try simp only [Act.put, PT]
    refine wpAnyH_done (by kernel_rfl) ?_ _
    have hBf := (hZ0.put9 (.int .i64 5) (.int .i64 0) (S []) (.slice none 0 0) (.int .i64 0) (.slice none 0 0) (S []) (.int .i64 0) (.int .i64 0)).drew
    have hbf := (put9_below hb0 hwZ (.int .i64 5) (.int .i64 0) (S []) (.slice none 0 0) (.int .i64 0) (.slice none 0 0) (S []) (.int .i64 0) (.int .i64 0)).drew
    go_wp2
    refine ret_pass (b := Z) (c := true) ?_ ?_ hBf ?_
    · rfl
    · rfl
    · exact ⟨by rw [HR2.out], hbf⟩
  · have g1 : (rm == [72, 69, 65, 68]) = false := by simpa using hh
    have HR2 : Hid (res = false) := by show _ = _; rw [eres]; exact g1
    clear eres HRES hh
    go_enter Tryz.func37, Tryz.ntmps37
    go_upto_region 1 with fail
    rw [← HW.out, ← HM.out, ← HZ.out]
    have x0 : w0.cell? ⟨M, 0, none⟩ = some (S rm) := hM0.cell 0; have x1 : w0.cell? ⟨M, 1, none⟩ = some (S rs) := hM0.cell 1; have x2 : w0.cell? ⟨M, 2, none⟩ = some (S ra) := hM0.cell 2; have x3 : w0.cell? ⟨M, 3, none⟩ = some (S rp) := hM0.cell 3; have x4 : w0.cell? ⟨M, 4, none⟩ = some (.slice pr lr.length cr) := hM0.cell 4; have x5 : w0.cell? ⟨M, 5, none⟩ = some (.int .i64 now) := hM0.cell 5; have x6 : w0.cell? ⟨M, 6, none⟩ = some (S key) := hM0.cell 6; have x7 : w0.cell? ⟨M, 7, none⟩ = some (.slice a1 n1 c1) := hM0.cell 7; have x8 : w0.cell? ⟨M, 8, none⟩ = some (.int .i64 st) := hM0.cell 8; have x9 : w0.cell? ⟨M, 9, none⟩ = some (.slice a2 lf.length c2) := hM0.cell 9; have x10 : w0.cell? ⟨M, 10, none⟩ = some (S body) := hM0.cell 10; have x11 : w0.cell? ⟨M, 11, none⟩ = some (.int .i64 asked) := hM0.cell 11; have x12 : w0.cell? ⟨M, 12, none⟩ = some (.int .i64 came) := hM0.cell 12; have x13 : w0.cell? ⟨M, 13, none⟩ = some (.int .i64 id) := hM0.cell 13; have x14 : w0.cell? ⟨M, 14, none⟩ = some (.bool fd) := hM0.cell 14; have v1 : w0.cell? ⟨M, 6 + 1, none⟩ = some (.slice a1 n1 c1) := hM0.cell 7; have v2 : w0.cell? ⟨M, 6 + 2, none⟩ = some (.int .i64 st) := hM0.cell 8; have v3 : w0.cell? ⟨M, 6 + 3, none⟩ = some (.slice a2 lf.length c2) := hM0.cell 9; have v4 : w0.cell? ⟨M, 6 + 4, none⟩ = some (S body) := hM0.cell 10; have v5 : w0.cell? ⟨M, 6 + 5, none⟩ = some (.int .i64 asked) := hM0.cell 11; have v6 : w0.cell? ⟨M, 6 + 6, none⟩ = some (.int .i64 came) := hM0.cell 12
    have z0 : w0.cell? ⟨Z, 0, none⟩ = some (.int .i64 0) := hZ0.cell 0; have f0 := hZ0.free 0; have z1 : w0.cell? ⟨Z, 1, none⟩ = some (.int .i64 0) := hZ0.cell 1; have f1 := hZ0.free 1; have z2 : w0.cell? ⟨Z, 2, none⟩ = some (S []) := hZ0.cell 2; have f2 := hZ0.free 2; have z3 : w0.cell? ⟨Z, 3, none⟩ = some (.slice none 0 0) := hZ0.cell 3; have f3 := hZ0.free 3; have z4 : w0.cell? ⟨Z, 4, none⟩ = some (.int .i64 0) := hZ0.cell 4; have f4 := hZ0.free 4; have z5 : w0.cell? ⟨Z, 5, none⟩ = some (.slice none 0 0) := hZ0.cell 5; have f5 := hZ0.free 5; have z6 : w0.cell? ⟨Z, 6, none⟩ = some (S []) := hZ0.cell 6; have f6 := hZ0.free 6; have z7 : w0.cell? ⟨Z, 7, none⟩ = some (.int .i64 0) := hZ0.cell 7; have f7 := hZ0.free 7; have z8 : w0.cell? ⟨Z, 8, none⟩ = some (.int .i64 0) := hZ0.cell 8; have f8 := hZ0.free 8
    go_wp2_with fail
    refine wp_region_held_drew (S := (fun wx => wx.cell? ⟨M, 0, none⟩ = some (S rm) ∧ wx.cell? ⟨M, 1, none⟩ = some (S rs) ∧ wx.cell? ⟨M, 2, none⟩ = some (S ra) ∧ wx.cell? ⟨M, 3, none⟩ = some (S rp) ∧ wx.cell? ⟨M, 4, none⟩ = some (.slice pr lr.length cr) ∧ wx.cell? ⟨M, 5, none⟩ = some (.int .i64 now) ∧ wx.cell? ⟨M, 6, none⟩ = some (S key) ∧ wx.cell? ⟨M, 6 + 1, none⟩ = some (.slice a1 n1 c1) ∧ wx.cell? ⟨M, 6 + 2, none⟩ = some (.int .i64 st) ∧ wx.cell? ⟨M, 6 + 3, none⟩ = some (.slice a2 lf.length c2) ∧ wx.cell? ⟨M, 6 + 4, none⟩ = some (S body) ∧ wx.cell? ⟨M, 6 + 5, none⟩ = some (.int .i64 asked) ∧ wx.cell? ⟨M, 6 + 6, none⟩ = some (.int .i64 came) ∧ wx.cell? ⟨M, 13, none⟩ = some (.int .i64 id) ∧ wx.cell? ⟨M, 14, none⟩ = some (.bool fd))) (by kernel_rfl) ⟨hM0.cell 0, hM0.cell 1, hM0.cell 2, hM0.cell 3, hM0.cell 4, hM0.cell 5, hM0.cell 6, hM0.cell 7, hM0.cell 8, hM0.cell 9, hM0.cell 10, hM0.cell 11, hM0.cell 12, hM0.cell 13, hM0.cell 14⟩ (fun hHeld => ?_)
    (refine tkA 0 ?_ ?_ hHeld ?_; rotate_left; (intro w hSw; (try dsimp only at hSw); go_simp; try with_reducible rfl); simp only [Act.put, PT])
    (refine tkA 1 ?_ ?_ hHeld ?_; rotate_left; (intro w hSw; (try dsimp only at hSw); go_simp; try with_reducible rfl); simp only [Act.put, PT])
    (refine tkA 2 ?_ ?_ hHeld ?_; rotate_left; (intro w hSw; (try dsimp only at hSw); go_simp; try with_reducible rfl); simp only [Act.put, PT])
    (refine tkA 3 ?_ ?_ hHeld ?_; rotate_left; (intro w hSw; (try dsimp only at hSw); go_simp; try with_reducible rfl); simp only [Act.put, PT])
    (refine tkA 4 ?_ ?_ hHeld ?_; rotate_left; (intro w hSw; (try dsimp only at hSw); go_simp; try with_reducible rfl); simp only [Act.put, PT])
    refine wpAnyH_ready (rs := [5]) (by kernel_rfl) (by simp) ?_
    refine AllReadyH.cons (by rfl) (fun K hK => ?_) AllReadyH.nil
    go_simp
    skip
    refine hK.out _ _ ⟨((put9_other hM0 hMZ (.int .i64 5) (.int .i64 0) (S []) (.slice none 0 0) (.int .i64 0) (.slice none 0 0) (S []) (.int .i64 0) (.int .i64 0)).drew).cell 0, ((put9_other hM0 hMZ (.int .i64 5) (.int .i64 0) (S []) (.slice none 0 0) (.int .i64 0) (.slice none 0 0) (S []) (.int .i64 0) (.int .i64 0)).drew).cell 1, ((put9_other hM0 hMZ (.int .i64 5) (.int .i64 0) (S []) (.slice none 0 0) (.int .i64 0) (.slice none 0 0) (S []) (.int .i64 0) (.int .i64 0)).drew).cell 2, ((put9_other hM0 hMZ (.int .i64 5) (.int .i64 0) (S []) (.slice none 0 0) (.int .i64 0) (.slice none 0 0) (S []) (.int .i64 0) (.int .i64 0)).drew).cell 3, ((put9_other hM0 hMZ (.int .i64 5) (.int .i64 0) (S []) (.slice none 0 0) (.int .i64 0) (.slice none 0 0) (S []) (.int .i64 0) (.int .i64 0)).drew).cell 4, ((put9_other hM0 hMZ (.int .i64 5) (.int .i64 0) (S []) (.slice none 0 0) (.int .i64 0) (.slice none 0 0) (S []) (.int .i64 0) (.int .i64 0)).drew).cell 5, ((put9_other hM0 hMZ (.int .i64 5) (.int .i64 0) (S []) (.slice none 0 0) (.int .i64 0) (.slice none 0 0) (S []) (.int .i64 0) (.int .i64 0)).drew).cell 6, ((put9_other hM0 hMZ (.int .i64 5) (.int .i64 0) (S []) (.slice none 0 0) (.int .i64 0) (.slice none 0 0) (S []) (.int .i64 0) (.int .i64 0)).drew).cell 7, ((put9_other hM0 hMZ (.int .i64 5) (.int .i64 0) (S []) (.slice none 0 0) (.int .i64 0) (.slice none 0 0) (S []) (.int .i64 0) (.int .i64 0)).drew).cell 8, ((put9_other hM0 hMZ (.int .i64 5) (.int .i64 0) (S []) (.slice none 0 0) (.int .i64 0) (.slice none 0 0) (S []) (.int .i64 0) (.int .i64 0)).drew).cell 9, ((put9_other hM0 hMZ (.int .i64 5) (.int .i64 0) (S []) (.slice none 0 0) (.int .i64 0) (.slice none 0 0) (S []) (.int .i64 0) (.int .i64 0)).drew).cell 10, ((put9_other hM0 hMZ (.int .i64 5) (.int .i64 0) (S []) (.slice none 0 0) (.int .i64 0) (.slice none 0 0) (S []) (.int .i64 0) (.int .i64 0)).drew).cell 11, ((put9_other hM0 hMZ (.int .i64 5) (.int .i64 0) (S []) (.slice none 0 0) (.int .i64 0) (.slice none 0 0) (S []) (.int .i64 0) (.int .i64 0)).drew).cell 12, ((put9_other hM0 hMZ (.int .i64 5) (.int .i64 0) (S []) (.slice none 0 0) (.int .i64 0) (.slice none 0 0) (S []) (.int .i64 0) (.int .i64 0)).drew).cell 13, ((put9_other hM0 hMZ (.int .i64 5) (.int .i64 0) (S []) (.slice none 0 0) (.int .i64 0) (.slice none 0 0) (S []) (.int .i64 0) (.int .i64 0)).drew).cell 14⟩ (fun hHeld => ?_)
    clear hK K
    try simp only [Act.put, PT]
    (refine tkA 6 ?_ ?_ hHeld ?_; rotate_left; (intro w hSw; (try dsimp only at hSw); go_simp; try with_reducible rfl); simp only [Act.put, PT])
    try simp only [Act.put, PT]
    refine wpAnyH_done (by kernel_rfl) ?_ _
    have hBf := (hZ0.put9 (.int .i64 5) (.int .i64 0) (S []) (.slice none 0 0) (.int .i64 0) (.slice none 0 0) (S []) (.int .i64 0) (.int .i64 0)).drew
    have hbf := (put9_below hb0 hwZ (.int .i64 5) (.int .i64 0) (S []) (.slice none 0 0) (.int .i64 0) (.slice none 0 0) (S []) (.int .i64 0) (.int .i64 0)).drew
    go_wp2
    refine ret_pass (b := Z) (c := false) ?_ ?_ hBf ?_
    · rfl
    · rfl
    · exact ⟨by rw [HR2.out], hbf⟩

set_option maxRecDepth 100000 in
set_option maxHeartbeats 4000000 in
theorem ret_ask {W : World} {tmps : Array Value} {b : Nat} {v0 v1 v2 v3 v4 v5 v6 v7 v8 : Value} {c : Bool} {R : Ending → World → Prop} (hs : tmps[2]? = some (.pointer (some ⟨b, 0, none⟩))) (hc : tmps[3]? = some (.bool c)) (h : Blk W b 38 #[v0, v1, v2, v3, v4, v5, v6, v7, v8]) (hR : R (.returned (.tuple #[.agg #[v0, v1, v2, v3, v4, v5, v6, v7, v8], .bool c])) W) :
    bodyPost Tryz.prog Tryz.f38 R .ret { tmps := tmps, defers := [] } W := by
  (have g0 : W.cell? ⟨b, 0, none⟩ = some (v0) := h.cell 0; have g1 : W.cell? ⟨b, 1, none⟩ = some (v1) := h.cell 1; have g2 : W.cell? ⟨b, 2, none⟩ = some (v2) := h.cell 2; have g3 : W.cell? ⟨b, 3, none⟩ = some (v3) := h.cell 3; have g4 : W.cell? ⟨b, 4, none⟩ = some (v4) := h.cell 4; have g5 : W.cell? ⟨b, 5, none⟩ = some (v5) := h.cell 5; have g6 : W.cell? ⟨b, 6, none⟩ = some (v6) := h.cell 6; have g7 : W.cell? ⟨b, 7, none⟩ = some (v7) := h.cell 7; have g8 : W.cell? ⟨b, 8, none⟩ = some (v8) := h.cell 8)
  exact bodyPost_ret (v := .tuple #[.agg #[v0, v1, v2, v3, v4, v5, v6, v7, v8], .bool c]) (by simp [results, Tryz.results38, go_sem, hs, hc, g0, g1, g2, g3, g4, g5, g6, g7, g8]) rfl hR

set_option maxRecDepth 100000 in
set_option maxHeartbeats 4000000 in
theorem deal_ask_any (rm rs ra rp : Bytes) (pr : Option Addr) (cr : Nat) (lr : List F) (now : Int) (key : Bytes) (a1 : Option Addr) (n1 c1 : Nat) (st : Int) (a2 : Option Addr) (c2 : Nat) (lf : List F) (body : Bytes) (asked came id : Int) (fd : Bool) (w : World) (hr : Fs w.heap.size w (.slice pr lr.length cr) lr) (hf : Fs w.heap.size w (.slice a2 lf.length c2) lf) (hl : fsum lr ≤ 1099511627776) (hl2 : fsum lf ≤ 1099511627776) :
    Calls Tryz.prog 38 #[.agg #[S rm, S rs, S ra, S rp, .slice pr lr.length cr, .int .i64 now, S key, .slice a1 n1 c1, .int .i64 st, .slice a2 lf.length c2, S body, .int .i64 asked, .int .i64 came, .int .i64 id, .bool fd]] w fun e w' => e = .returned (.tuple #[dealV 2 id key (.slice a1 n1 c1) st (.slice a2 lf.length c2) body asked came, .bool (fd && decide (0 < (asksF lf).length))]) ∧ Below w.heap.size w w' := by
  obtain ⟨w1, e1⟩ : ∃ w1 : World, w1 = w.alloc (.cells #[S rm, S rs, S ra, S rp, .slice pr lr.length cr, .int .i64 now, S key, .slice a1 n1 c1, .int .i64 st, .slice a2 lf.length c2, S body, .int .i64 asked, .int .i64 came, .int .i64 id, .bool fd] 72) := ⟨_, rfl⟩
  obtain ⟨M, eM⟩ : ∃ M, M = w.heap.size := ⟨_, rfl⟩
  have hs1 : w1.heap.size = M + 1 := by rw [e1, eM]; simp
  have hM1 : Blk w1 M 72 #[S rm, S rs, S ra, S rp, .slice pr lr.length cr, .int .i64 now, S key, .slice a1 n1 c1, .int .i64 st, .slice a2 lf.length c2, S body, .int .i64 asked, .int .i64 came, .int .i64 id, .bool fd] := by rw [e1, eM]; exact Blk.new _ _ _
  obtain ⟨w0, e0⟩ : ∃ w0 : World, w0 = w1.alloc (.cells #[.int .i64 0, .int .i64 0, S [], .slice none 0 0, .int .i64 0, .slice none 0 0, S [], .int .i64 0, .int .i64 0] 38) := ⟨_, rfl⟩
  obtain ⟨Z, eZ⟩ : ∃ Z, Z = M + 1 := ⟨_, rfl⟩
  have hM0 : Blk w0 M 72 #[S rm, S rs, S ra, S rp, .slice pr lr.length cr, .int .i64 now, S key, .slice a1 n1 c1, .int .i64 st, .slice a2 lf.length c2, S body, .int .i64 asked, .int .i64 came, .int .i64 id, .bool fd] := by rw [e0]; exact hM1.alloc _
  have hZ0 : Blk w0 Z 38 #[.int .i64 0, .int .i64 0, S [], .slice none 0 0, .int .i64 0, .slice none 0 0, S [], .int .i64 0, .int .i64 0] := by rw [e0, eZ, ← hs1]; exact Blk.new _ _ _
  have hb0 : Below w.heap.size w w0 := by rw [e0]; exact ((by rw [e1]; exact (Below.refl _ _).alloc (Nat.le_refl _) _ : Below w.heap.size w w1)).alloc (by rw [hs1, eM]; omega) _
  have hMZ : M ≠ Z := by omega
  have hwZ : w.heap.size ≤ Z := by omega
  have hr0 := (hr.below hb0).mono hb0.size
  have hf0 := (hf.below hb0).mono hb0.size
  have HM := Lib.hid eM
  have HZ := Lib.hid eZ
  have HW : Hid (w0 = (w.alloc (.cells #[S rm, S rs, S ra, S rp, .slice pr lr.length cr, .int .i64 now, S key, .slice a1 n1 c1, .int .i64 st, .slice a2 lf.length c2, S body, .int .i64 asked, .int .i64 came, .int .i64 id, .bool fd] 72)).alloc (.cells #[.int .i64 0, .int .i64 0, S [], .slice none 0 0, .int .i64 0, .slice none 0 0, S [], .int .i64 0, .int .i64 0] 38)) := by show _ = _; rw [e0, e1]
  clear e0 e1 eZ eM hs1 hM1
  have hG := fun w h1 => Asks_any ⟨key, .slice a1 n1 c1, st, .slice a2 lf.length c2, body, asked, came⟩ lf w h1 hl2
  simp only [En.val] at hG
  have HG := Lib.hid hG
  obtain ⟨n, en⟩ : ∃ n, n = (asksF lf).length := ⟨_, rfl⟩
  obtain ⟨res, eres⟩ : ∃ res, res = (fd && decide (0 < (asksF lf).length)) := ⟨_, rfl⟩
  rw [← eres]
  have HRES := Lib.hid eres
  have HN := Lib.hid en
  clear hG en eres
  cases fd with
  | false =>
    have HR2 : Hid (res = false) := by show _ = _; rw [HRES.out]; rfl
    go_enter Tryz.func38, Tryz.ntmps38
    go_upto_region 1 with fail
    rw [← HW.out, ← HM.out, ← HZ.out]
    have x0 : w0.cell? ⟨M, 0, none⟩ = some (S rm) := hM0.cell 0; have x1 : w0.cell? ⟨M, 1, none⟩ = some (S rs) := hM0.cell 1; have x2 : w0.cell? ⟨M, 2, none⟩ = some (S ra) := hM0.cell 2; have x3 : w0.cell? ⟨M, 3, none⟩ = some (S rp) := hM0.cell 3; have x4 : w0.cell? ⟨M, 4, none⟩ = some (.slice pr lr.length cr) := hM0.cell 4; have x5 : w0.cell? ⟨M, 5, none⟩ = some (.int .i64 now) := hM0.cell 5; have x6 : w0.cell? ⟨M, 6, none⟩ = some (S key) := hM0.cell 6; have x7 : w0.cell? ⟨M, 7, none⟩ = some (.slice a1 n1 c1) := hM0.cell 7; have x8 : w0.cell? ⟨M, 8, none⟩ = some (.int .i64 st) := hM0.cell 8; have x9 : w0.cell? ⟨M, 9, none⟩ = some (.slice a2 lf.length c2) := hM0.cell 9; have x10 : w0.cell? ⟨M, 10, none⟩ = some (S body) := hM0.cell 10; have x11 : w0.cell? ⟨M, 11, none⟩ = some (.int .i64 asked) := hM0.cell 11; have x12 : w0.cell? ⟨M, 12, none⟩ = some (.int .i64 came) := hM0.cell 12; have x13 : w0.cell? ⟨M, 13, none⟩ = some (.int .i64 id) := hM0.cell 13; have x14 : w0.cell? ⟨M, 14, none⟩ = some (.bool false) := hM0.cell 14; have v1 : w0.cell? ⟨M, 6 + 1, none⟩ = some (.slice a1 n1 c1) := hM0.cell 7; have v2 : w0.cell? ⟨M, 6 + 2, none⟩ = some (.int .i64 st) := hM0.cell 8; have v3 : w0.cell? ⟨M, 6 + 3, none⟩ = some (.slice a2 lf.length c2) := hM0.cell 9; have v4 : w0.cell? ⟨M, 6 + 4, none⟩ = some (S body) := hM0.cell 10; have v5 : w0.cell? ⟨M, 6 + 5, none⟩ = some (.int .i64 asked) := hM0.cell 11; have v6 : w0.cell? ⟨M, 6 + 6, none⟩ = some (.int .i64 came) := hM0.cell 12
    have z0 : w0.cell? ⟨Z, 0, none⟩ = some (.int .i64 0) := hZ0.cell 0; have f0 := hZ0.free 0; have z1 : w0.cell? ⟨Z, 1, none⟩ = some (.int .i64 0) := hZ0.cell 1; have f1 := hZ0.free 1; have z2 : w0.cell? ⟨Z, 2, none⟩ = some (S []) := hZ0.cell 2; have f2 := hZ0.free 2; have z3 : w0.cell? ⟨Z, 3, none⟩ = some (.slice none 0 0) := hZ0.cell 3; have f3 := hZ0.free 3; have z4 : w0.cell? ⟨Z, 4, none⟩ = some (.int .i64 0) := hZ0.cell 4; have f4 := hZ0.free 4; have z5 : w0.cell? ⟨Z, 5, none⟩ = some (.slice none 0 0) := hZ0.cell 5; have f5 := hZ0.free 5; have z6 : w0.cell? ⟨Z, 6, none⟩ = some (S []) := hZ0.cell 6; have f6 := hZ0.free 6; have z7 : w0.cell? ⟨Z, 7, none⟩ = some (.int .i64 0) := hZ0.cell 7; have f7 := hZ0.free 7; have z8 : w0.cell? ⟨Z, 8, none⟩ = some (.int .i64 0) := hZ0.cell 8; have f8 := hZ0.free 8
    go_wp2_with fail
    refine wp_region_held_drew (S := (fun wx => wx.cell? ⟨M, 0, none⟩ = some (S rm) ∧ wx.cell? ⟨M, 1, none⟩ = some (S rs) ∧ wx.cell? ⟨M, 2, none⟩ = some (S ra) ∧ wx.cell? ⟨M, 3, none⟩ = some (S rp) ∧ wx.cell? ⟨M, 4, none⟩ = some (.slice pr lr.length cr) ∧ wx.cell? ⟨M, 5, none⟩ = some (.int .i64 now) ∧ wx.cell? ⟨M, 6, none⟩ = some (S key) ∧ wx.cell? ⟨M, 6 + 1, none⟩ = some (.slice a1 n1 c1) ∧ wx.cell? ⟨M, 6 + 2, none⟩ = some (.int .i64 st) ∧ wx.cell? ⟨M, 6 + 3, none⟩ = some (.slice a2 lf.length c2) ∧ wx.cell? ⟨M, 6 + 4, none⟩ = some (S body) ∧ wx.cell? ⟨M, 6 + 5, none⟩ = some (.int .i64 asked) ∧ wx.cell? ⟨M, 6 + 6, none⟩ = some (.int .i64 came) ∧ wx.cell? ⟨M, 13, none⟩ = some (.int .i64 id) ∧ wx.cell? ⟨M, 14, none⟩ = some (.bool false))) (by kernel_rfl) ⟨hM0.cell 0, hM0.cell 1, hM0.cell 2, hM0.cell 3, hM0.cell 4, hM0.cell 5, hM0.cell 6, hM0.cell 7, hM0.cell 8, hM0.cell 9, hM0.cell 10, hM0.cell 11, hM0.cell 12, hM0.cell 13, hM0.cell 14⟩ (fun hHeld => ?_)
    (refine tkA 0 ?_ ?_ hHeld ?_; rotate_left; (intro w hSw; (try dsimp only at hSw); go_simp; try with_reducible rfl); simp only [Act.put, PT])
    (refine tkA 1 ?_ ?_ hHeld ?_; rotate_left; (intro w hSw; (try dsimp only at hSw); go_simp; try with_reducible rfl); simp only [Act.put, PT])
    (refine tkA 2 ?_ ?_ hHeld ?_; rotate_left; (intro w hSw; (try dsimp only at hSw); go_simp; try with_reducible rfl); simp only [Act.put, PT])
    (refine tkA 3 ?_ ?_ hHeld ?_; rotate_left; (intro w hSw; (try dsimp only at hSw); go_simp; try with_reducible rfl); simp only [Act.put, PT])
    (refine tkA 4 ?_ ?_ hHeld ?_; rotate_left; (intro w hSw; (try dsimp only at hSw); go_simp; try with_reducible rfl); simp only [Act.put, PT])
    (refine tkA 5 ?_ ?_ hHeld ?_; rotate_left; (intro w hSw; (try dsimp only at hSw); go_simp; try with_reducible rfl); simp only [Act.put, PT])
    (refine tkA 6 ?_ ?_ hHeld ?_; rotate_left; (intro w hSw; (try dsimp only at hSw); go_simp; try with_reducible rfl); simp only [Act.put, PT])
    (refine tkA 7 ?_ ?_ hHeld ?_; rotate_left; (intro w hSw; (try dsimp only at hSw); go_simp; try with_reducible rfl); simp only [Act.put, PT])
    (refine tkB 8 hHeld ?_; simp only [Act.put, PT])
    (refine tkB 9 hHeld ?_; simp only [Act.put, PT])
    (refine tkB 10 hHeld ?_; simp only [Act.put, PT])
    (refine tkB 11 hHeld ?_; simp only [Act.put, PT])
    (refine tkB 12 hHeld ?_; simp only [Act.put, PT])
    (refine tkA 13 ?_ ?_ hHeld ?_; rotate_left; (intro w hSw; (try dsimp only at hSw); go_simp; try with_reducible rfl); simp only [Act.put, PT])
    refine wpAnyH_ready (rs := [14]) (by kernel_rfl) (by simp) ?_
    refine AllReadyH.cons (by rfl) (fun K hK => ?_) AllReadyH.nil
    go_simp
    skip
    refine hK.out _ _ ⟨((put9_other hM0 hMZ (.int .i64 2) (.int .i64 id) (S key) (.slice a1 n1 c1) (.int .i64 st) (.slice a2 lf.length c2) (S body) (.int .i64 asked) (.int .i64 came)).drew).cell 0, ((put9_other hM0 hMZ (.int .i64 2) (.int .i64 id) (S key) (.slice a1 n1 c1) (.int .i64 st) (.slice a2 lf.length c2) (S body) (.int .i64 asked) (.int .i64 came)).drew).cell 1, ((put9_other hM0 hMZ (.int .i64 2) (.int .i64 id) (S key) (.slice a1 n1 c1) (.int .i64 st) (.slice a2 lf.length c2) (S body) (.int .i64 asked) (.int .i64 came)).drew).cell 2, ((put9_other hM0 hMZ (.int .i64 2) (.int .i64 id) (S key) (.slice a1 n1 c1) (.int .i64 st) (.slice a2 lf.length c2) (S body) (.int .i64 asked) (.int .i64 came)).drew).cell 3, ((put9_other hM0 hMZ (.int .i64 2) (.int .i64 id) (S key) (.slice a1 n1 c1) (.int .i64 st) (.slice a2 lf.length c2) (S body) (.int .i64 asked) (.int .i64 came)).drew).cell 4, ((put9_other hM0 hMZ (.int .i64 2) (.int .i64 id) (S key) (.slice a1 n1 c1) (.int .i64 st) (.slice a2 lf.length c2) (S body) (.int .i64 asked) (.int .i64 came)).drew).cell 5, ((put9_other hM0 hMZ (.int .i64 2) (.int .i64 id) (S key) (.slice a1 n1 c1) (.int .i64 st) (.slice a2 lf.length c2) (S body) (.int .i64 asked) (.int .i64 came)).drew).cell 6, ((put9_other hM0 hMZ (.int .i64 2) (.int .i64 id) (S key) (.slice a1 n1 c1) (.int .i64 st) (.slice a2 lf.length c2) (S body) (.int .i64 asked) (.int .i64 came)).drew).cell 7, ((put9_other hM0 hMZ (.int .i64 2) (.int .i64 id) (S key) (.slice a1 n1 c1) (.int .i64 st) (.slice a2 lf.length c2) (S body) (.int .i64 asked) (.int .i64 came)).drew).cell 8, ((put9_other hM0 hMZ (.int .i64 2) (.int .i64 id) (S key) (.slice a1 n1 c1) (.int .i64 st) (.slice a2 lf.length c2) (S body) (.int .i64 asked) (.int .i64 came)).drew).cell 9, ((put9_other hM0 hMZ (.int .i64 2) (.int .i64 id) (S key) (.slice a1 n1 c1) (.int .i64 st) (.slice a2 lf.length c2) (S body) (.int .i64 asked) (.int .i64 came)).drew).cell 10, ((put9_other hM0 hMZ (.int .i64 2) (.int .i64 id) (S key) (.slice a1 n1 c1) (.int .i64 st) (.slice a2 lf.length c2) (S body) (.int .i64 asked) (.int .i64 came)).drew).cell 11, ((put9_other hM0 hMZ (.int .i64 2) (.int .i64 id) (S key) (.slice a1 n1 c1) (.int .i64 st) (.slice a2 lf.length c2) (S body) (.int .i64 asked) (.int .i64 came)).drew).cell 12, ((put9_other hM0 hMZ (.int .i64 2) (.int .i64 id) (S key) (.slice a1 n1 c1) (.int .i64 st) (.slice a2 lf.length c2) (S body) (.int .i64 asked) (.int .i64 came)).drew).cell 13, ((put9_other hM0 hMZ (.int .i64 2) (.int .i64 id) (S key) (.slice a1 n1 c1) (.int .i64 st) (.slice a2 lf.length c2) (S body) (.int .i64 asked) (.int .i64 came)).drew).cell 14⟩ (fun hHeld => ?_)
    clear hK K
    try simp only [Act.put, PT]
    (refine tkA 15 ?_ ?_ hHeld ?_; rotate_left; (intro w hSw; (try dsimp only at hSw); go_simp; try with_reducible rfl); simp only [Act.put, PT])
    try simp only [Act.put, PT]
    refine wpAnyH_done (by kernel_rfl) ?_ _
    have hBf := (hZ0.put9 (.int .i64 2) (.int .i64 id) (S key) (.slice a1 n1 c1) (.int .i64 st) (.slice a2 lf.length c2) (S body) (.int .i64 asked) (.int .i64 came)).drew
    have hbf := (put9_below hb0 hwZ (.int .i64 2) (.int .i64 id) (S key) (.slice a1 n1 c1) (.int .i64 st) (.slice a2 lf.length c2) (S body) (.int .i64 asked) (.int .i64 came)).drew
    go_wp2
    refine ret_ask (b := Z) (c := false) ?_ ?_ hBf ?_
    · rfl
    · rfl
    · exact ⟨by rw [HR2.out], hbf⟩
  | true =>
    by_cases hn : 0 < n
    · have HR2 : Hid (res = true) := by show _ = _; rw [HRES.out, ← HN.out]; simpa using hn
      have d1 : decide (0 < n) = true := by simpa using hn
      have d2 : decide ((0 : Int) < (n : Int)) = true := by simp; omega
      clear hn
      go_enter Tryz.func38, Tryz.ntmps38
      go_upto_region 1 with fail
      rw [← HW.out, ← HM.out, ← HZ.out]
      have x0 : w0.cell? ⟨M, 0, none⟩ = some (S rm) := hM0.cell 0; have x1 : w0.cell? ⟨M, 1, none⟩ = some (S rs) := hM0.cell 1; have x2 : w0.cell? ⟨M, 2, none⟩ = some (S ra) := hM0.cell 2; have x3 : w0.cell? ⟨M, 3, none⟩ = some (S rp) := hM0.cell 3; have x4 : w0.cell? ⟨M, 4, none⟩ = some (.slice pr lr.length cr) := hM0.cell 4; have x5 : w0.cell? ⟨M, 5, none⟩ = some (.int .i64 now) := hM0.cell 5; have x6 : w0.cell? ⟨M, 6, none⟩ = some (S key) := hM0.cell 6; have x7 : w0.cell? ⟨M, 7, none⟩ = some (.slice a1 n1 c1) := hM0.cell 7; have x8 : w0.cell? ⟨M, 8, none⟩ = some (.int .i64 st) := hM0.cell 8; have x9 : w0.cell? ⟨M, 9, none⟩ = some (.slice a2 lf.length c2) := hM0.cell 9; have x10 : w0.cell? ⟨M, 10, none⟩ = some (S body) := hM0.cell 10; have x11 : w0.cell? ⟨M, 11, none⟩ = some (.int .i64 asked) := hM0.cell 11; have x12 : w0.cell? ⟨M, 12, none⟩ = some (.int .i64 came) := hM0.cell 12; have x13 : w0.cell? ⟨M, 13, none⟩ = some (.int .i64 id) := hM0.cell 13; have x14 : w0.cell? ⟨M, 14, none⟩ = some (.bool true) := hM0.cell 14; have v1 : w0.cell? ⟨M, 6 + 1, none⟩ = some (.slice a1 n1 c1) := hM0.cell 7; have v2 : w0.cell? ⟨M, 6 + 2, none⟩ = some (.int .i64 st) := hM0.cell 8; have v3 : w0.cell? ⟨M, 6 + 3, none⟩ = some (.slice a2 lf.length c2) := hM0.cell 9; have v4 : w0.cell? ⟨M, 6 + 4, none⟩ = some (S body) := hM0.cell 10; have v5 : w0.cell? ⟨M, 6 + 5, none⟩ = some (.int .i64 asked) := hM0.cell 11; have v6 : w0.cell? ⟨M, 6 + 6, none⟩ = some (.int .i64 came) := hM0.cell 12
      go_wp2_with fail
      refine wp_region_held_drew (S := (fun wx => wx.cell? ⟨M, 0, none⟩ = some (S rm) ∧ wx.cell? ⟨M, 1, none⟩ = some (S rs) ∧ wx.cell? ⟨M, 2, none⟩ = some (S ra) ∧ wx.cell? ⟨M, 3, none⟩ = some (S rp) ∧ wx.cell? ⟨M, 4, none⟩ = some (.slice pr lr.length cr) ∧ wx.cell? ⟨M, 5, none⟩ = some (.int .i64 now) ∧ wx.cell? ⟨M, 6, none⟩ = some (S key) ∧ wx.cell? ⟨M, 6 + 1, none⟩ = some (.slice a1 n1 c1) ∧ wx.cell? ⟨M, 6 + 2, none⟩ = some (.int .i64 st) ∧ wx.cell? ⟨M, 6 + 3, none⟩ = some (.slice a2 lf.length c2) ∧ wx.cell? ⟨M, 6 + 4, none⟩ = some (S body) ∧ wx.cell? ⟨M, 6 + 5, none⟩ = some (.int .i64 asked) ∧ wx.cell? ⟨M, 6 + 6, none⟩ = some (.int .i64 came) ∧ wx.cell? ⟨M, 13, none⟩ = some (.int .i64 id) ∧ wx.cell? ⟨M, 14, none⟩ = some (.bool true))) (by kernel_rfl) ⟨hM0.cell 0, hM0.cell 1, hM0.cell 2, hM0.cell 3, hM0.cell 4, hM0.cell 5, hM0.cell 6, hM0.cell 7, hM0.cell 8, hM0.cell 9, hM0.cell 10, hM0.cell 11, hM0.cell 12, hM0.cell 13, hM0.cell 14⟩ (fun hHeld => ?_)
      (refine tkA 0 ?_ ?_ hHeld ?_; rotate_left; (intro w hSw; (try dsimp only at hSw); go_simp; try with_reducible rfl); simp only [Act.put, PT])
      (refine tkA 1 ?_ ?_ hHeld ?_; rotate_left; (intro w hSw; (try dsimp only at hSw); go_simp; try with_reducible rfl); simp only [Act.put, PT])
      (refine tkA 2 ?_ ?_ hHeld ?_; rotate_left; (intro w hSw; (try dsimp only at hSw); go_simp; try with_reducible rfl); simp only [Act.put, PT])
      (refine tkA 3 ?_ ?_ hHeld ?_; rotate_left; (intro w hSw; (try dsimp only at hSw); go_simp; try with_reducible rfl); simp only [Act.put, PT])
      (refine tkA 4 ?_ ?_ hHeld ?_; rotate_left; (intro w hSw; (try dsimp only at hSw); go_simp; try with_reducible rfl); simp only [Act.put, PT])
      (refine tkA 5 ?_ ?_ hHeld ?_; rotate_left; (intro w hSw; (try dsimp only at hSw); go_simp; try with_reducible rfl); simp only [Act.put, PT])
      (refine tkA 6 ?_ ?_ hHeld ?_; rotate_left; (intro w hSw; (try dsimp only at hSw); go_simp; try with_reducible rfl); simp only [Act.put, PT])
      (refine tkA 7 ?_ ?_ hHeld ?_; rotate_left; (intro w hSw; (try dsimp only at hSw); go_simp; try with_reducible rfl); simp only [Act.put, PT])
      (refine tkA 8 ?_ ?_ hHeld ?_; rotate_left; (intro w hSw; (try dsimp only at hSw); go_simp; try with_reducible rfl); simp only [Act.put, PT])
      (refine tkA 9 ?_ ?_ hHeld ?_; rotate_left; (intro w hSw; (try dsimp only at hSw); go_simp; try with_reducible rfl); simp only [Act.put, PT])
      refine wpAnyH_ready (rs := [10]) (by kernel_rfl) (by simp) ?_
      refine AllReadyH.cons (by rfl) (fun K hK => ?_) AllReadyH.nil
      go_simp
      (with_reducible refine (HG.out w0.drew (show Fs w0.drew.heap.size w0.drew _ lf from hf0.drew)).mono ?_); rintro e w2 ⟨vv, rfl, hvv, hb2⟩; obtain ⟨pa, ca, rfl, hm⟩ := (Fs.own hvv).form; rw [← HN.out]; clear hvv hm; replace hb2 := Bl.undrew hb2; have hM2 := hM0.on hb2; have hZ2 := hZ0.on hb2; have z0 : w2.cell? ⟨Z, 0, none⟩ = some (.int .i64 0) := hZ2.cell 0; have f0 := hZ2.free 0; have z1 : w2.cell? ⟨Z, 1, none⟩ = some (.int .i64 0) := hZ2.cell 1; have f1 := hZ2.free 1; have z2 : w2.cell? ⟨Z, 2, none⟩ = some (S []) := hZ2.cell 2; have f2 := hZ2.free 2; have z3 : w2.cell? ⟨Z, 3, none⟩ = some (.slice none 0 0) := hZ2.cell 3; have f3 := hZ2.free 3; have z4 : w2.cell? ⟨Z, 4, none⟩ = some (.int .i64 0) := hZ2.cell 4; have f4 := hZ2.free 4; have z5 : w2.cell? ⟨Z, 5, none⟩ = some (.slice none 0 0) := hZ2.cell 5; have f5 := hZ2.free 5; have z6 : w2.cell? ⟨Z, 6, none⟩ = some (S []) := hZ2.cell 6; have f6 := hZ2.free 6; have z7 : w2.cell? ⟨Z, 7, none⟩ = some (.int .i64 0) := hZ2.cell 7; have f7 := hZ2.free 7; have z8 : w2.cell? ⟨Z, 8, none⟩ = some (.int .i64 0) := hZ2.cell 8; have f8 := hZ2.free 8
      refine hK.out _ _ ⟨hM2.cell 0, hM2.cell 1, hM2.cell 2, hM2.cell 3, hM2.cell 4, hM2.cell 5, hM2.cell 6, hM2.cell 7, hM2.cell 8, hM2.cell 9, hM2.cell 10, hM2.cell 11, hM2.cell 12, hM2.cell 13, hM2.cell 14⟩ (fun hHeld => ?_)
      clear hK K
      try simp only [Act.put, PT]
      (refine tkA 11 ?_ ?_ hHeld ?_; rotate_left; (intro w hSw; (try dsimp only at hSw); go_simp; try with_reducible rfl); simp only [Act.put, PT])
      (refine tkA 12 ?_ ?_ hHeld ?_; rotate_left; (intro w hSw; (try dsimp only at hSw); go_simp; try with_reducible rfl); simp only [Act.put, PT])
      (refine tkA 13 ?_ ?_ hHeld ?_; rotate_left; (intro w hSw; (try dsimp only at hSw); go_simp; try with_reducible rfl); simp only [Act.put, PT])
      refine wpAnyH_ready (rs := [14]) (by kernel_rfl) (by simp) ?_
      refine AllReadyH.cons (by rfl) (fun K hK => ?_) AllReadyH.nil
      go_simp
      skip
      refine hK.out _ _ ⟨(put9_other hM2 hMZ (.int .i64 2) (.int .i64 id) (S key) (.slice a1 n1 c1) (.int .i64 st) (.slice a2 lf.length c2) (S body) (.int .i64 asked) (.int .i64 came)).cell 0, (put9_other hM2 hMZ (.int .i64 2) (.int .i64 id) (S key) (.slice a1 n1 c1) (.int .i64 st) (.slice a2 lf.length c2) (S body) (.int .i64 asked) (.int .i64 came)).cell 1, (put9_other hM2 hMZ (.int .i64 2) (.int .i64 id) (S key) (.slice a1 n1 c1) (.int .i64 st) (.slice a2 lf.length c2) (S body) (.int .i64 asked) (.int .i64 came)).cell 2, (put9_other hM2 hMZ (.int .i64 2) (.int .i64 id) (S key) (.slice a1 n1 c1) (.int .i64 st) (.slice a2 lf.length c2) (S body) (.int .i64 asked) (.int .i64 came)).cell 3, (put9_other hM2 hMZ (.int .i64 2) (.int .i64 id) (S key) (.slice a1 n1 c1) (.int .i64 st) (.slice a2 lf.length c2) (S body) (.int .i64 asked) (.int .i64 came)).cell 4, (put9_other hM2 hMZ (.int .i64 2) (.int .i64 id) (S key) (.slice a1 n1 c1) (.int .i64 st) (.slice a2 lf.length c2) (S body) (.int .i64 asked) (.int .i64 came)).cell 5, (put9_other hM2 hMZ (.int .i64 2) (.int .i64 id) (S key) (.slice a1 n1 c1) (.int .i64 st) (.slice a2 lf.length c2) (S body) (.int .i64 asked) (.int .i64 came)).cell 6, (put9_other hM2 hMZ (.int .i64 2) (.int .i64 id) (S key) (.slice a1 n1 c1) (.int .i64 st) (.slice a2 lf.length c2) (S body) (.int .i64 asked) (.int .i64 came)).cell 7, (put9_other hM2 hMZ (.int .i64 2) (.int .i64 id) (S key) (.slice a1 n1 c1) (.int .i64 st) (.slice a2 lf.length c2) (S body) (.int .i64 asked) (.int .i64 came)).cell 8, (put9_other hM2 hMZ (.int .i64 2) (.int .i64 id) (S key) (.slice a1 n1 c1) (.int .i64 st) (.slice a2 lf.length c2) (S body) (.int .i64 asked) (.int .i64 came)).cell 9, (put9_other hM2 hMZ (.int .i64 2) (.int .i64 id) (S key) (.slice a1 n1 c1) (.int .i64 st) (.slice a2 lf.length c2) (S body) (.int .i64 asked) (.int .i64 came)).cell 10, (put9_other hM2 hMZ (.int .i64 2) (.int .i64 id) (S key) (.slice a1 n1 c1) (.int .i64 st) (.slice a2 lf.length c2) (S body) (.int .i64 asked) (.int .i64 came)).cell 11, (put9_other hM2 hMZ (.int .i64 2) (.int .i64 id) (S key) (.slice a1 n1 c1) (.int .i64 st) (.slice a2 lf.length c2) (S body) (.int .i64 asked) (.int .i64 came)).cell 12, (put9_other hM2 hMZ (.int .i64 2) (.int .i64 id) (S key) (.slice a1 n1 c1) (.int .i64 st) (.slice a2 lf.length c2) (S body) (.int .i64 asked) (.int .i64 came)).cell 13, (put9_other hM2 hMZ (.int .i64 2) (.int .i64 id) (S key) (.slice a1 n1 c1) (.int .i64 st) (.slice a2 lf.length c2) (S body) (.int .i64 asked) (.int .i64 came)).cell 14⟩ (fun hHeld => ?_)
      clear hK K
      try simp only [Act.put, PT]
      (refine tkA 15 ?_ ?_ hHeld ?_; rotate_left; (intro w hSw; (try dsimp only at hSw); go_simp; try with_reducible rfl); simp only [Act.put, PT])
      try simp only [Act.put, PT]
      refine wpAnyH_done (by kernel_rfl) ?_ _
      have hb2' := Bl.tr hb0 hb2
      have hBf := (hZ2.put9 (.int .i64 2) (.int .i64 id) (S key) (.slice a1 n1 c1) (.int .i64 st) (.slice a2 lf.length c2) (S body) (.int .i64 asked) (.int .i64 came))
      have hbf := (put9_below hb2' hwZ (.int .i64 2) (.int .i64 id) (S key) (.slice a1 n1 c1) (.int .i64 st) (.slice a2 lf.length c2) (S body) (.int .i64 asked) (.int .i64 came))
      go_wp2
      refine ret_ask (b := Z) (c := true) ?_ ?_ hBf ?_
      · rfl
      · rfl
      · exact ⟨by rw [HR2.out], hbf⟩
    · have HR2 : Hid (res = false) := by show _ = _; rw [HRES.out, ← HN.out]; simpa using hn
      have d1 : decide (0 < n) = false := by simpa using hn
      have d2 : decide ((0 : Int) < (n : Int)) = false := by simp; omega
      clear hn
      go_enter Tryz.func38, Tryz.ntmps38
      go_upto_region 1 with fail
      rw [← HW.out, ← HM.out, ← HZ.out]
      have x0 : w0.cell? ⟨M, 0, none⟩ = some (S rm) := hM0.cell 0; have x1 : w0.cell? ⟨M, 1, none⟩ = some (S rs) := hM0.cell 1; have x2 : w0.cell? ⟨M, 2, none⟩ = some (S ra) := hM0.cell 2; have x3 : w0.cell? ⟨M, 3, none⟩ = some (S rp) := hM0.cell 3; have x4 : w0.cell? ⟨M, 4, none⟩ = some (.slice pr lr.length cr) := hM0.cell 4; have x5 : w0.cell? ⟨M, 5, none⟩ = some (.int .i64 now) := hM0.cell 5; have x6 : w0.cell? ⟨M, 6, none⟩ = some (S key) := hM0.cell 6; have x7 : w0.cell? ⟨M, 7, none⟩ = some (.slice a1 n1 c1) := hM0.cell 7; have x8 : w0.cell? ⟨M, 8, none⟩ = some (.int .i64 st) := hM0.cell 8; have x9 : w0.cell? ⟨M, 9, none⟩ = some (.slice a2 lf.length c2) := hM0.cell 9; have x10 : w0.cell? ⟨M, 10, none⟩ = some (S body) := hM0.cell 10; have x11 : w0.cell? ⟨M, 11, none⟩ = some (.int .i64 asked) := hM0.cell 11; have x12 : w0.cell? ⟨M, 12, none⟩ = some (.int .i64 came) := hM0.cell 12; have x13 : w0.cell? ⟨M, 13, none⟩ = some (.int .i64 id) := hM0.cell 13; have x14 : w0.cell? ⟨M, 14, none⟩ = some (.bool true) := hM0.cell 14; have v1 : w0.cell? ⟨M, 6 + 1, none⟩ = some (.slice a1 n1 c1) := hM0.cell 7; have v2 : w0.cell? ⟨M, 6 + 2, none⟩ = some (.int .i64 st) := hM0.cell 8; have v3 : w0.cell? ⟨M, 6 + 3, none⟩ = some (.slice a2 lf.length c2) := hM0.cell 9; have v4 : w0.cell? ⟨M, 6 + 4, none⟩ = some (S body) := hM0.cell 10; have v5 : w0.cell? ⟨M, 6 + 5, none⟩ = some (.int .i64 asked) := hM0.cell 11; have v6 : w0.cell? ⟨M, 6 + 6, none⟩ = some (.int .i64 came) := hM0.cell 12
      go_wp2_with fail
      refine wp_region_held_drew (S := (fun wx => wx.cell? ⟨M, 0, none⟩ = some (S rm) ∧ wx.cell? ⟨M, 1, none⟩ = some (S rs) ∧ wx.cell? ⟨M, 2, none⟩ = some (S ra) ∧ wx.cell? ⟨M, 3, none⟩ = some (S rp) ∧ wx.cell? ⟨M, 4, none⟩ = some (.slice pr lr.length cr) ∧ wx.cell? ⟨M, 5, none⟩ = some (.int .i64 now) ∧ wx.cell? ⟨M, 6, none⟩ = some (S key) ∧ wx.cell? ⟨M, 6 + 1, none⟩ = some (.slice a1 n1 c1) ∧ wx.cell? ⟨M, 6 + 2, none⟩ = some (.int .i64 st) ∧ wx.cell? ⟨M, 6 + 3, none⟩ = some (.slice a2 lf.length c2) ∧ wx.cell? ⟨M, 6 + 4, none⟩ = some (S body) ∧ wx.cell? ⟨M, 6 + 5, none⟩ = some (.int .i64 asked) ∧ wx.cell? ⟨M, 6 + 6, none⟩ = some (.int .i64 came) ∧ wx.cell? ⟨M, 13, none⟩ = some (.int .i64 id) ∧ wx.cell? ⟨M, 14, none⟩ = some (.bool true))) (by kernel_rfl) ⟨hM0.cell 0, hM0.cell 1, hM0.cell 2, hM0.cell 3, hM0.cell 4, hM0.cell 5, hM0.cell 6, hM0.cell 7, hM0.cell 8, hM0.cell 9, hM0.cell 10, hM0.cell 11, hM0.cell 12, hM0.cell 13, hM0.cell 14⟩ (fun hHeld => ?_)
      (refine tkA 0 ?_ ?_ hHeld ?_; rotate_left; (intro w hSw; (try dsimp only at hSw); go_simp; try with_reducible rfl); simp only [Act.put, PT])
      (refine tkA 1 ?_ ?_ hHeld ?_; rotate_left; (intro w hSw; (try dsimp only at hSw); go_simp; try with_reducible rfl); simp only [Act.put, PT])
      (refine tkA 2 ?_ ?_ hHeld ?_; rotate_left; (intro w hSw; (try dsimp only at hSw); go_simp; try with_reducible rfl); simp only [Act.put, PT])
      (refine tkA 3 ?_ ?_ hHeld ?_; rotate_left; (intro w hSw; (try dsimp only at hSw); go_simp; try with_reducible rfl); simp only [Act.put, PT])
      (refine tkA 4 ?_ ?_ hHeld ?_; rotate_left; (intro w hSw; (try dsimp only at hSw); go_simp; try with_reducible rfl); simp only [Act.put, PT])
      (refine tkA 5 ?_ ?_ hHeld ?_; rotate_left; (intro w hSw; (try dsimp only at hSw); go_simp; try with_reducible rfl); simp only [Act.put, PT])
      (refine tkA 6 ?_ ?_ hHeld ?_; rotate_left; (intro w hSw; (try dsimp only at hSw); go_simp; try with_reducible rfl); simp only [Act.put, PT])
      (refine tkA 7 ?_ ?_ hHeld ?_; rotate_left; (intro w hSw; (try dsimp only at hSw); go_simp; try with_reducible rfl); simp only [Act.put, PT])
      (refine tkA 8 ?_ ?_ hHeld ?_; rotate_left; (intro w hSw; (try dsimp only at hSw); go_simp; try with_reducible rfl); simp only [Act.put, PT])
      (refine tkA 9 ?_ ?_ hHeld ?_; rotate_left; (intro w hSw; (try dsimp only at hSw); go_simp; try with_reducible rfl); simp only [Act.put, PT])
      refine wpAnyH_ready (rs := [10]) (by kernel_rfl) (by simp) ?_
      refine AllReadyH.cons (by rfl) (fun K hK => ?_) AllReadyH.nil
      go_simp
      (with_reducible refine (HG.out w0.drew (show Fs w0.drew.heap.size w0.drew _ lf from hf0.drew)).mono ?_); rintro e w2 ⟨vv, rfl, hvv, hb2⟩; obtain ⟨pa, ca, rfl, hm⟩ := (Fs.own hvv).form; rw [← HN.out]; clear hvv hm; replace hb2 := Bl.undrew hb2; have hM2 := hM0.on hb2; have hZ2 := hZ0.on hb2; have z0 : w2.cell? ⟨Z, 0, none⟩ = some (.int .i64 0) := hZ2.cell 0; have f0 := hZ2.free 0; have z1 : w2.cell? ⟨Z, 1, none⟩ = some (.int .i64 0) := hZ2.cell 1; have f1 := hZ2.free 1; have z2 : w2.cell? ⟨Z, 2, none⟩ = some (S []) := hZ2.cell 2; have f2 := hZ2.free 2; have z3 : w2.cell? ⟨Z, 3, none⟩ = some (.slice none 0 0) := hZ2.cell 3; have f3 := hZ2.free 3; have z4 : w2.cell? ⟨Z, 4, none⟩ = some (.int .i64 0) := hZ2.cell 4; have f4 := hZ2.free 4; have z5 : w2.cell? ⟨Z, 5, none⟩ = some (.slice none 0 0) := hZ2.cell 5; have f5 := hZ2.free 5; have z6 : w2.cell? ⟨Z, 6, none⟩ = some (S []) := hZ2.cell 6; have f6 := hZ2.free 6; have z7 : w2.cell? ⟨Z, 7, none⟩ = some (.int .i64 0) := hZ2.cell 7; have f7 := hZ2.free 7; have z8 : w2.cell? ⟨Z, 8, none⟩ = some (.int .i64 0) := hZ2.cell 8; have f8 := hZ2.free 8
      refine hK.out _ _ ⟨hM2.cell 0, hM2.cell 1, hM2.cell 2, hM2.cell 3, hM2.cell 4, hM2.cell 5, hM2.cell 6, hM2.cell 7, hM2.cell 8, hM2.cell 9, hM2.cell 10, hM2.cell 11, hM2.cell 12, hM2.cell 13, hM2.cell 14⟩ (fun hHeld => ?_)
      clear hK K
      try simp only [Act.put, PT]
      (refine tkA 11 ?_ ?_ hHeld ?_; rotate_left; (intro w hSw; (try dsimp only at hSw); go_simp; try with_reducible rfl); simp only [Act.put, PT])
      (refine tkA 12 ?_ ?_ hHeld ?_; rotate_left; (intro w hSw; (try dsimp only at hSw); go_simp; try with_reducible rfl); simp only [Act.put, PT])
      (refine tkA 13 ?_ ?_ hHeld ?_; rotate_left; (intro w hSw; (try dsimp only at hSw); go_simp; try with_reducible rfl); simp only [Act.put, PT])
      refine wpAnyH_ready (rs := [14]) (by kernel_rfl) (by simp) ?_
      refine AllReadyH.cons (by rfl) (fun K hK => ?_) AllReadyH.nil
      go_simp
      skip
      refine hK.out _ _ ⟨(put9_other hM2 hMZ (.int .i64 2) (.int .i64 id) (S key) (.slice a1 n1 c1) (.int .i64 st) (.slice a2 lf.length c2) (S body) (.int .i64 asked) (.int .i64 came)).cell 0, (put9_other hM2 hMZ (.int .i64 2) (.int .i64 id) (S key) (.slice a1 n1 c1) (.int .i64 st) (.slice a2 lf.length c2) (S body) (.int .i64 asked) (.int .i64 came)).cell 1, (put9_other hM2 hMZ (.int .i64 2) (.int .i64 id) (S key) (.slice a1 n1 c1) (.int .i64 st) (.slice a2 lf.length c2) (S body) (.int .i64 asked) (.int .i64 came)).cell 2, (put9_other hM2 hMZ (.int .i64 2) (.int .i64 id) (S key) (.slice a1 n1 c1) (.int .i64 st) (.slice a2 lf.length c2) (S body) (.int .i64 asked) (.int .i64 came)).cell 3, (put9_other hM2 hMZ (.int .i64 2) (.int .i64 id) (S key) (.slice a1 n1 c1) (.int .i64 st) (.slice a2 lf.length c2) (S body) (.int .i64 asked) (.int .i64 came)).cell 4, (put9_other hM2 hMZ (.int .i64 2) (.int .i64 id) (S key) (.slice a1 n1 c1) (.int .i64 st) (.slice a2 lf.length c2) (S body) (.int .i64 asked) (.int .i64 came)).cell 5, (put9_other hM2 hMZ (.int .i64 2) (.int .i64 id) (S key) (.slice a1 n1 c1) (.int .i64 st) (.slice a2 lf.length c2) (S body) (.int .i64 asked) (.int .i64 came)).cell 6, (put9_other hM2 hMZ (.int .i64 2) (.int .i64 id) (S key) (.slice a1 n1 c1) (.int .i64 st) (.slice a2 lf.length c2) (S body) (.int .i64 asked) (.int .i64 came)).cell 7, (put9_other hM2 hMZ (.int .i64 2) (.int .i64 id) (S key) (.slice a1 n1 c1) (.int .i64 st) (.slice a2 lf.length c2) (S body) (.int .i64 asked) (.int .i64 came)).cell 8, (put9_other hM2 hMZ (.int .i64 2) (.int .i64 id) (S key) (.slice a1 n1 c1) (.int .i64 st) (.slice a2 lf.length c2) (S body) (.int .i64 asked) (.int .i64 came)).cell 9, (put9_other hM2 hMZ (.int .i64 2) (.int .i64 id) (S key) (.slice a1 n1 c1) (.int .i64 st) (.slice a2 lf.length c2) (S body) (.int .i64 asked) (.int .i64 came)).cell 10, (put9_other hM2 hMZ (.int .i64 2) (.int .i64 id) (S key) (.slice a1 n1 c1) (.int .i64 st) (.slice a2 lf.length c2) (S body) (.int .i64 asked) (.int .i64 came)).cell 11, (put9_other hM2 hMZ (.int .i64 2) (.int .i64 id) (S key) (.slice a1 n1 c1) (.int .i64 st) (.slice a2 lf.length c2) (S body) (.int .i64 asked) (.int .i64 came)).cell 12, (put9_other hM2 hMZ (.int .i64 2) (.int .i64 id) (S key) (.slice a1 n1 c1) (.int .i64 st) (.slice a2 lf.length c2) (S body) (.int .i64 asked) (.int .i64 came)).cell 13, (put9_other hM2 hMZ (.int .i64 2) (.int .i64 id) (S key) (.slice a1 n1 c1) (.int .i64 st) (.slice a2 lf.length c2) (S body) (.int .i64 asked) (.int .i64 came)).cell 14⟩ (fun hHeld => ?_)
      clear hK K
      try simp only [Act.put, PT]
      (refine tkA 15 ?_ ?_ hHeld ?_; rotate_left; (intro w hSw; (try dsimp only at hSw); go_simp; try with_reducible rfl); simp only [Act.put, PT])
      try simp only [Act.put, PT]
      refine wpAnyH_done (by kernel_rfl) ?_ _
      have hb2' := Bl.tr hb0 hb2
      have hBf := (hZ2.put9 (.int .i64 2) (.int .i64 id) (S key) (.slice a1 n1 c1) (.int .i64 st) (.slice a2 lf.length c2) (S body) (.int .i64 asked) (.int .i64 came))
      have hbf := (put9_below hb2' hwZ (.int .i64 2) (.int .i64 id) (S key) (.slice a1 n1 c1) (.int .i64 st) (.slice a2 lf.length c2) (S body) (.int .i64 asked) (.int .i64 came))
      go_wp2
      refine ret_ask (b := Z) (c := false) ?_ ?_ hBf ?_
      · rfl
      · rfl
      · exact ⟨by rw [HR2.out], hbf⟩
end Go.Proofs.YtahapblgmehngaaGreatDoor

