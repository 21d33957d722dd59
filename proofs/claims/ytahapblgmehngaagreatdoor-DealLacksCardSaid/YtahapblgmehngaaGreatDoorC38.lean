/- Parts of the proof of DealLacks_holds: the texts Dea4. -/
import Derived.Test.YtahapblgmehngaaGreatDoorC24
import Derived.Test.YtahapblgmehngaaGreatDoorC37
set_option linter.unusedSimpArgs false
set_option linter.unusedVariables false
set_option linter.unnecessarySimpa false
namespace Go.Proofs.YtahapblgmehngaaGreatDoor
open Go.RowKit Go.Dr

def keyR (q : Rq) : Bytes := q.s ++ [58, 47, 47] ++ q.a ++ q.p
/-- What is decided of an entry that was found (or not). -/
def dealOf (lr : List F) (m : Bytes) (now : Int) (q : En) (id : Int) (fd : Bool) (lf : List F) : Value :=
  if (fd && goodF lr lf q.st q.asked q.came now) = true then dealV 1 id q.key q.vp q.st q.vf q.body q.asked q.came
  else if (saysC lr).oi = true then dealZ 4
  else if (m == [72, 69, 65, 68]) = true then dealZ 5
  else if (fd && decide (0 < (asksF lf).length)) = true then dealV 2 id q.key q.vp q.st q.vf q.body q.asked q.came
  else dealZ 3
/-- What the shelf answers. -/
def Fnd (B : Nat) (P : World → En → Int → Bool → List F → Prop) (vr : Value) (lr : List F) (w1 : World) (e : Ending) (w2 : World) : Prop :=
  ∃ (q : En) (id : Int) (fd : Bool) (lf : List F), (∃ a n c, q.vp = .slice a n c) ∧ Fo 60 B w2 q.vf lf ∧ fsum lf ≤ 1099511627776 ∧ Fo 60 B w2 vr lr ∧ e = .returned (.tuple #[q.val, .int .i64 id, .bool fd]) ∧ Keeps w1 w2 ∧ w1.heap.size ≤ w2.heap.size ∧ P w2 q id fd lf
def Own21 (w : World) (k : Nat) : Prop := (∃ xs, Blk w k 38 xs) ∨ ∃ xs, Blk w k 72 xs
def Decided (P : World → En → Int → Bool → List F → Prop) (m : Bytes) (lr : List F) (now : Int) (w : World) (e : Ending) (w' : World) : Prop :=
  (aloneB m lr = true ∧ e = .returned (dealZ 5) ∧ Below w.heap.size w w') ∨
  (aloneB m lr = false ∧ ∃ w1 w2 q id fd lf, Below w.heap.size w w1 ∧ Keeps w1 w2 ∧ P w2 q id fd lf ∧ But (fun k => w.heap.size ≤ k ∧ Own21 w2 k) w2 w' ∧ e = .returned (dealOf lr m now q id fd lf))
set_option maxRecDepth 100000 in
set_option maxHeartbeats 4000000 in
theorem ret_decide {W : World} {tmps : Array Value} {b : Nat} {v0 v1 v2 v3 v4 v5 v6 v7 v8 : Value} {R : Ending → World → Prop} (hs : tmps[6]? = some (.pointer (some ⟨b, 0, none⟩))) (h : Blk W b 38 #[v0, v1, v2, v3, v4, v5, v6, v7, v8]) (hR : R (.returned (.agg #[v0, v1, v2, v3, v4, v5, v6, v7, v8])) W) :
    bodyPost Tryz.prog Tryz.f12 R .ret { tmps := tmps, defers := [] } W := by
  (have g0 : W.cell? ⟨b, 0, none⟩ = some (v0) := h.cell 0; have g1 : W.cell? ⟨b, 1, none⟩ = some (v1) := h.cell 1; have g2 : W.cell? ⟨b, 2, none⟩ = some (v2) := h.cell 2; have g3 : W.cell? ⟨b, 3, none⟩ = some (v3) := h.cell 3; have g4 : W.cell? ⟨b, 4, none⟩ = some (v4) := h.cell 4; have g5 : W.cell? ⟨b, 5, none⟩ = some (v5) := h.cell 5; have g6 : W.cell? ⟨b, 6, none⟩ = some (v6) := h.cell 6; have g7 : W.cell? ⟨b, 7, none⟩ = some (v7) := h.cell 7; have g8 : W.cell? ⟨b, 8, none⟩ = some (v8) := h.cell 8)
  exact bodyPost_ret (v := .agg #[v0, v1, v2, v3, v4, v5, v6, v7, v8]) (by simp [results, Tryz.results12, go_sem, hs, g0, g1, g2, g3, g4, g5, g6, g7, g8]) rfl hR
theorem put9_but {T : Nat → Prop} {a w : World} (h : But T a w) {g : Nat} (hg : T g ∨ a.heap.size ≤ g) (b0 b1 b2 b3 b4 b5 b6 b7 b8 : Value) : But T a (put9 w g b0 b1 b2 b3 b4 b5 b6 b7 b8) :=
  ((((((((h.setCell (p := ⟨g, 0, none⟩) hg b0).setCell (p := ⟨g, 1, none⟩) hg b1).setCell (p := ⟨g, 2, none⟩) hg b2).setCell (p := ⟨g, 3, none⟩) hg b3).setCell (p := ⟨g, 4, none⟩) hg b4).setCell (p := ⟨g, 5, none⟩) hg b5).setCell (p := ⟨g, 6, none⟩) hg b6).setCell (p := ⟨g, 7, none⟩) hg b7).setCell (p := ⟨g, 8, none⟩) hg b8

set_option maxRecDepth 100000 in
set_option maxHeartbeats 16000000 in
theorem Decide_by (B : Nat) (P : World → En → Int → Bool → List F → Prop) (sp : Option Addr) (q : Rq) (lr : List F) (now : Int) (w : World) (hB : B ≤ w.heap.size) (hr : Fo 60 B w q.v lr) (hl : fsum lr ≤ 1099511627776) (hk : q.s.length + q.a.length + q.p.length ≤ 4611686018427387904)
    (hfind : ∀ w1, Below w.heap.size w w1 → Calls Tryz.prog 33 #[.pointer sp, S (keyR q), q.v] w1 (Fnd B P q.v lr w1)) :
    Calls Tryz.prog 12 #[.pointer sp, q.val, .int .i64 now] w (Decided P q.m lr now w) := by
  obtain ⟨pr, cr, hrv, -⟩ := hr.form
  obtain ⟨rm, rs, ra, rp, rv⟩ := q
  simp only at hrv hr hk hfind
  subst hrv
  simp only [Rq.val, keyR] at hfind ⊢
  obtain ⟨kk, ekk⟩ : ∃ kk, kk = rs ++ [58, 47, 47] ++ ra ++ rp := ⟨_, rfl⟩
  have hKey := fun w => Key_any ⟨rm, rs, ra, rp, .slice pr lr.length cr⟩ w hk
  simp only [Rq.val] at hKey
  rw [← ekk] at hKey hfind
  have HKey := Lib.hid hKey
  have HF := Lib.hid hfind
  clear hKey hfind ekk
  obtain ⟨w1, e1⟩ : ∃ w1 : World, w1 = w.alloc (.cells #[S rm, S rs, S ra, S rp, .slice pr lr.length cr] 28) := ⟨_, rfl⟩
  obtain ⟨G, eG⟩ : ∃ G, G = w.heap.size := ⟨_, rfl⟩
  have hs1 : w1.heap.size = G + 1 := by rw [e1, eG]; simp
  have hQ1 : Blk w1 G 28 #[S rm, S rs, S ra, S rp, .slice pr lr.length cr] := by rw [e1, eG]; exact Blk.new _ _ _
  obtain ⟨w0, e0⟩ : ∃ w0 : World, w0 = w1.alloc (.cells #[.int .i64 0, .int .i64 0, S [], .slice none 0 0, .int .i64 0, .slice none 0 0, S [], .int .i64 0, .int .i64 0] 38) := ⟨_, rfl⟩
  obtain ⟨Z, eZ⟩ : ∃ Z, Z = G + 1 := ⟨_, rfl⟩
  have hQ0 : Blk w0 G 28 #[S rm, S rs, S ra, S rp, .slice pr lr.length cr] := by rw [e0]; exact hQ1.alloc _
  have hZ0 : Blk w0 Z 38 #[.int .i64 0, .int .i64 0, S [], .slice none 0 0, .int .i64 0, .slice none 0 0, S [], .int .i64 0, .int .i64 0] := by rw [e0, eZ, ← hs1]; exact Blk.new _ _ _
  have hb0 : Below w.heap.size w w0 := by rw [e0]; exact ((by rw [e1]; exact (Below.refl _ _).alloc (Nat.le_refl _) _ : Below w.heap.size w w1)).alloc (by rw [hs1, eG]; omega) _
  have hwZ : w.heap.size ≤ Z := by omega
  have hr0 := (hr.below hb0 hB).fs (Nat.le_trans hB hb0.size)
  have HG := Lib.hid eG
  have HZ := Lib.hid eZ
  have HW : Hid (w0 = (w.alloc (.cells #[S rm, S rs, S ra, S rp, .slice pr lr.length cr] 28)).alloc (.cells #[.int .i64 0, .int .i64 0, S [], .slice none 0 0, .int .i64 0, .slice none 0 0, S [], .int .i64 0, .int .i64 0] 38)) := by show _ = _; rw [e0, e1]
  have hAl := alone_any ⟨rm, rs, ra, rp, .slice pr lr.length cr⟩ lr w0 hr0 hl
  simp only [Rq.val] at hAl
  obtain ⟨al, eal⟩ : ∃ al, al = aloneB rm lr := ⟨_, rfl⟩
  rw [← eal] at hAl
  obtain ⟨PO, ePO⟩ : ∃ PO, PO = Decided P rm lr now w := ⟨_, rfl⟩
  rw [← ePO]
  have HPO := Lib.hid ePO
  have HAL := Lib.hid eal
  clear e0 e1 eZ eG hs1 hQ1 eal ePO
  go_enter Tryz.func12, Tryz.ntmps12
  go_upto_region 1 with fail
  rw [← HW.out, ← HG.out, ← HZ.out]
  have x0 : w0.cell? ⟨G, 0, none⟩ = some (S rm) := hQ0.cell 0; have x1 : w0.cell? ⟨G, 1, none⟩ = some (S rs) := hQ0.cell 1; have x2 : w0.cell? ⟨G, 2, none⟩ = some (S ra) := hQ0.cell 2; have x3 : w0.cell? ⟨G, 3, none⟩ = some (S rp) := hQ0.cell 3; have x4 : w0.cell? ⟨G, 4, none⟩ = some (.slice pr lr.length cr) := hQ0.cell 4
  go_wp2_with fail
  refine hAl.mono ?_
  rintro e w2 ⟨rfl, hb2⟩
  have hQ2 := hQ0.on hb2
  have hZ2 := hZ0.on hb2
  have hw2 := Bl.tr hb0 hb2
  have hr2 := (hr0.below hb2).mono hb2.size
  clear x0 x1 x2 x3 x4 hAl hQ0 hZ0 hr0 hb0 hb2
  cases al with
  | true =>
    have z0 : w2.cell? ⟨Z, 0, none⟩ = some (.int .i64 0) := hZ2.cell 0; have fz0 := hZ2.free 0; have z1 : w2.cell? ⟨Z, 1, none⟩ = some (.int .i64 0) := hZ2.cell 1; have fz1 := hZ2.free 1; have z2 : w2.cell? ⟨Z, 2, none⟩ = some (S []) := hZ2.cell 2; have fz2 := hZ2.free 2; have z3 : w2.cell? ⟨Z, 3, none⟩ = some (.slice none 0 0) := hZ2.cell 3; have fz3 := hZ2.free 3; have z4 : w2.cell? ⟨Z, 4, none⟩ = some (.int .i64 0) := hZ2.cell 4; have fz4 := hZ2.free 4; have z5 : w2.cell? ⟨Z, 5, none⟩ = some (.slice none 0 0) := hZ2.cell 5; have fz5 := hZ2.free 5; have z6 : w2.cell? ⟨Z, 6, none⟩ = some (S []) := hZ2.cell 6; have fz6 := hZ2.free 6; have z7 : w2.cell? ⟨Z, 7, none⟩ = some (.int .i64 0) := hZ2.cell 7; have fz7 := hZ2.free 7; have z8 : w2.cell? ⟨Z, 8, none⟩ = some (.int .i64 0) := hZ2.cell 8; have fz8 := hZ2.free 8
    have hBf := hZ2.put9 (.int .i64 5) (.int .i64 0) (S []) (.slice none 0 0) (.int .i64 0) (.slice none 0 0) (S []) (.int .i64 0) (.int .i64 0)
    have hbf := put9_below hw2 hwZ (.int .i64 5) (.int .i64 0) (S []) (.slice none 0 0) (.int .i64 0) (.slice none 0 0) (S []) (.int .i64 0) (.int .i64 0)
    go_wp2
    refine ret_decide (b := Z) ?_ hBf ?_
    · rfl
    · rw [HPO.out]; exact .inl ⟨HAL.out.symm, rfl, hbf⟩
  | false =>
    obtain ⟨w3, e3⟩ : ∃ w3 : World, w3 = w2.alloc (.cells #[S rm, S rs, S ra, S rp, .slice pr lr.length cr, .int .i64 now, S [], .slice none 0 0, .int .i64 0, .slice none 0 0, S [], .int .i64 0, .int .i64 0, .int .i64 0, .bool false] 72) := ⟨_, rfl⟩
    obtain ⟨M, eM⟩ : ∃ M, M = w2.heap.size := ⟨_, rfl⟩
    have hM3 : Blk w3 M 72 #[S rm, S rs, S ra, S rp, .slice pr lr.length cr, .int .i64 now, S [], .slice none 0 0, .int .i64 0, .slice none 0 0, S [], .int .i64 0, .int .i64 0, .int .i64 0, .bool false] := by rw [e3, eM]; exact Blk.new _ _ _
    have hb3 : Below w2.heap.size w2 w3 := by rw [e3]; exact (Below.refl _ _).alloc (Nat.le_refl _) _
    have hMG : G ≠ M := by rw [eM]; exact Nat.ne_of_lt hQ2.lt
    have hMZ : Z ≠ M := by rw [eM]; exact Nat.ne_of_lt hZ2.lt
    have hMw : w.heap.size ≤ M := by rw [eM]; exact hw2.size
    have HM := Lib.hid eM
    have HW3 := Lib.hid e3
    clear e3 eM
    have hQ3 := hQ2.on hb3
    have hZ3 := hZ2.on hb3
    have hw3 := Bl.tr hw2 hb3
    have hr3 := (hr2.below hb3).mono hb3.size
    have x0 : w2.cell? ⟨G, 0, none⟩ = some (S rm) := hQ2.cell 0; have x1 : w2.cell? ⟨G, 1, none⟩ = some (S rs) := hQ2.cell 1; have x2 : w2.cell? ⟨G, 2, none⟩ = some (S ra) := hQ2.cell 2; have x3 : w2.cell? ⟨G, 3, none⟩ = some (S rp) := hQ2.cell 3; have x4 : w2.cell? ⟨G, 4, none⟩ = some (.slice pr lr.length cr) := hQ2.cell 4
    go_upto_region 4 with fail
    rw [← HM.out, ← HW3.out]
    clear HM HW3 x0 x1 x2 x3 x4 hQ2 hZ2 hr2 hb3 hw2
    go_wp2_with fail
    refine wp_region_held_drew (S := (fun wx => wx.cell? ⟨G, 0, none⟩ = some (S rm) ∧ wx.cell? ⟨G, 1, none⟩ = some (S rs) ∧ wx.cell? ⟨G, 2, none⟩ = some (S ra) ∧ wx.cell? ⟨G, 3, none⟩ = some (S rp) ∧ wx.cell? ⟨G, 4, none⟩ = some (.slice pr lr.length cr))) (by kernel_rfl) ⟨(hQ3).cell 0, (hQ3).cell 1, (hQ3).cell 2, (hQ3).cell 3, (hQ3).cell 4⟩ (fun hHeld => ?_)
    (refine tkA 0 ?_ ?_ hHeld ?_; rotate_left; (intro w hSw; (try dsimp only at hSw); go_simp; try with_reducible rfl); simp only [Act.put, PT])
    (refine tkA 1 ?_ ?_ hHeld ?_; rotate_left; (intro w hSw; (try dsimp only at hSw); go_simp; try with_reducible rfl); simp only [Act.put, PT])
    (refine tkA 3 ?_ ?_ hHeld ?_; rotate_left; (intro w hSw; (try dsimp only at hSw); go_simp; try with_reducible rfl); simp only [Act.put, PT])
    (refine tkA 4 ?_ ?_ hHeld ?_; rotate_left; (intro w hSw; (try dsimp only at hSw); go_simp; try with_reducible rfl); simp only [Act.put, PT])
    refine wpAnyH_ready (rs := [2]) (by kernel_rfl) (by simp) ?_
    refine AllReadyH.cons (by rfl) (fun K hK => ?_) AllReadyH.nil
    go_simp
    (with_reducible refine (HKey.out w3.drew).mono ?_); rintro e w4 ⟨rfl, hb4⟩; replace hb4 := Bl.undrew hb4; have hQ4 := hQ3.on hb4; have hZ4 := hZ3.on hb4; have hM4 := hM3.on hb4; have hw4 := Bl.tr hw3 hb4
    refine hK.out _ _ ⟨(hQ4).cell 0, (hQ4).cell 1, (hQ4).cell 2, (hQ4).cell 3, (hQ4).cell 4⟩ (fun hHeld => ?_)
    clear hK K
    try simp only [Act.put, PT]
    refine wpAnyH_ready (rs := [5]) (by kernel_rfl) (by simp) ?_
    refine AllReadyH.cons (by rfl) (fun K hK => ?_) AllReadyH.nil
    go_simp
    (with_reducible refine (HF.out w4 hw4).mono ?_); rintro e w5 ⟨⟨key, vp, st, vf, body, asked, came⟩, id, fd, lf, ⟨a1, n1, c1, hvp⟩, hf5, hlf, hr5, rfl, hk5, hsz5, hP5⟩; simp only at hvp hf5; subst hvp; obtain ⟨a2, c2, hvf, -⟩ := hf5.form; subst hvf; have hr5' := hr5; simp only [En.val]; have hQ5 := hk5 G _ _ (by decide) (by decide) (by decide) hQ4; have hZ5 := hk5 Z _ _ (by decide) (by decide) (by decide) hZ4; have hM5 := hk5 M _ _ (by decide) (by decide) (by decide) hM4; have m6 : w5.cell? ⟨M, 6, none⟩ = some (S []) := hM5.cell 6; have fm6 := hM5.free 6; have m7 : w5.cell? ⟨M, 7, none⟩ = some (.slice none 0 0) := hM5.cell 7; have fm7 := hM5.free 7; have m8 : w5.cell? ⟨M, 8, none⟩ = some (.int .i64 0) := hM5.cell 8; have fm8 := hM5.free 8; have m9 : w5.cell? ⟨M, 9, none⟩ = some (.slice none 0 0) := hM5.cell 9; have fm9 := hM5.free 9; have m10 : w5.cell? ⟨M, 10, none⟩ = some (S []) := hM5.cell 10; have fm10 := hM5.free 10; have m11 : w5.cell? ⟨M, 11, none⟩ = some (.int .i64 0) := hM5.cell 11; have fm11 := hM5.free 11; have m12 : w5.cell? ⟨M, 12, none⟩ = some (.int .i64 0) := hM5.cell 12; have fm12 := hM5.free 12; have m13 : w5.cell? ⟨M, 13, none⟩ = some (.int .i64 0) := hM5.cell 13; have fm13 := hM5.free 13; have m14 : w5.cell? ⟨M, 14, none⟩ = some (.bool false) := hM5.cell 14; have fm14 := hM5.free 14; have nn1 : w5.cell? ⟨M, 6 + 1, none⟩ = some (.slice none 0 0) := hM5.cell 7; have fn1 : w5.frozen? ⟨M, 6 + 1, none⟩ = false := hM5.free 7; have nn2 : w5.cell? ⟨M, 6 + 2, none⟩ = some (.int .i64 0) := hM5.cell 8; have fn2 : w5.frozen? ⟨M, 6 + 2, none⟩ = false := hM5.free 8; have nn3 : w5.cell? ⟨M, 6 + 3, none⟩ = some (.slice none 0 0) := hM5.cell 9; have fn3 : w5.frozen? ⟨M, 6 + 3, none⟩ = false := hM5.free 9; have nn4 : w5.cell? ⟨M, 6 + 4, none⟩ = some (S []) := hM5.cell 10; have fn4 : w5.frozen? ⟨M, 6 + 4, none⟩ = false := hM5.free 10; have nn5 : w5.cell? ⟨M, 6 + 5, none⟩ = some (.int .i64 0) := hM5.cell 11; have fn5 : w5.frozen? ⟨M, 6 + 5, none⟩ = false := hM5.free 11; have nn6 : w5.cell? ⟨M, 6 + 6, none⟩ = some (.int .i64 0) := hM5.cell 12; have fn6 : w5.frozen? ⟨M, 6 + 6, none⟩ = false := hM5.free 12; have hQM : ∀ wx, But (fun k => k = M) w5 wx → wx.cell? ⟨G, 0, none⟩ = some (S rm) ∧ wx.cell? ⟨G, 1, none⟩ = some (S rs) ∧ wx.cell? ⟨G, 2, none⟩ = some (S ra) ∧ wx.cell? ⟨G, 3, none⟩ = some (S rp) ∧ wx.cell? ⟨G, 4, none⟩ = some (.slice pr lr.length cr) := fun wx hb => ⟨(hQ5.but hb hMG).cell 0, (hQ5.but hb hMG).cell 1, (hQ5.but hb hMG).cell 2, (hQ5.but hb hMG).cell 3, (hQ5.but hb hMG).cell 4⟩
    refine hK.out _ _ ⟨(hQ5).cell 0, (hQ5).cell 1, (hQ5).cell 2, (hQ5).cell 3, (hQ5).cell 4⟩ (fun hHeld => ?_)
    clear hK K
    try simp only [Act.put, PT]
    (refine tkA 6 ?_ ?_ hHeld ?_; rotate_left; (intro w hSw; (try dsimp only at hSw); go_simp; try with_reducible rfl); simp only [Act.put, PT])
    (refine tkA 7 ?_ ?_ hHeld ?_; rotate_left; (intro w hSw; (try dsimp only at hSw); go_simp; try with_reducible rfl); simp only [Act.put, PT])
    (refine tkA 8 ?_ ?_ hHeld ?_; rotate_left; (intro w hSw; (try dsimp only at hSw); go_simp; try with_reducible rfl); simp only [Act.put, PT])
    (refine tkA 9 ?_ ?_ hHeld ?_; rotate_left; (intro w hSw; (try dsimp only at hSw); go_simp; try with_reducible rfl); simp only [Act.put, PT])
    (refine tkA 10 ?_ ?_ hHeld ?_; rotate_left; (intro w hSw; (try dsimp only at hSw); go_simp; try with_reducible rfl); simp only [Act.put, PT])
    refine wpAnyH_ready (rs := [11]) (by kernel_rfl) (by simp) ?_
    refine AllReadyH.cons (by rfl) (fun K hK => ?_) AllReadyH.nil
    go_simp
    skip
    refine hK.out _ _ (hQM _ ((((((((But.refl (fun k => k = M) w5).setCell (p := ⟨M, 6, none⟩) (.inl rfl) _).setCell (p := ⟨M, 6 + 1, none⟩) (.inl rfl) _).setCell (p := ⟨M, 6 + 2, none⟩) (.inl rfl) _).setCell (p := ⟨M, 6 + 3, none⟩) (.inl rfl) _).setCell (p := ⟨M, 6 + 4, none⟩) (.inl rfl) _).setCell (p := ⟨M, 6 + 5, none⟩) (.inl rfl) _).setCell (p := ⟨M, 6 + 6, none⟩) (.inl rfl) _)) (fun hHeld => ?_)
    clear hK K
    try simp only [Act.put, PT]
    (refine tkA 12 ?_ ?_ hHeld ?_; rotate_left; (intro w hSw; (try dsimp only at hSw); go_simp; try with_reducible rfl); simp only [Act.put, PT])
    refine wpAnyH_ready (rs := [13]) (by kernel_rfl) (by simp) ?_
    refine AllReadyH.cons (by rfl) (fun K hK => ?_) AllReadyH.nil
    go_simp
    skip
    refine hK.out _ _ (hQM _ (((((((((But.refl (fun k => k = M) w5).setCell (p := ⟨M, 6, none⟩) (.inl rfl) _).setCell (p := ⟨M, 6 + 1, none⟩) (.inl rfl) _).setCell (p := ⟨M, 6 + 2, none⟩) (.inl rfl) _).setCell (p := ⟨M, 6 + 3, none⟩) (.inl rfl) _).setCell (p := ⟨M, 6 + 4, none⟩) (.inl rfl) _).setCell (p := ⟨M, 6 + 5, none⟩) (.inl rfl) _).setCell (p := ⟨M, 6 + 6, none⟩) (.inl rfl) _).setCell (p := ⟨M, 13, none⟩) (.inl rfl) _)) (fun hHeld => ?_)
    clear hK K
    try simp only [Act.put, PT]
    (refine tkA 14 ?_ ?_ hHeld ?_; rotate_left; (intro w hSw; (try dsimp only at hSw); go_simp; try with_reducible rfl); simp only [Act.put, PT])
    refine wpAnyH_ready (rs := [15]) (by kernel_rfl) (by simp) ?_
    refine AllReadyH.cons (by rfl) (fun K hK => ?_) AllReadyH.nil
    go_simp
    skip
    refine hK.out _ _ (hQM _ ((((((((((But.refl (fun k => k = M) w5).setCell (p := ⟨M, 6, none⟩) (.inl rfl) _).setCell (p := ⟨M, 6 + 1, none⟩) (.inl rfl) _).setCell (p := ⟨M, 6 + 2, none⟩) (.inl rfl) _).setCell (p := ⟨M, 6 + 3, none⟩) (.inl rfl) _).setCell (p := ⟨M, 6 + 4, none⟩) (.inl rfl) _).setCell (p := ⟨M, 6 + 5, none⟩) (.inl rfl) _).setCell (p := ⟨M, 6 + 6, none⟩) (.inl rfl) _).setCell (p := ⟨M, 13, none⟩) (.inl rfl) _).setCell (p := ⟨M, 14, none⟩) (.inl rfl) _)) (fun hHeld => ?_)
    clear hK K
    try simp only [Act.put, PT]
    try simp only [Act.put, PT]
    refine wpAnyH_done (by kernel_rfl) ?_ _
    obtain ⟨w6, e6⟩ : ∃ w6 : World, w6 = (((((((((w5.setCell ⟨M, 6, none⟩ (S key)).setCell ⟨M, 7, none⟩ (.slice a1 n1 c1)).setCell ⟨M, 8, none⟩ (.int .i64 st)).setCell ⟨M, 9, none⟩ (.slice a2 lf.length c2)).setCell ⟨M, 10, none⟩ (S body)).setCell ⟨M, 11, none⟩ (.int .i64 asked)).setCell ⟨M, 12, none⟩ (.int .i64 came)).setCell ⟨M, 13, none⟩ (.int .i64 id)).setCell ⟨M, 14, none⟩ (.bool fd)) := ⟨_, rfl⟩
    have hM6 : Blk w6 M 72 #[S rm, S rs, S ra, S rp, .slice pr lr.length cr, .int .i64 now, S key, .slice a1 n1 c1, .int .i64 st, .slice a2 lf.length c2, S body, .int .i64 asked, .int .i64 came, .int .i64 id, .bool fd] := by
      rw [e6]
      have := (((((((((hM5.set 6 (S key)).set 7 (.slice a1 n1 c1)).set 8 (.int .i64 st)).set 9 (.slice a2 lf.length c2)).set 10 (S body)).set 11 (.int .i64 asked)).set 12 (.int .i64 came)).set 13 (.int .i64 id)).set 14 (.bool fd))
      simpa using this
    have hb56 : But (fun k => k = M) w5 w6 := by rw [e6]; exact ((((((((((But.refl (fun k => k = M) w5).setCell (p := ⟨M, 6, none⟩) (.inl rfl) _).setCell (p := ⟨M, 7, none⟩) (.inl rfl) _).setCell (p := ⟨M, 8, none⟩) (.inl rfl) _).setCell (p := ⟨M, 9, none⟩) (.inl rfl) _).setCell (p := ⟨M, 10, none⟩) (.inl rfl) _).setCell (p := ⟨M, 11, none⟩) (.inl rfl) _).setCell (p := ⟨M, 12, none⟩) (.inl rfl) _).setCell (p := ⟨M, 13, none⟩) (.inl rfl) _).setCell (p := ⟨M, 14, none⟩) (.inl rfl) _)
    rw [← e6]
    have hty : ∀ (t : TypeId), t ≠ 72 → ∀ (g : Nat) (cur : Array Value), w5.heap[g]? = some (.cells cur t (0, 0)) → ¬ g = M := fun t ht g cur hg e => by
      subst e
      unfold Blk at hM5
      rw [hM5] at hg
      simp only [Option.some.injEq, Obj.cells.injEq] at hg
      exact ht hg.2.1.symm
    have hB5 : B ≤ w5.heap.size := Nat.le_trans hB (Nat.le_trans hw4.size hsz5)
    have hr6 := (hr5.but hb56 (fun k hk => by rw [hk]; omega) hB5 (hty _ (by decide))).fs (Nat.le_trans hB5 hb56.size)
    have hf6 := (hf5.but hb56 (fun k hk => by rw [hk]; omega) hB5 (hty _ (by decide))).fs (Nat.le_trans hB5 hb56.size)
    have hZ6 := hZ5.but hb56 hMZ
    have hOwn : ∀ k, k = M ∨ k = Z → w.heap.size ≤ k ∧ Own21 w5 k := fun k hk => by
      rcases hk with rfl | rfl
      · exact ⟨hMw, .inr ⟨_, hM5⟩⟩
      · exact ⟨hwZ, .inl ⟨_, hZ5⟩⟩
    have HOwn := Lib.hid hOwn
    have hbt6 : But (fun k => k = M ∨ k = Z) w5 w6 := hb56.more fun k hk => .inl hk
    obtain ⟨s1, es1⟩ : ∃ s1, s1 = (fd && goodF lr lf st asked came now) := ⟨_, rfl⟩
    obtain ⟨s2, es2⟩ : ∃ s2, s2 = (saysC lr).oi := ⟨_, rfl⟩
    obtain ⟨s3, es3⟩ : ∃ s3, s3 = (rm == [72, 69, 65, 68]) := ⟨_, rfl⟩
    obtain ⟨s4, es4⟩ : ∃ s4, s4 = (fd && decide (0 < (asksF lf).length)) := ⟨_, rfl⟩
    have C1 := Lib.hid (fun w h1 h2 => deal_serve_any rm rs ra rp pr cr lr now key a1 n1 c1 st a2 c2 lf body asked came id fd w h1 h2 hl hlf)
    have C2 := Lib.hid (fun w h1 h2 => deal_lack_any rm rs ra rp pr cr lr now key a1 n1 c1 st a2 c2 lf body asked came id fd w h1 h2 hl hlf)
    have C3 := Lib.hid (fun w h1 h2 => deal_pass_any rm rs ra rp pr cr lr now key a1 n1 c1 st a2 c2 lf body asked came id fd w h1 h2 hl hlf)
    have C4 := Lib.hid (fun w h1 h2 => deal_ask_any rm rs ra rp pr cr lr now key a1 n1 c1 st a2 c2 lf body asked came id fd w h1 h2 hl hlf)
    rw [← es1] at C1
    rw [← es2] at C2
    rw [← es3] at C3
    rw [← es4] at C4
    have HD : Hid (dealOf lr rm now ⟨key, .slice a1 n1 c1, st, .slice a2 lf.length c2, body, asked, came⟩ id fd lf = (if s1 = true then dealV 1 id key (.slice a1 n1 c1) st (.slice a2 lf.length c2) body asked came else if s2 = true then dealZ 4 else if s3 = true then dealZ 5 else if s4 = true then dealV 2 id key (.slice a1 n1 c1) st (.slice a2 lf.length c2) body asked came else dealZ 3)) := by
      show _ = _
      unfold dealOf
      rw [← es1, ← es2, ← es3, ← es4]
    have HFIN : Hid (∀ (W : World) (v : Value), But (fun k => k = M ∨ k = Z) w5 W → v = dealOf lr rm now ⟨key, .slice a1 n1 c1, st, .slice a2 lf.length c2, body, asked, came⟩ id fd lf → PO (.returned v) W) := fun W v hb hv => by
      rw [HPO.out, hv]
      exact .inr ⟨HAL.out.symm, w4, w5, ⟨key, .slice a1 n1 c1, st, .slice a2 lf.length c2, body, asked, came⟩, id, fd, lf, hw4, hk5, hP5, hb.more HOwn.out, rfl⟩
    have hmZ : Z < w6.heap.size := hZ6.lt
    clear e6 hty hb56 hM5 hZ5 hQ5 hQM hf5 hr5 hr5' es1 es2 es3 es4 hOwn hM4 hZ4 hQ4 hM3 hZ3 hQ3 hr3 hw3 m6 fm6 m7 fm7 m8 fm8 m9 fm9 m10 fm10 m11 fm11 m12 fm12 m13 fm13 m14 fm14 nn1 fn1 nn2 fn2 nn3 fn3 nn4 fn4 nn5 fn5 nn6 fn6
    go_wp2
    refine wp_loop_rounds 5 ?_
    rw [rounds_succ]
    obtain ⟨wf, ef⟩ : ∃ wf : World, wf = w6.alloc (.cells #[(.func (.func 35) #[] #[]), (.func (.func 36) #[] #[]), (.func (.func 37) #[] #[]), (.func (.func 38) #[] #[])] 75) := ⟨_, rfl⟩
    obtain ⟨Fb, eFb⟩ : ∃ Fb, Fb = w6.heap.size := ⟨_, rfl⟩
    have hF : Blk wf Fb 75 #[(.func (.func 35) #[] #[]), (.func (.func 36) #[] #[]), (.func (.func 37) #[] #[]), (.func (.func 38) #[] #[])] := by rw [ef, eFb]; exact Blk.new _ _ _
    have hbf : Below w6.heap.size w6 wf := by rw [ef]; exact (Below.refl _ _).alloc (Nat.le_refl _) _
    rw [← eFb, ← ef]
    clear ef eFb
    have hMk := hM6.on hbf
    have hZk := hZ6.on hbf
    have hrk := (hr6.below hbf).mono hbf.size
    have hfk := (hf6.below hbf).mono hbf.size
    have hbk := hbt6.trans (But.of_below hbf)
    clear hM6 hZ6 hr6 hf6 hbt6 hbf
    have d0 : wf.cell? ⟨Fb, 0, none⟩ = some (.func (.func 35) #[] #[]) := hF.cell 0
    have x0 : wf.cell? ⟨M, 0, none⟩ = some (S rm) := hMk.cell 0; have x1 : wf.cell? ⟨M, 1, none⟩ = some (S rs) := hMk.cell 1; have x2 : wf.cell? ⟨M, 2, none⟩ = some (S ra) := hMk.cell 2; have x3 : wf.cell? ⟨M, 3, none⟩ = some (S rp) := hMk.cell 3; have x4 : wf.cell? ⟨M, 4, none⟩ = some (.slice pr lr.length cr) := hMk.cell 4; have x5 : wf.cell? ⟨M, 5, none⟩ = some (.int .i64 now) := hMk.cell 5; have x6 : wf.cell? ⟨M, 6, none⟩ = some (S key) := hMk.cell 6; have x7 : wf.cell? ⟨M, 7, none⟩ = some (.slice a1 n1 c1) := hMk.cell 7; have x8 : wf.cell? ⟨M, 8, none⟩ = some (.int .i64 st) := hMk.cell 8; have x9 : wf.cell? ⟨M, 9, none⟩ = some (.slice a2 lf.length c2) := hMk.cell 9; have x10 : wf.cell? ⟨M, 10, none⟩ = some (S body) := hMk.cell 10; have x11 : wf.cell? ⟨M, 11, none⟩ = some (.int .i64 asked) := hMk.cell 11; have x12 : wf.cell? ⟨M, 12, none⟩ = some (.int .i64 came) := hMk.cell 12; have x13 : wf.cell? ⟨M, 13, none⟩ = some (.int .i64 id) := hMk.cell 13; have x14 : wf.cell? ⟨M, 14, none⟩ = some (.bool fd) := hMk.cell 14
    go_wp2_with fail
    refine (C1.out wf hrk hfk).mono ?_
    rintro e wa0 ⟨rfl, hba0⟩
    obtain ⟨wn0, en0⟩ : ∃ wn : World, wn = wa0.alloc (.cells #[.int .i64 1, .int .i64 id, S key, .slice a1 n1 c1, .int .i64 st, .slice a2 lf.length c2, S body, .int .i64 asked, .int .i64 came] 38) := ⟨_, rfl⟩
    obtain ⟨N0, eN0⟩ : ∃ N, N = wa0.heap.size := ⟨_, rfl⟩
    have hN0 : Blk wn0 N0 38 #[.int .i64 1, .int .i64 id, S key, .slice a1 n1 c1, .int .i64 st, .slice a2 lf.length c2, S body, .int .i64 asked, .int .i64 came] := by rw [en0, eN0]; exact Blk.new _ _ _
    have hbn0 : Below wf.heap.size wf wn0 := by rw [en0]; exact hba0.alloc hba0.size _
    have HN0 := Lib.hid eN0
    have HWN0 := Lib.hid en0
    clear en0 eN0 x0 x1 x2 x3 x4 x5 x6 x7 x8 x9 x10 x11 x12 x13 x14 d0
    replace hF := hF.on hbn0
    replace hMk := hMk.on hbn0
    replace hZk := hZk.on hbn0
    replace hrk := (hrk.below hbn0).mono hbn0.size
    replace hfk := (hfk.below hbn0).mono hbn0.size
    replace hbk := hbk.trans (But.of_below hbn0)
    go_upto_region 10 with fail
    rw [← HN0.out, ← HWN0.out]
    clear HN0 HWN0 hba0 hbn0
    cases s1 with
    | true =>
      have y0 : wn0.cell? ⟨N0, 0, none⟩ = some (.int .i64 1) := hN0.cell 0; have y1 : wn0.cell? ⟨N0, 1, none⟩ = some (.int .i64 id) := hN0.cell 1; have y2 : wn0.cell? ⟨N0, 2, none⟩ = some (S key) := hN0.cell 2; have y3 : wn0.cell? ⟨N0, 3, none⟩ = some (.slice a1 n1 c1) := hN0.cell 3; have y4 : wn0.cell? ⟨N0, 4, none⟩ = some (.int .i64 st) := hN0.cell 4; have y5 : wn0.cell? ⟨N0, 5, none⟩ = some (.slice a2 lf.length c2) := hN0.cell 5; have y6 : wn0.cell? ⟨N0, 6, none⟩ = some (S body) := hN0.cell 6; have y7 : wn0.cell? ⟨N0, 7, none⟩ = some (.int .i64 asked) := hN0.cell 7; have y8 : wn0.cell? ⟨N0, 8, none⟩ = some (.int .i64 came) := hN0.cell 8
      have z0 : wn0.cell? ⟨Z, 0, none⟩ = some (.int .i64 0) := hZk.cell 0; have fz0 := hZk.free 0; have z1 : wn0.cell? ⟨Z, 1, none⟩ = some (.int .i64 0) := hZk.cell 1; have fz1 := hZk.free 1; have z2 : wn0.cell? ⟨Z, 2, none⟩ = some (S []) := hZk.cell 2; have fz2 := hZk.free 2; have z3 : wn0.cell? ⟨Z, 3, none⟩ = some (.slice none 0 0) := hZk.cell 3; have fz3 := hZk.free 3; have z4 : wn0.cell? ⟨Z, 4, none⟩ = some (.int .i64 0) := hZk.cell 4; have fz4 := hZk.free 4; have z5 : wn0.cell? ⟨Z, 5, none⟩ = some (.slice none 0 0) := hZk.cell 5; have fz5 := hZk.free 5; have z6 : wn0.cell? ⟨Z, 6, none⟩ = some (S []) := hZk.cell 6; have fz6 := hZk.free 6; have z7 : wn0.cell? ⟨Z, 7, none⟩ = some (.int .i64 0) := hZk.cell 7; have fz7 := hZk.free 7; have z8 : wn0.cell? ⟨Z, 8, none⟩ = some (.int .i64 0) := hZk.cell 8; have fz8 := hZk.free 8
      have hBf := hZk.put9 (.int .i64 1) (.int .i64 id) (S key) (.slice a1 n1 c1) (.int .i64 st) (.slice a2 lf.length c2) (S body) (.int .i64 asked) (.int .i64 came)
      have hbfin := put9_but hbk (.inl (.inr rfl)) (.int .i64 1) (.int .i64 id) (S key) (.slice a1 n1 c1) (.int .i64 st) (.slice a2 lf.length c2) (S body) (.int .i64 asked) (.int .i64 came)
      go_wp2
      refine ret_decide (b := Z) ?_ hBf ?_
      · rfl
      · exact HFIN.out _ _ hbfin (by rw [HD.out]; rfl)
    | false =>
      go_wp2
      rw [rounds_succ]
      have d1 : wn0.cell? ⟨Fb, 1, none⟩ = some (.func (.func 36) #[] #[]) := hF.cell 1
      have x0 : wn0.cell? ⟨M, 0, none⟩ = some (S rm) := hMk.cell 0; have x1 : wn0.cell? ⟨M, 1, none⟩ = some (S rs) := hMk.cell 1; have x2 : wn0.cell? ⟨M, 2, none⟩ = some (S ra) := hMk.cell 2; have x3 : wn0.cell? ⟨M, 3, none⟩ = some (S rp) := hMk.cell 3; have x4 : wn0.cell? ⟨M, 4, none⟩ = some (.slice pr lr.length cr) := hMk.cell 4; have x5 : wn0.cell? ⟨M, 5, none⟩ = some (.int .i64 now) := hMk.cell 5; have x6 : wn0.cell? ⟨M, 6, none⟩ = some (S key) := hMk.cell 6; have x7 : wn0.cell? ⟨M, 7, none⟩ = some (.slice a1 n1 c1) := hMk.cell 7; have x8 : wn0.cell? ⟨M, 8, none⟩ = some (.int .i64 st) := hMk.cell 8; have x9 : wn0.cell? ⟨M, 9, none⟩ = some (.slice a2 lf.length c2) := hMk.cell 9; have x10 : wn0.cell? ⟨M, 10, none⟩ = some (S body) := hMk.cell 10; have x11 : wn0.cell? ⟨M, 11, none⟩ = some (.int .i64 asked) := hMk.cell 11; have x12 : wn0.cell? ⟨M, 12, none⟩ = some (.int .i64 came) := hMk.cell 12; have x13 : wn0.cell? ⟨M, 13, none⟩ = some (.int .i64 id) := hMk.cell 13; have x14 : wn0.cell? ⟨M, 14, none⟩ = some (.bool fd) := hMk.cell 14
      go_wp2_with fail
      refine (C2.out wn0 hrk hfk).mono ?_
      rintro e wa1 ⟨rfl, hba1⟩
      obtain ⟨wn1, en1⟩ : ∃ wn : World, wn = wa1.alloc (.cells #[.int .i64 4, .int .i64 0, S [], .slice none 0 0, .int .i64 0, .slice none 0 0, S [], .int .i64 0, .int .i64 0] 38) := ⟨_, rfl⟩
      obtain ⟨N1, eN1⟩ : ∃ N, N = wa1.heap.size := ⟨_, rfl⟩
      have hN1 : Blk wn1 N1 38 #[.int .i64 4, .int .i64 0, S [], .slice none 0 0, .int .i64 0, .slice none 0 0, S [], .int .i64 0, .int .i64 0] := by rw [en1, eN1]; exact Blk.new _ _ _
      have hbn1 : Below wn0.heap.size wn0 wn1 := by rw [en1]; exact hba1.alloc hba1.size _
      have HN1 := Lib.hid eN1
      have HWN1 := Lib.hid en1
      clear en1 eN1 x0 x1 x2 x3 x4 x5 x6 x7 x8 x9 x10 x11 x12 x13 x14 d1
      replace hF := hF.on hbn1
      replace hMk := hMk.on hbn1
      replace hZk := hZk.on hbn1
      replace hrk := (hrk.below hbn1).mono hbn1.size
      replace hfk := (hfk.below hbn1).mono hbn1.size
      replace hbk := hbk.trans (But.of_below hbn1)
      go_upto_region 10 with fail
      rw [← HN1.out, ← HWN1.out]
      clear HN1 HWN1 hba1 hbn1
      cases s2 with
      | true =>
        have y0 : wn1.cell? ⟨N1, 0, none⟩ = some (.int .i64 4) := hN1.cell 0; have y1 : wn1.cell? ⟨N1, 1, none⟩ = some (.int .i64 0) := hN1.cell 1; have y2 : wn1.cell? ⟨N1, 2, none⟩ = some (S []) := hN1.cell 2; have y3 : wn1.cell? ⟨N1, 3, none⟩ = some (.slice none 0 0) := hN1.cell 3; have y4 : wn1.cell? ⟨N1, 4, none⟩ = some (.int .i64 0) := hN1.cell 4; have y5 : wn1.cell? ⟨N1, 5, none⟩ = some (.slice none 0 0) := hN1.cell 5; have y6 : wn1.cell? ⟨N1, 6, none⟩ = some (S []) := hN1.cell 6; have y7 : wn1.cell? ⟨N1, 7, none⟩ = some (.int .i64 0) := hN1.cell 7; have y8 : wn1.cell? ⟨N1, 8, none⟩ = some (.int .i64 0) := hN1.cell 8
        have z0 : wn1.cell? ⟨Z, 0, none⟩ = some (.int .i64 0) := hZk.cell 0; have fz0 := hZk.free 0; have z1 : wn1.cell? ⟨Z, 1, none⟩ = some (.int .i64 0) := hZk.cell 1; have fz1 := hZk.free 1; have z2 : wn1.cell? ⟨Z, 2, none⟩ = some (S []) := hZk.cell 2; have fz2 := hZk.free 2; have z3 : wn1.cell? ⟨Z, 3, none⟩ = some (.slice none 0 0) := hZk.cell 3; have fz3 := hZk.free 3; have z4 : wn1.cell? ⟨Z, 4, none⟩ = some (.int .i64 0) := hZk.cell 4; have fz4 := hZk.free 4; have z5 : wn1.cell? ⟨Z, 5, none⟩ = some (.slice none 0 0) := hZk.cell 5; have fz5 := hZk.free 5; have z6 : wn1.cell? ⟨Z, 6, none⟩ = some (S []) := hZk.cell 6; have fz6 := hZk.free 6; have z7 : wn1.cell? ⟨Z, 7, none⟩ = some (.int .i64 0) := hZk.cell 7; have fz7 := hZk.free 7; have z8 : wn1.cell? ⟨Z, 8, none⟩ = some (.int .i64 0) := hZk.cell 8; have fz8 := hZk.free 8
        have hBf := hZk.put9 (.int .i64 4) (.int .i64 0) (S []) (.slice none 0 0) (.int .i64 0) (.slice none 0 0) (S []) (.int .i64 0) (.int .i64 0)
        have hbfin := put9_but hbk (.inl (.inr rfl)) (.int .i64 4) (.int .i64 0) (S []) (.slice none 0 0) (.int .i64 0) (.slice none 0 0) (S []) (.int .i64 0) (.int .i64 0)
        go_wp2
        refine ret_decide (b := Z) ?_ hBf ?_
        · rfl
        · exact HFIN.out _ _ hbfin (by rw [HD.out]; rfl)
      | false =>
        go_wp2
        rw [rounds_succ]
        have d2 : wn1.cell? ⟨Fb, 2, none⟩ = some (.func (.func 37) #[] #[]) := hF.cell 2
        have x0 : wn1.cell? ⟨M, 0, none⟩ = some (S rm) := hMk.cell 0; have x1 : wn1.cell? ⟨M, 1, none⟩ = some (S rs) := hMk.cell 1; have x2 : wn1.cell? ⟨M, 2, none⟩ = some (S ra) := hMk.cell 2; have x3 : wn1.cell? ⟨M, 3, none⟩ = some (S rp) := hMk.cell 3; have x4 : wn1.cell? ⟨M, 4, none⟩ = some (.slice pr lr.length cr) := hMk.cell 4; have x5 : wn1.cell? ⟨M, 5, none⟩ = some (.int .i64 now) := hMk.cell 5; have x6 : wn1.cell? ⟨M, 6, none⟩ = some (S key) := hMk.cell 6; have x7 : wn1.cell? ⟨M, 7, none⟩ = some (.slice a1 n1 c1) := hMk.cell 7; have x8 : wn1.cell? ⟨M, 8, none⟩ = some (.int .i64 st) := hMk.cell 8; have x9 : wn1.cell? ⟨M, 9, none⟩ = some (.slice a2 lf.length c2) := hMk.cell 9; have x10 : wn1.cell? ⟨M, 10, none⟩ = some (S body) := hMk.cell 10; have x11 : wn1.cell? ⟨M, 11, none⟩ = some (.int .i64 asked) := hMk.cell 11; have x12 : wn1.cell? ⟨M, 12, none⟩ = some (.int .i64 came) := hMk.cell 12; have x13 : wn1.cell? ⟨M, 13, none⟩ = some (.int .i64 id) := hMk.cell 13; have x14 : wn1.cell? ⟨M, 14, none⟩ = some (.bool fd) := hMk.cell 14
        go_wp2_with fail
        refine (C3.out wn1 hrk hfk).mono ?_
        rintro e wa2 ⟨rfl, hba2⟩
        obtain ⟨wn2, en2⟩ : ∃ wn : World, wn = wa2.alloc (.cells #[.int .i64 5, .int .i64 0, S [], .slice none 0 0, .int .i64 0, .slice none 0 0, S [], .int .i64 0, .int .i64 0] 38) := ⟨_, rfl⟩
        obtain ⟨N2, eN2⟩ : ∃ N, N = wa2.heap.size := ⟨_, rfl⟩
        have hN2 : Blk wn2 N2 38 #[.int .i64 5, .int .i64 0, S [], .slice none 0 0, .int .i64 0, .slice none 0 0, S [], .int .i64 0, .int .i64 0] := by rw [en2, eN2]; exact Blk.new _ _ _
        have hbn2 : Below wn1.heap.size wn1 wn2 := by rw [en2]; exact hba2.alloc hba2.size _
        have HN2 := Lib.hid eN2
        have HWN2 := Lib.hid en2
        clear en2 eN2 x0 x1 x2 x3 x4 x5 x6 x7 x8 x9 x10 x11 x12 x13 x14 d2
        replace hF := hF.on hbn2
        replace hMk := hMk.on hbn2
        replace hZk := hZk.on hbn2
        replace hrk := (hrk.below hbn2).mono hbn2.size
        replace hfk := (hfk.below hbn2).mono hbn2.size
        replace hbk := hbk.trans (But.of_below hbn2)
        go_upto_region 10 with fail
        rw [← HN2.out, ← HWN2.out]
        clear HN2 HWN2 hba2 hbn2
        cases s3 with
        | true =>
          have y0 : wn2.cell? ⟨N2, 0, none⟩ = some (.int .i64 5) := hN2.cell 0; have y1 : wn2.cell? ⟨N2, 1, none⟩ = some (.int .i64 0) := hN2.cell 1; have y2 : wn2.cell? ⟨N2, 2, none⟩ = some (S []) := hN2.cell 2; have y3 : wn2.cell? ⟨N2, 3, none⟩ = some (.slice none 0 0) := hN2.cell 3; have y4 : wn2.cell? ⟨N2, 4, none⟩ = some (.int .i64 0) := hN2.cell 4; have y5 : wn2.cell? ⟨N2, 5, none⟩ = some (.slice none 0 0) := hN2.cell 5; have y6 : wn2.cell? ⟨N2, 6, none⟩ = some (S []) := hN2.cell 6; have y7 : wn2.cell? ⟨N2, 7, none⟩ = some (.int .i64 0) := hN2.cell 7; have y8 : wn2.cell? ⟨N2, 8, none⟩ = some (.int .i64 0) := hN2.cell 8
          have z0 : wn2.cell? ⟨Z, 0, none⟩ = some (.int .i64 0) := hZk.cell 0; have fz0 := hZk.free 0; have z1 : wn2.cell? ⟨Z, 1, none⟩ = some (.int .i64 0) := hZk.cell 1; have fz1 := hZk.free 1; have z2 : wn2.cell? ⟨Z, 2, none⟩ = some (S []) := hZk.cell 2; have fz2 := hZk.free 2; have z3 : wn2.cell? ⟨Z, 3, none⟩ = some (.slice none 0 0) := hZk.cell 3; have fz3 := hZk.free 3; have z4 : wn2.cell? ⟨Z, 4, none⟩ = some (.int .i64 0) := hZk.cell 4; have fz4 := hZk.free 4; have z5 : wn2.cell? ⟨Z, 5, none⟩ = some (.slice none 0 0) := hZk.cell 5; have fz5 := hZk.free 5; have z6 : wn2.cell? ⟨Z, 6, none⟩ = some (S []) := hZk.cell 6; have fz6 := hZk.free 6; have z7 : wn2.cell? ⟨Z, 7, none⟩ = some (.int .i64 0) := hZk.cell 7; have fz7 := hZk.free 7; have z8 : wn2.cell? ⟨Z, 8, none⟩ = some (.int .i64 0) := hZk.cell 8; have fz8 := hZk.free 8
          have hBf := hZk.put9 (.int .i64 5) (.int .i64 0) (S []) (.slice none 0 0) (.int .i64 0) (.slice none 0 0) (S []) (.int .i64 0) (.int .i64 0)
          have hbfin := put9_but hbk (.inl (.inr rfl)) (.int .i64 5) (.int .i64 0) (S []) (.slice none 0 0) (.int .i64 0) (.slice none 0 0) (S []) (.int .i64 0) (.int .i64 0)
          go_wp2
          refine ret_decide (b := Z) ?_ hBf ?_
          · rfl
          · exact HFIN.out _ _ hbfin (by rw [HD.out]; rfl)
        | false =>
          go_wp2
          rw [rounds_succ]
          have d3 : wn2.cell? ⟨Fb, 3, none⟩ = some (.func (.func 38) #[] #[]) := hF.cell 3
          have x0 : wn2.cell? ⟨M, 0, none⟩ = some (S rm) := hMk.cell 0; have x1 : wn2.cell? ⟨M, 1, none⟩ = some (S rs) := hMk.cell 1; have x2 : wn2.cell? ⟨M, 2, none⟩ = some (S ra) := hMk.cell 2; have x3 : wn2.cell? ⟨M, 3, none⟩ = some (S rp) := hMk.cell 3; have x4 : wn2.cell? ⟨M, 4, none⟩ = some (.slice pr lr.length cr) := hMk.cell 4; have x5 : wn2.cell? ⟨M, 5, none⟩ = some (.int .i64 now) := hMk.cell 5; have x6 : wn2.cell? ⟨M, 6, none⟩ = some (S key) := hMk.cell 6; have x7 : wn2.cell? ⟨M, 7, none⟩ = some (.slice a1 n1 c1) := hMk.cell 7; have x8 : wn2.cell? ⟨M, 8, none⟩ = some (.int .i64 st) := hMk.cell 8; have x9 : wn2.cell? ⟨M, 9, none⟩ = some (.slice a2 lf.length c2) := hMk.cell 9; have x10 : wn2.cell? ⟨M, 10, none⟩ = some (S body) := hMk.cell 10; have x11 : wn2.cell? ⟨M, 11, none⟩ = some (.int .i64 asked) := hMk.cell 11; have x12 : wn2.cell? ⟨M, 12, none⟩ = some (.int .i64 came) := hMk.cell 12; have x13 : wn2.cell? ⟨M, 13, none⟩ = some (.int .i64 id) := hMk.cell 13; have x14 : wn2.cell? ⟨M, 14, none⟩ = some (.bool fd) := hMk.cell 14
          go_wp2_with fail
          refine (C4.out wn2 hrk hfk).mono ?_
          rintro e wa3 ⟨rfl, hba3⟩
          obtain ⟨wn3, en3⟩ : ∃ wn : World, wn = wa3.alloc (.cells #[.int .i64 2, .int .i64 id, S key, .slice a1 n1 c1, .int .i64 st, .slice a2 lf.length c2, S body, .int .i64 asked, .int .i64 came] 38) := ⟨_, rfl⟩
          obtain ⟨N3, eN3⟩ : ∃ N, N = wa3.heap.size := ⟨_, rfl⟩
          have hN3 : Blk wn3 N3 38 #[.int .i64 2, .int .i64 id, S key, .slice a1 n1 c1, .int .i64 st, .slice a2 lf.length c2, S body, .int .i64 asked, .int .i64 came] := by rw [en3, eN3]; exact Blk.new _ _ _
          have hbn3 : Below wn2.heap.size wn2 wn3 := by rw [en3]; exact hba3.alloc hba3.size _
          have HN3 := Lib.hid eN3
          have HWN3 := Lib.hid en3
          clear en3 eN3 x0 x1 x2 x3 x4 x5 x6 x7 x8 x9 x10 x11 x12 x13 x14 d3
          replace hF := hF.on hbn3
          replace hMk := hMk.on hbn3
          replace hZk := hZk.on hbn3
          replace hrk := (hrk.below hbn3).mono hbn3.size
          replace hfk := (hfk.below hbn3).mono hbn3.size
          replace hbk := hbk.trans (But.of_below hbn3)
          go_upto_region 10 with fail
          rw [← HN3.out, ← HWN3.out]
          clear HN3 HWN3 hba3 hbn3
          cases s4 with
          | true =>
            have y0 : wn3.cell? ⟨N3, 0, none⟩ = some (.int .i64 2) := hN3.cell 0; have y1 : wn3.cell? ⟨N3, 1, none⟩ = some (.int .i64 id) := hN3.cell 1; have y2 : wn3.cell? ⟨N3, 2, none⟩ = some (S key) := hN3.cell 2; have y3 : wn3.cell? ⟨N3, 3, none⟩ = some (.slice a1 n1 c1) := hN3.cell 3; have y4 : wn3.cell? ⟨N3, 4, none⟩ = some (.int .i64 st) := hN3.cell 4; have y5 : wn3.cell? ⟨N3, 5, none⟩ = some (.slice a2 lf.length c2) := hN3.cell 5; have y6 : wn3.cell? ⟨N3, 6, none⟩ = some (S body) := hN3.cell 6; have y7 : wn3.cell? ⟨N3, 7, none⟩ = some (.int .i64 asked) := hN3.cell 7; have y8 : wn3.cell? ⟨N3, 8, none⟩ = some (.int .i64 came) := hN3.cell 8
            have z0 : wn3.cell? ⟨Z, 0, none⟩ = some (.int .i64 0) := hZk.cell 0; have fz0 := hZk.free 0; have z1 : wn3.cell? ⟨Z, 1, none⟩ = some (.int .i64 0) := hZk.cell 1; have fz1 := hZk.free 1; have z2 : wn3.cell? ⟨Z, 2, none⟩ = some (S []) := hZk.cell 2; have fz2 := hZk.free 2; have z3 : wn3.cell? ⟨Z, 3, none⟩ = some (.slice none 0 0) := hZk.cell 3; have fz3 := hZk.free 3; have z4 : wn3.cell? ⟨Z, 4, none⟩ = some (.int .i64 0) := hZk.cell 4; have fz4 := hZk.free 4; have z5 : wn3.cell? ⟨Z, 5, none⟩ = some (.slice none 0 0) := hZk.cell 5; have fz5 := hZk.free 5; have z6 : wn3.cell? ⟨Z, 6, none⟩ = some (S []) := hZk.cell 6; have fz6 := hZk.free 6; have z7 : wn3.cell? ⟨Z, 7, none⟩ = some (.int .i64 0) := hZk.cell 7; have fz7 := hZk.free 7; have z8 : wn3.cell? ⟨Z, 8, none⟩ = some (.int .i64 0) := hZk.cell 8; have fz8 := hZk.free 8
            have hBf := hZk.put9 (.int .i64 2) (.int .i64 id) (S key) (.slice a1 n1 c1) (.int .i64 st) (.slice a2 lf.length c2) (S body) (.int .i64 asked) (.int .i64 came)
            have hbfin := put9_but hbk (.inl (.inr rfl)) (.int .i64 2) (.int .i64 id) (S key) (.slice a1 n1 c1) (.int .i64 st) (.slice a2 lf.length c2) (S body) (.int .i64 asked) (.int .i64 came)
            go_wp2
            refine ret_decide (b := Z) ?_ hBf ?_
            · rfl
            · exact HFIN.out _ _ hbfin (by rw [HD.out]; rfl)
          | false =>
            go_wp2
            rw [rounds_succ]
            have z0 : wn3.cell? ⟨Z, 0, none⟩ = some (.int .i64 0) := hZk.cell 0; have fz0 := hZk.free 0; have z1 : wn3.cell? ⟨Z, 1, none⟩ = some (.int .i64 0) := hZk.cell 1; have fz1 := hZk.free 1; have z2 : wn3.cell? ⟨Z, 2, none⟩ = some (S []) := hZk.cell 2; have fz2 := hZk.free 2; have z3 : wn3.cell? ⟨Z, 3, none⟩ = some (.slice none 0 0) := hZk.cell 3; have fz3 := hZk.free 3; have z4 : wn3.cell? ⟨Z, 4, none⟩ = some (.int .i64 0) := hZk.cell 4; have fz4 := hZk.free 4; have z5 : wn3.cell? ⟨Z, 5, none⟩ = some (.slice none 0 0) := hZk.cell 5; have fz5 := hZk.free 5; have z6 : wn3.cell? ⟨Z, 6, none⟩ = some (S []) := hZk.cell 6; have fz6 := hZk.free 6; have z7 : wn3.cell? ⟨Z, 7, none⟩ = some (.int .i64 0) := hZk.cell 7; have fz7 := hZk.free 7; have z8 : wn3.cell? ⟨Z, 8, none⟩ = some (.int .i64 0) := hZk.cell 8; have fz8 := hZk.free 8
            have hBf := hZk.put9 (.int .i64 3) (.int .i64 0) (S []) (.slice none 0 0) (.int .i64 0) (.slice none 0 0) (S []) (.int .i64 0) (.int .i64 0)
            have hbfin := put9_but hbk (.inl (.inr rfl)) (.int .i64 3) (.int .i64 0) (S []) (.slice none 0 0) (.int .i64 0) (.slice none 0 0) (S []) (.int .i64 0) (.int .i64 0)
            go_wp2
            refine ret_decide (b := Z) ?_ hBf ?_
            · rfl
            · exact HFIN.out _ _ hbfin (by rw [HD.out]; rfl)
end Go.Proofs.YtahapblgmehngaaGreatDoor

