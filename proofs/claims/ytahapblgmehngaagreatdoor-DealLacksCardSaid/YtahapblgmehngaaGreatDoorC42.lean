/- Parts of the proof of DealLacks_holds: the texts Dea5. -/
import Derived.Test.YtahapblgmehngaaGreatDoorC38
import Derived.Test.YtahapblgmehngaaGreatDoorC41
import Derived.Test.YtahapblgmehngaaGreatDoorC40
import Derived.Test.YtahapblgmehngaaGreatDoorC39
set_option linter.unusedSimpArgs false
set_option linter.unusedVariables false
set_option linter.unnecessarySimpa false
namespace Go.Proofs.YtahapblgmehngaaGreatDoor
open Go.RowKit Go.Dr

theorem ssum_putIn (out : List Bytes) (s : Bytes) : ssum (putIn out s) ≤ ssum out + (s.length + 1) := by
  unfold putIn
  split
  · omega
  · rw [ssum_append, ssum_cons]
    conv => rhs; rw [← List.take_append_drop (placeOf s out) out, ssum_append]
    omega
theorem ssum_putAll (l : List Bytes) : ∀ out : List Bytes, ssum (l.foldl putIn out) ≤ ssum out + ssum l := by
  induction l with
  | nil => intro out; simp [ssum]
  | cons s l ih =>
    intro out
    rw [List.foldl_cons, ssum_cons]
    have h1 := ih (putIn out s)
    have h2 := ssum_putIn out s
    omega
theorem ssum_rising (l : List Bytes) : ssum (rising l) ≤ ssum l := by
  rw [rising_eq]
  have := ssum_putAll l []
  simpa [putAll, ssum] using this
theorem ssum_low (l : List Bytes) : ssum (l.map low) = ssum l := by
  unfold ssum
  rw [List.map_map]
  congr 1
  apply List.map_congr_left
  intro s _
  simp [low]
theorem ssum_namesR (l : List F) : ssum (namesR (namesOf l)) ≤ fsum l := by
  unfold namesR
  split
  · simp [ssum]
  · refine Nat.le_trans (ssum_rising _) ?_
    rw [ssum_low]
    exact ssum_all l varyT
/-- The names that an answer varies by, as the request says them. -/
def pickOf (lr lf : List F) : List F := pickP (namesR (namesOf (strip lf))) lr
def keptB (q : Rq) (st : Int) (lr lf : List F) : Bool := storF q.m st lr (strip lf)
def itemK (id : Int) (q : Rq) (st : Int) (lr lf : List F) (body : Bytes) (asked came : Int) : It := ⟨id, keyR q, pickOf lr lf, st, strip lf, body, asked, came⟩
/-- What is answered that may be kept. -/
def RetK (q : Rq) (st : Int) (lr lf : List F) (body : Bytes) (asked came : Int) (w : World) (e : Ending) (w' : World) : Prop :=
  Below w.heap.size w w' ∧ ((keptB q st lr lf = false ∧ e = .returned (.tuple #[entZ, .bool false])) ∨ (keptB q st lr lf = true ∧ ∃ v, e = .returned (.tuple #[v, .bool true]) ∧ RetE (itemK 0 q st lr lf body asked came) w.heap.size v w'))

set_option maxRecDepth 100000 in
set_option maxHeartbeats 4000000 in
theorem ret_Keep {W : World} {tmps : Array Value} {b : Nat} {v0 v1 v2 v3 v4 v5 v6 : Value} {c : Bool} {R : Ending → World → Prop} (hs : tmps[12]? = some (.pointer (some ⟨b, 0, none⟩))) (hc : tmps[13]? = some (.bool c)) (h : Blk W b 36 #[v0, v1, v2, v3, v4, v5, v6]) (hR : R (.returned (.tuple #[.agg #[v0, v1, v2, v3, v4, v5, v6], .bool c])) W) :
    bodyPost Tryz.prog Tryz.f19 R .ret { tmps := tmps, defers := [] } W := by
  (have g0 : W.cell? ⟨b, 0, none⟩ = some (v0) := h.cell 0; have g1 : W.cell? ⟨b, 1, none⟩ = some (v1) := h.cell 1; have g2 : W.cell? ⟨b, 2, none⟩ = some (v2) := h.cell 2; have g3 : W.cell? ⟨b, 3, none⟩ = some (v3) := h.cell 3; have g4 : W.cell? ⟨b, 4, none⟩ = some (v4) := h.cell 4; have g5 : W.cell? ⟨b, 5, none⟩ = some (v5) := h.cell 5; have g6 : W.cell? ⟨b, 6, none⟩ = some (v6) := h.cell 6)
  exact bodyPost_ret (v := .tuple #[.agg #[v0, v1, v2, v3, v4, v5, v6], .bool c]) (by simp [results, Tryz.results19, go_sem, hs, hc, g0, g1, g2, g3, g4, g5, g6]) rfl hR
set_option maxRecDepth 100000 in
set_option maxHeartbeats 4000000 in
theorem Keep_any (q : Rq) (st : Int) (v : Value) (lr lf : List F) (body : Bytes) (asked came : Int) (w : World) (hr : Fs w.heap.size w q.v lr) (hf : Fs w.heap.size w v lf) (hl : fsum lr ≤ 549755813888) (hl2 : fsum lf ≤ 549755813888) (hk : q.s.length + q.a.length + q.p.length ≤ 4611686018427387904) :
    Calls Tryz.prog 19 #[q.val, .int .i64 st, v, S body, .int .i64 asked, .int .i64 came] w (RetK q st lr lf body asked came w) := by
  obtain ⟨pr, cr, hrv, -⟩ := hr.form
  obtain ⟨pf, cf, rfl, -⟩ := hf.form
  obtain ⟨rm, rs, ra, rp, rv⟩ := q
  simp only at hrv hr hk
  subst hrv
  obtain ⟨PO, ePO⟩ : ∃ PO, PO = RetK ⟨rm, rs, ra, rp, .slice pr lr.length cr⟩ st lr lf body asked came w := ⟨_, rfl⟩
  rw [← ePO]
  have HPO := Lib.hid ePO
  simp only [Rq.val]
  have hsf : fsum (strip lf) ≤ fsum lf := by unfold strip; exact Nat.le_trans (fsum_filter _ _) (fsum_filter _ _)
  have hns := ssum_namesR (strip lf)
  have HSTR := Lib.hid (fun w h => Strip_any lf (.slice pf lf.length cf) w h hl2)
  have HSTO := Lib.hid (fun v w h1 h2 => Storable_any ⟨rm, rs, ra, rp, .slice pr lr.length cr⟩ st v lr (strip lf) w h1 h2 (by omega) (by omega))
  have HNAM := Lib.hid (fun v w h => Names_any (strip lf) v w h (by omega))
  have HPIC := Lib.hid (fun vn w h1 h2 => Pick_any (namesR (namesOf (strip lf))) lr vn (.slice pr lr.length cr) w h1 h2 (by omega) (by omega))
  have HKEY := Lib.hid (fun w => Key_any ⟨rm, rs, ra, rp, .slice pr lr.length cr⟩ w hk)
  simp only [Rq.val] at HSTO HKEY
  have HKB : Hid (keptB ⟨rm, rs, ra, rp, .slice pr lr.length cr⟩ st lr lf = storF rm st lr (strip lf)) := rfl
  have HIT : Hid (itemK 0 ⟨rm, rs, ra, rp, .slice pr lr.length cr⟩ st lr lf body asked came = ⟨0, rs ++ [58, 47, 47] ++ ra ++ rp, pickP (namesR (namesOf (strip lf))) lr, st, strip lf, body, asked, came⟩) := rfl
  obtain ⟨kk, ekk⟩ : ∃ kk, kk = rs ++ [58, 47, 47] ++ ra ++ rp := ⟨_, rfl⟩
  rw [← ekk] at HKEY HIT
  obtain ⟨pk, epk⟩ : ∃ pk, pk = pickP (namesR (namesOf (strip lf))) lr := ⟨_, rfl⟩
  rw [← epk] at HPIC HIT
  obtain ⟨ns, ens⟩ : ∃ ns, ns = namesR (namesOf (strip lf)) := ⟨_, rfl⟩
  have HNS := Lib.hid ens
  obtain ⟨sl, esl⟩ : ∃ sl, sl = strip lf := ⟨_, rfl⟩
  rw [← esl] at HSTR HSTO HNAM HIT HKB hsf hns HNS HPIC
  rw [← HNS.out] at HPIC
  obtain ⟨bo, ebo⟩ : ∃ bo, bo = storF rm st lr sl := ⟨_, rfl⟩
  rw [← ebo] at HSTO HKB
  obtain ⟨star, estar⟩ : ∃ star, star = starred (namesOf sl) := ⟨_, rfl⟩
  clear ekk epk ens esl ebo ePO
  obtain ⟨w1, e1⟩ : ∃ w1 : World, w1 = w.alloc (.cells #[S rm, S rs, S ra, S rp, .slice pr lr.length cr] 28) := ⟨_, rfl⟩
  obtain ⟨G, eG⟩ : ∃ G, G = w.heap.size := ⟨_, rfl⟩
  have hs1 : w1.heap.size = G + 1 := by rw [e1, eG]; simp
  have hQ1 : Blk w1 G 28 #[S rm, S rs, S ra, S rp, .slice pr lr.length cr] := by rw [e1, eG]; exact Blk.new _ _ _
  obtain ⟨w0, e0⟩ : ∃ w0 : World, w0 = w1.alloc (.cells #[S [], .slice none 0 0, .int .i64 0, .slice none 0 0, S [], .int .i64 0, .int .i64 0] 36) := ⟨_, rfl⟩
  obtain ⟨Z, eZ⟩ : ∃ Z, Z = G + 1 := ⟨_, rfl⟩
  have hQ0 : Blk w0 G 28 #[S rm, S rs, S ra, S rp, .slice pr lr.length cr] := by rw [e0]; exact hQ1.alloc _
  have hZ0 : Blk w0 Z 36 #[S [], .slice none 0 0, .int .i64 0, .slice none 0 0, S [], .int .i64 0, .int .i64 0] := by rw [e0, eZ, ← hs1]; exact Blk.new _ _ _
  have hb0 : Below w.heap.size w w0 := by rw [e0]; exact ((by rw [e1]; exact (Below.refl _ _).alloc (Nat.le_refl _) _ : Below w.heap.size w w1)).alloc (by rw [hs1, eG]; omega) _
  have hwZ : w.heap.size ≤ Z := by omega
  have hGZ : G ≠ Z := by omega
  have hzl : Z < w0.heap.size := hZ0.lt
  have hr0 := (hr.below hb0).mono hb0.size
  have hf0 := (hf.below hb0).mono hb0.size
  have HG := Lib.hid eG
  have HZ := Lib.hid eZ
  have HW : Hid (w0 = (w.alloc (.cells #[S rm, S rs, S ra, S rp, .slice pr lr.length cr] 28)).alloc (.cells #[S [], .slice none 0 0, .int .i64 0, .slice none 0 0, S [], .int .i64 0, .int .i64 0] 36)) := by show _ = _; rw [e0, e1]
  clear e0 e1 eZ eG hs1 hQ1 hr hf
  go_enter Tryz.func19, Tryz.ntmps19
  go_upto_region 1 with fail
  rw [← HW.out, ← HG.out, ← HZ.out]
  go_wp2_with fail
  refine (HSTR.out w0 hf0).mono ?_
  rintro e w2 ⟨v2, rfl, ho2, hb2⟩
  obtain ⟨p2, c2, rfl, -⟩ := (Fs.own ho2).form
  have hQ2 := hQ0.on hb2
  have hZ2 := hZ0.on hb2
  have hr2 := (hr0.below hb2).mono hb2.size
  have hw2 := Bl.tr hb0 hb2
  have x0 : w2.cell? ⟨G, 0, none⟩ = some (S rm) := hQ2.cell 0; have x1 : w2.cell? ⟨G, 1, none⟩ = some (S rs) := hQ2.cell 1; have x2 : w2.cell? ⟨G, 2, none⟩ = some (S ra) := hQ2.cell 2; have x3 : w2.cell? ⟨G, 3, none⟩ = some (S rp) := hQ2.cell 3; have x4 : w2.cell? ⟨G, 4, none⟩ = some (.slice pr lr.length cr) := hQ2.cell 4
  go_wp2_with fail
  refine (HSTO.out _ w2 hr2 (Fs.own ho2)).mono ?_
  rintro e w3 ⟨rfl, hb3⟩
  have hQ3 := hQ2.on hb3
  have hZ3 := hZ2.on hb3
  have hr3 := (hr2.below hb3).mono hb3.size
  have hw3 := Bl.tr hw2 hb3
  have ho3 := own_below ho2 hb3
  clear x0 x1 x2 x3 x4 hQ0 hZ0 hr0 hf0 hQ2 hZ2 hr2 HSTR HSTO
  cases bo with
  | false =>
    have z0 : w3.cell? ⟨Z, 0, none⟩ = some (S []) := hZ3.cell 0; have f0 := hZ3.free 0; have z1 : w3.cell? ⟨Z, 1, none⟩ = some (.slice none 0 0) := hZ3.cell 1; have f1 := hZ3.free 1; have z2 : w3.cell? ⟨Z, 2, none⟩ = some (.int .i64 0) := hZ3.cell 2; have f2 := hZ3.free 2; have z3 : w3.cell? ⟨Z, 3, none⟩ = some (.slice none 0 0) := hZ3.cell 3; have f3 := hZ3.free 3; have z4 : w3.cell? ⟨Z, 4, none⟩ = some (S []) := hZ3.cell 4; have f4 := hZ3.free 4; have z5 : w3.cell? ⟨Z, 5, none⟩ = some (.int .i64 0) := hZ3.cell 5; have f5 := hZ3.free 5; have z6 : w3.cell? ⟨Z, 6, none⟩ = some (.int .i64 0) := hZ3.cell 6; have f6 := hZ3.free 6
    have hBf := hZ3.put7 (S []) (.slice none 0 0) (.int .i64 0) (.slice none 0 0) (S []) (.int .i64 0) (.int .i64 0)
    have hbf := put7_below hw3 hwZ (S []) (.slice none 0 0) (.int .i64 0) (.slice none 0 0) (S []) (.int .i64 0) (.int .i64 0)
    go_wp2
    refine ret_Keep (b := Z) (c := false) ?_ ?_ hBf ?_
    · rfl
    · rfl
    · rw [HPO.out]; exact ⟨hbf, .inl ⟨HKB.out, rfl⟩⟩
  | true =>
    have hNm := HNAM.out _ w3 (Fs.own ho3)
    unfold RetN at hNm
    rw [← estar, ← HNS.out] at hNm
    go_wp2_with fail
    refine hNm.mono ?_
    rintro e w4 ⟨vn, rfl, hon, hb4⟩
    obtain ⟨pn, cn, rfl, -⟩ := (Ss.own hon).form
    have hQ4 := hQ3.on hb4
    have hZ4 := hZ3.on hb4
    have hr4 := (hr3.below hb4).mono hb4.size
    have hw4 := Bl.tr hw3 hb4
    have ho4 := own_below ho3 hb4
    have hKy := HKEY.out w4.drew
    clear hQ3 hZ3 hr3 hNm HNAM estar
    go_wp2_with fail
    refine wp_region_held_drew (S := (fun wx => wx.cell? ⟨G, 0, none⟩ = some (S rm) ∧ wx.cell? ⟨G, 1, none⟩ = some (S rs) ∧ wx.cell? ⟨G, 2, none⟩ = some (S ra) ∧ wx.cell? ⟨G, 3, none⟩ = some (S rp) ∧ wx.cell? ⟨G, 4, none⟩ = some (.slice pr lr.length cr))) (by kernel_rfl) ⟨(hQ4).cell 0, (hQ4).cell 1, (hQ4).cell 2, (hQ4).cell 3, (hQ4).cell 4⟩ (fun hHeld => ?_)
    (refine tkA 0 ?_ ?_ hHeld ?_; rotate_left; (intro w hSw; (try dsimp only at hSw); go_simp; try with_reducible rfl); simp only [Act.put, PT])
    (refine tkA 2 ?_ ?_ hHeld ?_; rotate_left; (intro w hSw; (try dsimp only at hSw); go_simp; try with_reducible rfl); simp only [Act.put, PT])
    (refine tkA 3 ?_ ?_ hHeld ?_; rotate_left; (intro w hSw; (try dsimp only at hSw); go_simp; try with_reducible rfl); simp only [Act.put, PT])
    (refine tkA 4 ?_ ?_ hHeld ?_; rotate_left; (intro w hSw; (try dsimp only at hSw); go_simp; try with_reducible rfl); simp only [Act.put, PT])
    (refine tkA 6 ?_ ?_ hHeld ?_; rotate_left; (intro w hSw; (try dsimp only at hSw); go_simp; try with_reducible rfl); simp only [Act.put, PT])
    (refine tkA 7 ?_ ?_ hHeld ?_; rotate_left; (intro w hSw; (try dsimp only at hSw); go_simp; try with_reducible rfl); simp only [Act.put, PT])
    (refine tkA 8 ?_ ?_ hHeld ?_; rotate_left; (intro w hSw; (try dsimp only at hSw); go_simp; try with_reducible rfl); simp only [Act.put, PT])
    (refine tkA 9 ?_ ?_ hHeld ?_; rotate_left; (intro w hSw; (try dsimp only at hSw); go_simp; try with_reducible rfl); simp only [Act.put, PT])
    (refine tkA 10 ?_ ?_ hHeld ?_; rotate_left; (intro w hSw; (try dsimp only at hSw); go_simp; try with_reducible rfl); simp only [Act.put, PT])
    refine wpAnyH_ready (rs := [1]) (by kernel_rfl) (by simp) ?_
    refine AllReadyH.cons (by rfl) (fun K hK => ?_) AllReadyH.nil
    go_simp
    (with_reducible refine hKy.mono ?_); rintro e w5 ⟨rfl, hb5⟩; replace hb5 := Bl.undrew hb5; have hQ5 := hQ4.on hb5; have hZ5 := hZ4.on hb5; have hr5 := (hr4.below hb5).mono hb5.size; have hon5 := own_below hon hb5; have hw5 := Bl.tr hw4 hb5; have hPk := HPIC.out _ w5 (Ss.own hon5) hr5
    refine hK.out _ _ ⟨(hQ5).cell 0, (hQ5).cell 1, (hQ5).cell 2, (hQ5).cell 3, (hQ5).cell 4⟩ (fun hHeld => ?_)
    clear hK K
    try simp only [Act.put, PT]
    refine wpAnyH_ready (rs := [5]) (by kernel_rfl) (by simp) ?_
    refine AllReadyH.cons (by rfl) (fun K hK => ?_) AllReadyH.nil
    go_simp
    (with_reducible refine hPk.mono ?_); rintro e w6 ⟨v6, rfl, ho6, hb6⟩; obtain ⟨p6, c6, rfl, -⟩ := (Fs.own ho6).form; have hQ6 := hQ5.on hb6; have hZ6 := hZ5.on hb6; have hw6 := Bl.tr hw5 hb6; have z0 : w6.cell? ⟨Z, 0, none⟩ = some (S []) := hZ6.cell 0; have f0 := hZ6.free 0; have z1 : w6.cell? ⟨Z, 1, none⟩ = some (.slice none 0 0) := hZ6.cell 1; have f1 := hZ6.free 1; have z2 : w6.cell? ⟨Z, 2, none⟩ = some (.int .i64 0) := hZ6.cell 2; have f2 := hZ6.free 2; have z3 : w6.cell? ⟨Z, 3, none⟩ = some (.slice none 0 0) := hZ6.cell 3; have f3 := hZ6.free 3; have z4 : w6.cell? ⟨Z, 4, none⟩ = some (S []) := hZ6.cell 4; have f4 := hZ6.free 4; have z5 : w6.cell? ⟨Z, 5, none⟩ = some (.int .i64 0) := hZ6.cell 5; have f5 := hZ6.free 5; have z6 : w6.cell? ⟨Z, 6, none⟩ = some (.int .i64 0) := hZ6.cell 6; have f6 := hZ6.free 6
    refine hK.out _ _ ⟨(hQ6).cell 0, (hQ6).cell 1, (hQ6).cell 2, (hQ6).cell 3, (hQ6).cell 4⟩ (fun hHeld => ?_)
    clear hK K
    try simp only [Act.put, PT]
    (refine tkA 11 ?_ ?_ hHeld ?_; rotate_left; (intro w hSw; (try dsimp only at hSw); go_simp; try with_reducible rfl); simp only [Act.put, PT])
    refine wpAnyH_ready (rs := [12]) (by kernel_rfl) (by simp) ?_
    refine AllReadyH.cons (by rfl) (fun K hK => ?_) AllReadyH.nil
    go_simp
    skip
    refine hK.out _ _ ⟨(hQ6.but ((((((((But.refl (fun k => k = Z) w6).setCell (p := ⟨Z, 0, none⟩) (.inl rfl) _).setCell (p := ⟨Z, 1, none⟩) (.inl rfl) _).setCell (p := ⟨Z, 2, none⟩) (.inl rfl) _).setCell (p := ⟨Z, 3, none⟩) (.inl rfl) _).setCell (p := ⟨Z, 4, none⟩) (.inl rfl) _).setCell (p := ⟨Z, 5, none⟩) (.inl rfl) _).setCell (p := ⟨Z, 6, none⟩) (.inl rfl) _) hGZ).cell 0, (hQ6.but ((((((((But.refl (fun k => k = Z) w6).setCell (p := ⟨Z, 0, none⟩) (.inl rfl) _).setCell (p := ⟨Z, 1, none⟩) (.inl rfl) _).setCell (p := ⟨Z, 2, none⟩) (.inl rfl) _).setCell (p := ⟨Z, 3, none⟩) (.inl rfl) _).setCell (p := ⟨Z, 4, none⟩) (.inl rfl) _).setCell (p := ⟨Z, 5, none⟩) (.inl rfl) _).setCell (p := ⟨Z, 6, none⟩) (.inl rfl) _) hGZ).cell 1, (hQ6.but ((((((((But.refl (fun k => k = Z) w6).setCell (p := ⟨Z, 0, none⟩) (.inl rfl) _).setCell (p := ⟨Z, 1, none⟩) (.inl rfl) _).setCell (p := ⟨Z, 2, none⟩) (.inl rfl) _).setCell (p := ⟨Z, 3, none⟩) (.inl rfl) _).setCell (p := ⟨Z, 4, none⟩) (.inl rfl) _).setCell (p := ⟨Z, 5, none⟩) (.inl rfl) _).setCell (p := ⟨Z, 6, none⟩) (.inl rfl) _) hGZ).cell 2, (hQ6.but ((((((((But.refl (fun k => k = Z) w6).setCell (p := ⟨Z, 0, none⟩) (.inl rfl) _).setCell (p := ⟨Z, 1, none⟩) (.inl rfl) _).setCell (p := ⟨Z, 2, none⟩) (.inl rfl) _).setCell (p := ⟨Z, 3, none⟩) (.inl rfl) _).setCell (p := ⟨Z, 4, none⟩) (.inl rfl) _).setCell (p := ⟨Z, 5, none⟩) (.inl rfl) _).setCell (p := ⟨Z, 6, none⟩) (.inl rfl) _) hGZ).cell 3, (hQ6.but ((((((((But.refl (fun k => k = Z) w6).setCell (p := ⟨Z, 0, none⟩) (.inl rfl) _).setCell (p := ⟨Z, 1, none⟩) (.inl rfl) _).setCell (p := ⟨Z, 2, none⟩) (.inl rfl) _).setCell (p := ⟨Z, 3, none⟩) (.inl rfl) _).setCell (p := ⟨Z, 4, none⟩) (.inl rfl) _).setCell (p := ⟨Z, 5, none⟩) (.inl rfl) _).setCell (p := ⟨Z, 6, none⟩) (.inl rfl) _) hGZ).cell 4⟩ (fun hHeld => ?_)
    clear hK K
    try simp only [Act.put, PT]
    (refine tkA 13 ?_ ?_ hHeld ?_; rotate_left; (intro w hSw; (try dsimp only at hSw); go_simp; try with_reducible rfl); simp only [Act.put, PT])
    try simp only [Act.put, PT]
    refine wpAnyH_done (by kernel_rfl) ?_ _
    have hBf := hZ6.put7 (S kk) (.slice p6 pk.length c6) (.int .i64 st) (.slice p2 sl.length c2) (S body) (.int .i64 asked) (.int .i64 came)
    have hbf := put7_below hw6 hwZ (S kk) (.slice p6 pk.length c6) (.int .i64 st) (.slice p2 sl.length c2) (S body) (.int .i64 asked) (.int .i64 came)
    have ho6' := own_base ho6 (show w0.heap.size ≤ w5.heap.size from Nat.le_trans hb2.size (Nat.le_trans hb3.size (Nat.le_trans hb4.size hb5.size)))
    have hoF := own_below (own_below ho4 hb5) hb6
    have hret : RetE ⟨0, kk, pk, st, sl, body, asked, came⟩ w0.heap.size (.agg #[S kk, .slice p6 pk.length c6, .int .i64 st, .slice p2 sl.length c2, S body, .int .i64 asked, .int .i64 came]) w6 := ⟨_, _, rfl, ho6', hoF⟩
    have hret7 := RetE.low (hret.put7 hzl (S kk) (.slice p6 pk.length c6) (.int .i64 st) (.slice p2 sl.length c2) (S body) (.int .i64 asked) (.int .i64 came)) hb0.size
    go_wp2
    refine ret_Keep (b := Z) (c := true) ?_ ?_ hBf ?_
    · rfl
    · rfl
    · rw [HPO.out]; exact ⟨hbf, .inr ⟨HKB.out, _, rfl, by rw [HIT.out]; exact hret7⟩⟩

set_option maxRecDepth 100000 in
set_option maxHeartbeats 4000000 in
theorem ret_refKeep {W : World} {tmps : Array Value} {b : Nat} {v0 v1 v2 v3 v4 v5 v6 : Value} {c : Bool} {R : Ending → World → Prop} (hs : tmps[12]? = some (.pointer (some ⟨b, 0, none⟩))) (hc : tmps[13]? = some (.bool c)) (h : Blk W b 36 #[v0, v1, v2, v3, v4, v5, v6]) (hR : R (.returned (.tuple #[.agg #[v0, v1, v2, v3, v4, v5, v6], .bool c])) W) :
    bodyPost Tryz.prog Tryz.f30 R .ret { tmps := tmps, defers := [] } W := by
  (have g0 : W.cell? ⟨b, 0, none⟩ = some (v0) := h.cell 0; have g1 : W.cell? ⟨b, 1, none⟩ = some (v1) := h.cell 1; have g2 : W.cell? ⟨b, 2, none⟩ = some (v2) := h.cell 2; have g3 : W.cell? ⟨b, 3, none⟩ = some (v3) := h.cell 3; have g4 : W.cell? ⟨b, 4, none⟩ = some (v4) := h.cell 4; have g5 : W.cell? ⟨b, 5, none⟩ = some (v5) := h.cell 5; have g6 : W.cell? ⟨b, 6, none⟩ = some (v6) := h.cell 6)
  exact bodyPost_ret (v := .tuple #[.agg #[v0, v1, v2, v3, v4, v5, v6], .bool c]) (by simp [results, Tryz.results30, go_sem, hs, hc, g0, g1, g2, g3, g4, g5, g6]) rfl hR
set_option maxRecDepth 100000 in
set_option maxHeartbeats 4000000 in
theorem refKeep_any (q : Rq) (st : Int) (v : Value) (lr lf : List F) (body : Bytes) (asked came : Int) (w : World) (hr : Fs w.heap.size w q.v lr) (hf : Fs w.heap.size w v lf) (hl : fsum lr ≤ 549755813888) (hl2 : fsum lf ≤ 549755813888) (hk : q.s.length + q.a.length + q.p.length ≤ 4611686018427387904) :
    Calls Tryz.prog 30 #[q.val, .int .i64 st, v, S body, .int .i64 asked, .int .i64 came] w (RetK q st lr lf body asked came w) := by
  obtain ⟨pr, cr, hrv, -⟩ := hr.form
  obtain ⟨pf, cf, rfl, -⟩ := hf.form
  obtain ⟨rm, rs, ra, rp, rv⟩ := q
  simp only at hrv hr hk
  subst hrv
  obtain ⟨PO, ePO⟩ : ∃ PO, PO = RetK ⟨rm, rs, ra, rp, .slice pr lr.length cr⟩ st lr lf body asked came w := ⟨_, rfl⟩
  rw [← ePO]
  have HPO := Lib.hid ePO
  simp only [Rq.val]
  have hsf : fsum (strip lf) ≤ fsum lf := by unfold strip; exact Nat.le_trans (fsum_filter _ _) (fsum_filter _ _)
  have hns := ssum_namesR (strip lf)
  have HSTR := Lib.hid (fun w h => refStrip_any lf (.slice pf lf.length cf) w h (by omega))
  have HSTO := Lib.hid (fun v w h1 h2 => refStorable_any ⟨rm, rs, ra, rp, .slice pr lr.length cr⟩ st v lr (strip lf) w h1 h2 (by omega) (by omega))
  have HNAM := Lib.hid (fun v w h => refNames_any (strip lf) v w h (by omega))
  have HPIC := Lib.hid (fun vn w h1 h2 => refPick_any (namesR (namesOf (strip lf))) lr vn (.slice pr lr.length cr) w h1 h2 (by omega) (by omega))
  have HKEY := Lib.hid (fun w => refKey_any ⟨rm, rs, ra, rp, .slice pr lr.length cr⟩ w hk)
  simp only [Rq.val] at HSTO HKEY
  have HKB : Hid (keptB ⟨rm, rs, ra, rp, .slice pr lr.length cr⟩ st lr lf = storF rm st lr (strip lf)) := rfl
  have HIT : Hid (itemK 0 ⟨rm, rs, ra, rp, .slice pr lr.length cr⟩ st lr lf body asked came = ⟨0, rs ++ [58, 47, 47] ++ ra ++ rp, pickP (namesR (namesOf (strip lf))) lr, st, strip lf, body, asked, came⟩) := rfl
  obtain ⟨kk, ekk⟩ : ∃ kk, kk = rs ++ [58, 47, 47] ++ ra ++ rp := ⟨_, rfl⟩
  rw [← ekk] at HKEY HIT
  obtain ⟨pk, epk⟩ : ∃ pk, pk = pickP (namesR (namesOf (strip lf))) lr := ⟨_, rfl⟩
  rw [← epk] at HPIC HIT
  obtain ⟨ns, ens⟩ : ∃ ns, ns = namesR (namesOf (strip lf)) := ⟨_, rfl⟩
  have HNS := Lib.hid ens
  obtain ⟨sl, esl⟩ : ∃ sl, sl = strip lf := ⟨_, rfl⟩
  rw [← esl] at HSTR HSTO HNAM HIT HKB hsf hns HNS HPIC
  rw [← HNS.out] at HPIC
  obtain ⟨bo, ebo⟩ : ∃ bo, bo = storF rm st lr sl := ⟨_, rfl⟩
  rw [← ebo] at HSTO HKB
  obtain ⟨star, estar⟩ : ∃ star, star = starred (namesOf sl) := ⟨_, rfl⟩
  clear ekk epk ens esl ebo ePO
  obtain ⟨w1, e1⟩ : ∃ w1 : World, w1 = w.alloc (.cells #[S rm, S rs, S ra, S rp, .slice pr lr.length cr] 28) := ⟨_, rfl⟩
  obtain ⟨G, eG⟩ : ∃ G, G = w.heap.size := ⟨_, rfl⟩
  have hs1 : w1.heap.size = G + 1 := by rw [e1, eG]; simp
  have hQ1 : Blk w1 G 28 #[S rm, S rs, S ra, S rp, .slice pr lr.length cr] := by rw [e1, eG]; exact Blk.new _ _ _
  obtain ⟨w0, e0⟩ : ∃ w0 : World, w0 = w1.alloc (.cells #[S [], .slice none 0 0, .int .i64 0, .slice none 0 0, S [], .int .i64 0, .int .i64 0] 36) := ⟨_, rfl⟩
  obtain ⟨Z, eZ⟩ : ∃ Z, Z = G + 1 := ⟨_, rfl⟩
  have hQ0 : Blk w0 G 28 #[S rm, S rs, S ra, S rp, .slice pr lr.length cr] := by rw [e0]; exact hQ1.alloc _
  have hZ0 : Blk w0 Z 36 #[S [], .slice none 0 0, .int .i64 0, .slice none 0 0, S [], .int .i64 0, .int .i64 0] := by rw [e0, eZ, ← hs1]; exact Blk.new _ _ _
  have hb0 : Below w.heap.size w w0 := by rw [e0]; exact ((by rw [e1]; exact (Below.refl _ _).alloc (Nat.le_refl _) _ : Below w.heap.size w w1)).alloc (by rw [hs1, eG]; omega) _
  have hwZ : w.heap.size ≤ Z := by omega
  have hGZ : G ≠ Z := by omega
  have hzl : Z < w0.heap.size := hZ0.lt
  have hr0 := (hr.below hb0).mono hb0.size
  have hf0 := (hf.below hb0).mono hb0.size
  have HG := Lib.hid eG
  have HZ := Lib.hid eZ
  have HW : Hid (w0 = (w.alloc (.cells #[S rm, S rs, S ra, S rp, .slice pr lr.length cr] 28)).alloc (.cells #[S [], .slice none 0 0, .int .i64 0, .slice none 0 0, S [], .int .i64 0, .int .i64 0] 36)) := by show _ = _; rw [e0, e1]
  clear e0 e1 eZ eG hs1 hQ1 hr hf
  go_enter Tryz.func30, Tryz.ntmps30
  go_upto_region 1 with fail
  rw [← HW.out, ← HG.out, ← HZ.out]
  go_wp2_with fail
  refine (HSTR.out w0 hf0).mono ?_
  rintro e w2 ⟨v2, rfl, ho2, hb2⟩
  obtain ⟨p2, c2, rfl, -⟩ := (Fs.own ho2).form
  have hQ2 := hQ0.on hb2
  have hZ2 := hZ0.on hb2
  have hr2 := (hr0.below hb2).mono hb2.size
  have hw2 := Bl.tr hb0 hb2
  have x0 : w2.cell? ⟨G, 0, none⟩ = some (S rm) := hQ2.cell 0; have x1 : w2.cell? ⟨G, 1, none⟩ = some (S rs) := hQ2.cell 1; have x2 : w2.cell? ⟨G, 2, none⟩ = some (S ra) := hQ2.cell 2; have x3 : w2.cell? ⟨G, 3, none⟩ = some (S rp) := hQ2.cell 3; have x4 : w2.cell? ⟨G, 4, none⟩ = some (.slice pr lr.length cr) := hQ2.cell 4
  go_wp2_with fail
  refine (HSTO.out _ w2 hr2 (Fs.own ho2)).mono ?_
  rintro e w3 ⟨rfl, hb3⟩
  have hQ3 := hQ2.on hb3
  have hZ3 := hZ2.on hb3
  have hr3 := (hr2.below hb3).mono hb3.size
  have hw3 := Bl.tr hw2 hb3
  have ho3 := own_below ho2 hb3
  clear x0 x1 x2 x3 x4 hQ0 hZ0 hr0 hf0 hQ2 hZ2 hr2 HSTR HSTO
  cases bo with
  | false =>
    have z0 : w3.cell? ⟨Z, 0, none⟩ = some (S []) := hZ3.cell 0; have f0 := hZ3.free 0; have z1 : w3.cell? ⟨Z, 1, none⟩ = some (.slice none 0 0) := hZ3.cell 1; have f1 := hZ3.free 1; have z2 : w3.cell? ⟨Z, 2, none⟩ = some (.int .i64 0) := hZ3.cell 2; have f2 := hZ3.free 2; have z3 : w3.cell? ⟨Z, 3, none⟩ = some (.slice none 0 0) := hZ3.cell 3; have f3 := hZ3.free 3; have z4 : w3.cell? ⟨Z, 4, none⟩ = some (S []) := hZ3.cell 4; have f4 := hZ3.free 4; have z5 : w3.cell? ⟨Z, 5, none⟩ = some (.int .i64 0) := hZ3.cell 5; have f5 := hZ3.free 5; have z6 : w3.cell? ⟨Z, 6, none⟩ = some (.int .i64 0) := hZ3.cell 6; have f6 := hZ3.free 6
    have hBf := hZ3.put7 (S []) (.slice none 0 0) (.int .i64 0) (.slice none 0 0) (S []) (.int .i64 0) (.int .i64 0)
    have hbf := put7_below hw3 hwZ (S []) (.slice none 0 0) (.int .i64 0) (.slice none 0 0) (S []) (.int .i64 0) (.int .i64 0)
    go_wp2
    refine ret_refKeep (b := Z) (c := false) ?_ ?_ hBf ?_
    · rfl
    · rfl
    · rw [HPO.out]; exact ⟨hbf, .inl ⟨HKB.out, rfl⟩⟩
  | true =>
    have hNm := HNAM.out _ w3 (Fs.own ho3)
    unfold RetN at hNm
    rw [← estar, ← HNS.out] at hNm
    go_wp2_with fail
    refine hNm.mono ?_
    rintro e w4 ⟨vn, rfl, hon, hb4⟩
    obtain ⟨pn, cn, rfl, -⟩ := (Ss.own hon).form
    have hQ4 := hQ3.on hb4
    have hZ4 := hZ3.on hb4
    have hr4 := (hr3.below hb4).mono hb4.size
    have hw4 := Bl.tr hw3 hb4
    have ho4 := own_below ho3 hb4
    have hKy := HKEY.out w4.drew
    clear hQ3 hZ3 hr3 hNm HNAM estar
    go_wp2_with fail
    refine wp_region_held_drew (S := (fun wx => wx.cell? ⟨G, 0, none⟩ = some (S rm) ∧ wx.cell? ⟨G, 1, none⟩ = some (S rs) ∧ wx.cell? ⟨G, 2, none⟩ = some (S ra) ∧ wx.cell? ⟨G, 3, none⟩ = some (S rp) ∧ wx.cell? ⟨G, 4, none⟩ = some (.slice pr lr.length cr))) (by kernel_rfl) ⟨(hQ4).cell 0, (hQ4).cell 1, (hQ4).cell 2, (hQ4).cell 3, (hQ4).cell 4⟩ (fun hHeld => ?_)
    (refine tkA 0 ?_ ?_ hHeld ?_; rotate_left; (intro w hSw; (try dsimp only at hSw); go_simp; try with_reducible rfl); simp only [Act.put, PT])
    (refine tkA 2 ?_ ?_ hHeld ?_; rotate_left; (intro w hSw; (try dsimp only at hSw); go_simp; try with_reducible rfl); simp only [Act.put, PT])
    (refine tkA 3 ?_ ?_ hHeld ?_; rotate_left; (intro w hSw; (try dsimp only at hSw); go_simp; try with_reducible rfl); simp only [Act.put, PT])
    (refine tkA 4 ?_ ?_ hHeld ?_; rotate_left; (intro w hSw; (try dsimp only at hSw); go_simp; try with_reducible rfl); simp only [Act.put, PT])
    (refine tkA 6 ?_ ?_ hHeld ?_; rotate_left; (intro w hSw; (try dsimp only at hSw); go_simp; try with_reducible rfl); simp only [Act.put, PT])
    (refine tkA 7 ?_ ?_ hHeld ?_; rotate_left; (intro w hSw; (try dsimp only at hSw); go_simp; try with_reducible rfl); simp only [Act.put, PT])
    (refine tkA 8 ?_ ?_ hHeld ?_; rotate_left; (intro w hSw; (try dsimp only at hSw); go_simp; try with_reducible rfl); simp only [Act.put, PT])
    (refine tkA 9 ?_ ?_ hHeld ?_; rotate_left; (intro w hSw; (try dsimp only at hSw); go_simp; try with_reducible rfl); simp only [Act.put, PT])
    (refine tkA 10 ?_ ?_ hHeld ?_; rotate_left; (intro w hSw; (try dsimp only at hSw); go_simp; try with_reducible rfl); simp only [Act.put, PT])
    refine wpAnyH_ready (rs := [1]) (by kernel_rfl) (by simp) ?_
    refine AllReadyH.cons (by rfl) (fun K hK => ?_) AllReadyH.nil
    go_simp
    (with_reducible refine hKy.mono ?_); rintro e w5 ⟨rfl, hb5⟩; replace hb5 := Bl.undrew hb5; have hQ5 := hQ4.on hb5; have hZ5 := hZ4.on hb5; have hr5 := (hr4.below hb5).mono hb5.size; have hon5 := own_below hon hb5; have hw5 := Bl.tr hw4 hb5; have hPk := HPIC.out _ w5 (Ss.own hon5) hr5
    refine hK.out _ _ ⟨(hQ5).cell 0, (hQ5).cell 1, (hQ5).cell 2, (hQ5).cell 3, (hQ5).cell 4⟩ (fun hHeld => ?_)
    clear hK K
    try simp only [Act.put, PT]
    refine wpAnyH_ready (rs := [5]) (by kernel_rfl) (by simp) ?_
    refine AllReadyH.cons (by rfl) (fun K hK => ?_) AllReadyH.nil
    go_simp
    (with_reducible refine hPk.mono ?_); rintro e w6 ⟨v6, rfl, ho6, hb6⟩; obtain ⟨p6, c6, rfl, -⟩ := (Fs.own ho6).form; have hQ6 := hQ5.on hb6; have hZ6 := hZ5.on hb6; have hw6 := Bl.tr hw5 hb6; have z0 : w6.cell? ⟨Z, 0, none⟩ = some (S []) := hZ6.cell 0; have f0 := hZ6.free 0; have z1 : w6.cell? ⟨Z, 1, none⟩ = some (.slice none 0 0) := hZ6.cell 1; have f1 := hZ6.free 1; have z2 : w6.cell? ⟨Z, 2, none⟩ = some (.int .i64 0) := hZ6.cell 2; have f2 := hZ6.free 2; have z3 : w6.cell? ⟨Z, 3, none⟩ = some (.slice none 0 0) := hZ6.cell 3; have f3 := hZ6.free 3; have z4 : w6.cell? ⟨Z, 4, none⟩ = some (S []) := hZ6.cell 4; have f4 := hZ6.free 4; have z5 : w6.cell? ⟨Z, 5, none⟩ = some (.int .i64 0) := hZ6.cell 5; have f5 := hZ6.free 5; have z6 : w6.cell? ⟨Z, 6, none⟩ = some (.int .i64 0) := hZ6.cell 6; have f6 := hZ6.free 6
    refine hK.out _ _ ⟨(hQ6).cell 0, (hQ6).cell 1, (hQ6).cell 2, (hQ6).cell 3, (hQ6).cell 4⟩ (fun hHeld => ?_)
    clear hK K
    try simp only [Act.put, PT]
    (refine tkA 11 ?_ ?_ hHeld ?_; rotate_left; (intro w hSw; (try dsimp only at hSw); go_simp; try with_reducible rfl); simp only [Act.put, PT])
    refine wpAnyH_ready (rs := [12]) (by kernel_rfl) (by simp) ?_
    refine AllReadyH.cons (by rfl) (fun K hK => ?_) AllReadyH.nil
    go_simp
    skip
    refine hK.out _ _ ⟨(hQ6.but ((((((((But.refl (fun k => k = Z) w6).setCell (p := ⟨Z, 0, none⟩) (.inl rfl) _).setCell (p := ⟨Z, 1, none⟩) (.inl rfl) _).setCell (p := ⟨Z, 2, none⟩) (.inl rfl) _).setCell (p := ⟨Z, 3, none⟩) (.inl rfl) _).setCell (p := ⟨Z, 4, none⟩) (.inl rfl) _).setCell (p := ⟨Z, 5, none⟩) (.inl rfl) _).setCell (p := ⟨Z, 6, none⟩) (.inl rfl) _) hGZ).cell 0, (hQ6.but ((((((((But.refl (fun k => k = Z) w6).setCell (p := ⟨Z, 0, none⟩) (.inl rfl) _).setCell (p := ⟨Z, 1, none⟩) (.inl rfl) _).setCell (p := ⟨Z, 2, none⟩) (.inl rfl) _).setCell (p := ⟨Z, 3, none⟩) (.inl rfl) _).setCell (p := ⟨Z, 4, none⟩) (.inl rfl) _).setCell (p := ⟨Z, 5, none⟩) (.inl rfl) _).setCell (p := ⟨Z, 6, none⟩) (.inl rfl) _) hGZ).cell 1, (hQ6.but ((((((((But.refl (fun k => k = Z) w6).setCell (p := ⟨Z, 0, none⟩) (.inl rfl) _).setCell (p := ⟨Z, 1, none⟩) (.inl rfl) _).setCell (p := ⟨Z, 2, none⟩) (.inl rfl) _).setCell (p := ⟨Z, 3, none⟩) (.inl rfl) _).setCell (p := ⟨Z, 4, none⟩) (.inl rfl) _).setCell (p := ⟨Z, 5, none⟩) (.inl rfl) _).setCell (p := ⟨Z, 6, none⟩) (.inl rfl) _) hGZ).cell 2, (hQ6.but ((((((((But.refl (fun k => k = Z) w6).setCell (p := ⟨Z, 0, none⟩) (.inl rfl) _).setCell (p := ⟨Z, 1, none⟩) (.inl rfl) _).setCell (p := ⟨Z, 2, none⟩) (.inl rfl) _).setCell (p := ⟨Z, 3, none⟩) (.inl rfl) _).setCell (p := ⟨Z, 4, none⟩) (.inl rfl) _).setCell (p := ⟨Z, 5, none⟩) (.inl rfl) _).setCell (p := ⟨Z, 6, none⟩) (.inl rfl) _) hGZ).cell 3, (hQ6.but ((((((((But.refl (fun k => k = Z) w6).setCell (p := ⟨Z, 0, none⟩) (.inl rfl) _).setCell (p := ⟨Z, 1, none⟩) (.inl rfl) _).setCell (p := ⟨Z, 2, none⟩) (.inl rfl) _).setCell (p := ⟨Z, 3, none⟩) (.inl rfl) _).setCell (p := ⟨Z, 4, none⟩) (.inl rfl) _).setCell (p := ⟨Z, 5, none⟩) (.inl rfl) _).setCell (p := ⟨Z, 6, none⟩) (.inl rfl) _) hGZ).cell 4⟩ (fun hHeld => ?_)
    clear hK K
    try simp only [Act.put, PT]
    (refine tkA 13 ?_ ?_ hHeld ?_; rotate_left; (intro w hSw; (try dsimp only at hSw); go_simp; try with_reducible rfl); simp only [Act.put, PT])
    try simp only [Act.put, PT]
    refine wpAnyH_done (by kernel_rfl) ?_ _
    have hBf := hZ6.put7 (S kk) (.slice p6 pk.length c6) (.int .i64 st) (.slice p2 sl.length c2) (S body) (.int .i64 asked) (.int .i64 came)
    have hbf := put7_below hw6 hwZ (S kk) (.slice p6 pk.length c6) (.int .i64 st) (.slice p2 sl.length c2) (S body) (.int .i64 asked) (.int .i64 came)
    have ho6' := own_base ho6 (show w0.heap.size ≤ w5.heap.size from Nat.le_trans hb2.size (Nat.le_trans hb3.size (Nat.le_trans hb4.size hb5.size)))
    have hoF := own_below (own_below ho4 hb5) hb6
    have hret : RetE ⟨0, kk, pk, st, sl, body, asked, came⟩ w0.heap.size (.agg #[S kk, .slice p6 pk.length c6, .int .i64 st, .slice p2 sl.length c2, S body, .int .i64 asked, .int .i64 came]) w6 := ⟨_, _, rfl, ho6', hoF⟩
    have hret7 := RetE.low (hret.put7 hzl (S kk) (.slice p6 pk.length c6) (.int .i64 st) (.slice p2 sl.length c2) (S body) (.int .i64 asked) (.int .i64 came)) hb0.size
    go_wp2
    refine ret_refKeep (b := Z) (c := true) ?_ ?_ hBf ?_
    · rfl
    · rfl
    · rw [HPO.out]; exact ⟨hbf, .inr ⟨HKB.out, _, rfl, by rw [HIT.out]; exact hret7⟩⟩

end Go.Proofs.YtahapblgmehngaaGreatDoor

