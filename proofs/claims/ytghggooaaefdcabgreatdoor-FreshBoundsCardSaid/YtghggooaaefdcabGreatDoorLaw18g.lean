
/- FreshBounds (printed by boundsgen.py). -/
import Derived.Test.YtghggooaaefdcabGreatDoorLaw18a
import Derived.Test.YtghggooaaefdcabGreatDoorStor2
namespace Go.Dr
def f0B : F := ⟨CacheControl, flagName 0, false⟩
def f5B : F := ⟨cacheControl, flagName 5, false⟩
def f1B : F := ⟨cacheControl, flagName 1, false⟩
end Go.Dr
namespace Go.Proofs.YtghggooaaefdcabGreatDoor
open Go.RowKit Go.Dr

theorem stor_no {m : Bytes} {st : Int} {lr lf : List F} (h : (readC lf).ns = true) : storF m st lr lf = false := by
  unfold storF ask3; simp [h]

set_option linter.unusedSimpArgs false in
set_option linter.unusedVariables false in
set_option maxRecDepth 100000 in
set_option maxHeartbeats 16000000 in
theorem FreshBounds_any (r : Rq) (q : En) (now : Int) (lr le : List F) (w : World) (hr : Fs w.heap.size w r.v lr) (hrb : FOk lr) (hf : Fs w.heap.size w q.vf le) (hfb : FOk le) :
    Calls Tryz.prog 4 #[r.val, q.val, .int .i64 now] w fun e w' => e = .returned (.bool true) ∧ Below w.heap.size w w' := by
  obtain ⟨pr, cr, hrv, -⟩ := hr.form
  obtain ⟨pf, cf, hfv, -⟩ := hf.form
  obtain ⟨rm, rs, ra, rp, rv⟩ := r
  obtain ⟨key, vp, st, vf, body, asked, came⟩ := q
  simp only at hrv hfv hr hf
  subst hrv hfv
  have HFB := Lib.hid hfb
  have HRB := Lib.hid hrb
  clear hfb hrb
  obtain ⟨w0, ew⟩ : ∃ w0 : World, w0 = (w.alloc (.cells #[S rm, S rs, S ra, S rp, .slice pr lr.length cr] 24)).alloc (.cells #[S key, vp, .int .i64 st, .slice pf le.length cf, S body, .int .i64 asked, .int .i64 came] 33) := ⟨_, rfl⟩
  have hR : Blk w0 w.heap.size 24 #[S rm, S rs, S ra, S rp, .slice pr lr.length cr] := by rw [ew]; exact (Blk.new _ _ _).alloc _
  have hQ : Blk w0 (w.heap.size + 1) 33 #[S key, vp, .int .i64 st, .slice pf le.length cf, S body, .int .i64 asked, .int .i64 came] := by
    rw [ew]
    have := Blk.new (w.alloc (.cells #[S rm, S rs, S ra, S rp, .slice pr lr.length cr] 24)) 33 #[S key, vp, .int .i64 st, .slice pf le.length cf, S body, .int .i64 asked, .int .i64 came]
    rwa [show (w.alloc (.cells #[S rm, S rs, S ra, S rp, .slice pr lr.length cr] 24)).heap.size = w.heap.size + 1 by simp] at this
  have hb0 : Below w.heap.size w w0 := by rw [ew]; exact ((Below.refl _ _).alloc (Nat.le_refl _) _).alloc (by simp) _
  have hr0 := (hr.below hb0).mono hb0.size
  have hf0 := (hf.below hb0).mono hb0.size
  have hs1 := @smallB_sum lr
  have hs2 := @smallB_sum le
  clear hf
  simp only [Rq.val, En.val]
  generalize hsa : smallB lr = sa at *
  generalize hsb : smallB le = sb at *
  have HSA := Lib.hid hsa
  have HSB := Lib.hid hsb
  have HS1 := Lib.hid hs1
  have HS2 := Lib.hid hs2
  clear hsa hsb hs1 hs2
  go_enter Tryz.func4, Tryz.ntmps4
  go_wp2_with fail
  rw [← ew]
  clear ew
  refine (awake18_any w0).mono ?_
  rintro e w1 ⟨rfl, hb1⟩
  have hw1 := Bl.tr hb0 hb1
  have hQ1 := hQ.on hb1
  have hR1 := hR.on hb1
  have hr1 := (hr0.below hb1).mono hb1.size
  have hf1 := (hf0.below hb1).mono hb1.size
  clear hb0 hQ hR hr0 hf0 hb1
  have g4 : w1.cell? ⟨w.heap.size, 4, none⟩ = some (.slice pr lr.length cr) := hR1.cell 4
  have g3 : w1.cell? ⟨w.heap.size + 1, 3, none⟩ = some (.slice pf le.length cf) := hQ1.cell 3
  go_wp2_with fail
  refine (small18_any lr le _ _ w1 hr1 hf1 HRB.out HFB.out).mono ?_
  rintro e w2 ⟨rfl, hb2⟩
  rw [HSA.out, HSB.out]
  have hw2 := Bl.tr hw1 hb2
  have hQ2 := hQ1.on hb2
  have hR2 := hR1.on hb2
  have hr2 := (hr1.below hb2).mono hb2.size
  have hf2 := (hf1.below hb2).mono hb2.size
  clear hw1 hQ1 hR1 hr1 hf1 hb2 g3 g4
  cases sa with
  | false =>
    go_wp2
    go_ret
    exact ⟨rfl, hw2⟩
  | true =>
  cases sb with
  | false =>
    go_wp2
    go_ret
    exact ⟨rfl, hw2⟩
  | true =>
  have hs1 := HS1.out rfl
  have hs2 := HS2.out rfl
  have hlen := fsum_length le
  have hfs0 : fsum (le ++ [f0B]) ≤ 10000 := by rw [fsum_append, show fsum [f0B] = fsum [f0B] from rfl]; have : fsum [f0B] ≤ 1000 := (by decide); omega
  have hfs5 : fsum (le ++ [f5B]) ≤ 10000 := by rw [fsum_append]; have : fsum [f5B] ≤ 1000 := (by decide); omega
  have hfs1 : fsum ((le ++ [f5B]) ++ [f1B]) ≤ 20000 := by rw [fsum_append]; have : fsum [f1B] ≤ 1000 := (by decide); omega
  have hlen2 := fsum_length (le ++ [f5B])
  have N0 : Hid (storF rm st lr (le ++ [f0B]) = false) := Lib.hid (stor_no (by rw [f0B, readC_adds le 0 (by decide)]; rfl))
  have N5 : Hid (goodF lr (le ++ [f5B]) st asked came now = true → ageF (le ++ [f5B]) asked came now < lifeF (le ++ [f5B]) st came) := Lib.hid (fun h => good_must (b := readC (le ++ [f5B])) (by rw [f5B, readC_adds2 le 5 (by decide)]; rfl) h)
  have N1 : Hid (goodF lr ((le ++ [f5B]) ++ [f1B]) st asked came now = false) := Lib.hid (good_noCache (b := readC ((le ++ [f5B]) ++ [f1B])) (by rw [f1B, readC_adds2 _ 1 (by decide)]; rfl))
  have C0 := Lib.hid (fun v w h h' => Storable_any ⟨rm, rs, ra, rp, .slice pr lr.length cr⟩ st v lr (le ++ [f0B]) w h h' (by omega) (by omega))
  have C5 := Lib.hid (fun (G : Bool) v hG w h h' => Good_at G ⟨rm, rs, ra, rp, .slice pr lr.length cr⟩ ⟨key, vp, st, v, body, asked, came⟩ lr (le ++ [f5B]) now hG w h h' (by omega) (by omega))
  have CA := Lib.hid (fun (A : Nat) v hA w h => Age_at A ⟨key, vp, st, v, body, asked, came⟩ (le ++ [f5B]) now hA w h (by omega))
  have CL := Lib.hid (fun (A : Nat) v hA w h => Lifetime_at A ⟨key, vp, st, v, body, asked, came⟩ (le ++ [f5B]) hA w h (by omega))
  have C1 := Lib.hid (fun (G : Bool) v hG w h h' => Good_at G ⟨rm, rs, ra, rp, .slice pr lr.length cr⟩ ⟨key, vp, st, v, body, asked, came⟩ lr ((le ++ [f5B]) ++ [f1B]) now hG w h h' (by omega) (by omega))
  simp only [Rq.val, En.val] at C0 C5 CA CL C1
  rw [N0.out] at C0
  (have x0 : w2.cell? ⟨w.heap.size, 0, none⟩ = some (S rm) := hR2.cell 0; have x1 : w2.cell? ⟨w.heap.size, 1, none⟩ = some (S rs) := hR2.cell 1; have x2 : w2.cell? ⟨w.heap.size, 2, none⟩ = some (S ra) := hR2.cell 2; have x3 : w2.cell? ⟨w.heap.size, 3, none⟩ = some (S rp) := hR2.cell 3; have x4 : w2.cell? ⟨w.heap.size, 4, none⟩ = some (.slice pr lr.length cr) := hR2.cell 4)
  (have y0 : w2.cell? ⟨w.heap.size + 1, 0, none⟩ = some (S key) := hQ2.cell 0; have y1 : w2.cell? ⟨w.heap.size + 1, 1, none⟩ = some (vp) := hQ2.cell 1; have y2 : w2.cell? ⟨w.heap.size + 1, 2, none⟩ = some (.int .i64 st) := hQ2.cell 2; have y3 : w2.cell? ⟨w.heap.size + 1, 3, none⟩ = some (.slice pf le.length cf) := hQ2.cell 3; have y4 : w2.cell? ⟨w.heap.size + 1, 4, none⟩ = some (S body) := hQ2.cell 4; have y5 : w2.cell? ⟨w.heap.size + 1, 5, none⟩ = some (.int .i64 asked) := hQ2.cell 5; have y6 : w2.cell? ⟨w.heap.size + 1, 6, none⟩ = some (.int .i64 came) := hQ2.cell 6)
  have m3 : (w2.alloc (.cells #[] 35)).cell? ⟨w.heap.size + 1, 3, none⟩ = some (.slice pf le.length cf) := (hQ2.alloc _).cell 3
  go_wp2_with (first
    | (at_builtin; refine wpList_appFG rfl _ _ 22 rfl w2.heap.size Tryz.underlying22 (by kernel_rfl) _ _ _ rfl hown3 rfl (by have := hlen; have := hlen2; omega) (by have := hb3.size; simp at this; omega) rfl ?_; intro a4 c4 w4 ho4 hb4 hz4 hg4; have hx4 : Below w2.heap.size w2 w4 := (((Below.refl w2.heap.size w2).alloc (Nat.le_refl _) _).trans hb3).trans hb4; have hR4 := hR2.below hx4 hR2.lt; have hQ4 := hQ2.below hx4 hQ2.lt; (have x0 : w4.cell? ⟨w.heap.size, 0, none⟩ = some (S rm) := hR4.cell 0; have x1 : w4.cell? ⟨w.heap.size, 1, none⟩ = some (S rs) := hR4.cell 1; have x2 : w4.cell? ⟨w.heap.size, 2, none⟩ = some (S ra) := hR4.cell 2; have x3 : w4.cell? ⟨w.heap.size, 3, none⟩ = some (S rp) := hR4.cell 3; have x4 : w4.cell? ⟨w.heap.size, 4, none⟩ = some (.slice pr lr.length cr) := hR4.cell 4); (have y0 : w4.cell? ⟨w.heap.size + 1, 0, none⟩ = some (S key) := hQ4.cell 0; have y1 : w4.cell? ⟨w.heap.size + 1, 1, none⟩ = some (vp) := hQ4.cell 1; have y2 : w4.cell? ⟨w.heap.size + 1, 2, none⟩ = some (.int .i64 st) := hQ4.cell 2; have y3 : w4.cell? ⟨w.heap.size + 1, 3, none⟩ = some (.slice pf le.length cf) := hQ4.cell 3; have y4 : w4.cell? ⟨w.heap.size + 1, 4, none⟩ = some (S body) := hQ4.cell 4; have y5 : w4.cell? ⟨w.heap.size + 1, 5, none⟩ = some (.int .i64 asked) := hQ4.cell 5; have y6 : w4.cell? ⟨w.heap.size + 1, 6, none⟩ = some (.int .i64 came) := hQ4.cell 6))
    | (at_builtin; refine wpList_appRd rfl _ _ 22 rfl w2.heap.size 35 (.agg #[.string ByteArray.empty, .string ByteArray.empty, .bool false]) 3 40 Tryz.underlying22 (by kernel_rfl) rfl (by decide) _ _ _ rfl (by exact own_lit _ w2.heap.size rfl w2.heap.size (Nat.le_refl _) _ _) _ _ _ _ rfl (by exact hf2.below ((Below.refl _ _).alloc (Nat.le_refl _) _)) (fcells_one _) (by unfold maxLen; omega) (by omega) (by simp) ?_; intro a3 c3 w3 hown3 hb3; simp only [Nat.zero_add, List.nil_append] at hown3))
  have hF4 : Fs w4.heap.size w4 (.slice a4 (le.length + 1) c4) (le ++ [f0B]) := by
    have h1 : w4.ownsRow w2.heap.size 35 3 (.slice a4 (le.length + 1) c4) (le ++ [f0B]).length (fcells (le ++ [f0B])) := by rw [fcells_append, List.length_append]; exact ho4
    exact Fs.own h1
  have hr4 := (hr2.below hx4).mono hx4.size
  have hf4 := (hf2.below hx4).mono hx4.size
  have hw4 := Bl.tr hw2 hx4
  refine (C0.out (.slice a4 (le.length + 1) c4) w4 hr4 hF4).mono ?_
  rintro e w5 ⟨rfl, hb5⟩
  have hR5 := hR4.on hb5
  have hQ5 := hQ4.on hb5
  have hr5 := (hr4.below hb5).mono hb5.size
  have hf5 := (hf4.below hb5).mono hb5.size
  have hw5 := Bl.tr hw4 hb5
  have hlt5 := hQ5.lt
  clear m3 x0 x1 x2 x3 x4 y0 y1 y2 y3 y4 y5 y6 hR2 hQ2 hr2 hf2 hw2 hown3 hb3 ho4 hb4 hz4 hg4 hx4 hR4 hQ4 hF4 hr4 hf4 hw4 hb5 C0 N0
  (have x0 : w5.cell? ⟨w.heap.size, 0, none⟩ = some (S rm) := hR5.cell 0; have x1 : w5.cell? ⟨w.heap.size, 1, none⟩ = some (S rs) := hR5.cell 1; have x2 : w5.cell? ⟨w.heap.size, 2, none⟩ = some (S ra) := hR5.cell 2; have x3 : w5.cell? ⟨w.heap.size, 3, none⟩ = some (S rp) := hR5.cell 3; have x4 : w5.cell? ⟨w.heap.size, 4, none⟩ = some (.slice pr lr.length cr) := hR5.cell 4)
  (have y0 : w5.cell? ⟨w.heap.size + 1, 0, none⟩ = some (S key) := hQ5.cell 0; have y1 : w5.cell? ⟨w.heap.size + 1, 1, none⟩ = some (vp) := hQ5.cell 1; have y2 : w5.cell? ⟨w.heap.size + 1, 2, none⟩ = some (.int .i64 st) := hQ5.cell 2; have y3 : w5.cell? ⟨w.heap.size + 1, 3, none⟩ = some (.slice pf le.length cf) := hQ5.cell 3; have y4 : w5.cell? ⟨w.heap.size + 1, 4, none⟩ = some (S body) := hQ5.cell 4; have y5 : w5.cell? ⟨w.heap.size + 1, 5, none⟩ = some (.int .i64 asked) := hQ5.cell 5; have y6 : w5.cell? ⟨w.heap.size + 1, 6, none⟩ = some (.int .i64 came) := hQ5.cell 6)
  have m3 : (w5.alloc (.cells #[] 35)).cell? ⟨w.heap.size + 1, 3, none⟩ = some (.slice pf le.length cf) := (hQ5.alloc _).cell 3
  go_upto_region 9 with (first
    | (at_builtin; refine wpList_appFG rfl _ _ 22 rfl w5.heap.size Tryz.underlying22 (by kernel_rfl) _ _ _ rfl hown6 rfl (by have := hlen; have := hlen2; omega) (by have := hb6.size; simp at this; omega) rfl ?_; intro a7 c7 w7 ho7 hb7 hz7 hg7; have hx7 : Below w5.heap.size w5 w7 := (((Below.refl w5.heap.size w5).alloc (Nat.le_refl _) _).trans hb6).trans hb7; have hR7 := hR5.below hx7 hR5.lt; have hQ7 := hQ5.below hx7 hQ5.lt; have k3 : w7.cell? ⟨w.heap.size + 1, 3, none⟩ = some (.slice pf le.length cf) := hQ7.cell 3; have f3 := hQ7.free 3)
    | (at_builtin; refine wpList_appRd rfl _ _ 22 rfl w5.heap.size 35 (.agg #[.string ByteArray.empty, .string ByteArray.empty, .bool false]) 3 40 Tryz.underlying22 (by kernel_rfl) rfl (by decide) _ _ _ rfl (by exact own_lit _ w5.heap.size rfl w5.heap.size (Nat.le_refl _) _ _) _ _ _ _ rfl (by exact hf5.below ((Below.refl _ _).alloc (Nat.le_refl _) _)) (fcells_one _) (by unfold maxLen; omega) (by omega) (by simp) ?_; intro a6 c6 w6 hown6 hb6; simp only [Nat.zero_add, List.nil_append] at hown6))
  have hV8 : w7.ownsRow w5.heap.size 35 3 (.slice a7 (le.length + 1) c7) (le ++ [f5B]).length (fcells (le ++ [f5B])) := by rw [fcells_append, List.length_append]; exact ho7
  have ho8 := ownsRow_setCell_below hV8 (a := ⟨w.heap.size + 1, 3, none⟩) hlt5 (.slice a7 (le.length + 1) c7)
  have hQ8 : Blk (w7.setCell ⟨w.heap.size + 1, 3, none⟩ (.slice a7 (le.length + 1) c7)) (w.heap.size + 1) 33 #[S key, vp, .int .i64 st, .slice a7 (le.length + 1) c7, S body, .int .i64 asked, .int .i64 came] := by simpa using hQ7.set 3 (.slice a7 (le.length + 1) c7)
  have hR8 := hR7.other (p := ⟨w.heap.size + 1, 3, none⟩) (by simp) (.slice a7 (le.length + 1) c7)
  have hw8 := (Bl.tr hw5 hx7).setCell (p := ⟨w.heap.size + 1, 3, none⟩) (Nat.le_succ _) (.slice a7 (le.length + 1) c7)
  have hr8 : Fs (w7.setCell ⟨w.heap.size + 1, 3, none⟩ (.slice a7 (le.length + 1) c7)).heap.size (w7.setCell ⟨w.heap.size + 1, 3, none⟩ (.slice a7 (le.length + 1) c7)) (.slice pr lr.length cr) lr := (hr.below hw8).mono hw8.size
  clear m3 x0 x1 x2 x3 x4 y0 y1 y2 y3 y4 y5 y6 hR5 hQ5 hr5 hf5 hown6 hb6 ho7 hb7 hz7 hg7 hx7 hR7 hQ7 k3 f3 hV8 hlt5 hw5
  generalize w7.setCell ⟨w.heap.size + 1, 3, none⟩ (.slice a7 (le.length + 1) c7) = w8 at *
  have hF8 : Fs w8.heap.size w8 (.slice a7 (le.length + 1) c7) (le ++ [f5B]) := Fs.own ho8
  have hl5 : le.length + 1 = (le ++ [f5B]).length := by simp
  rw [hl5] at hQ8 hF8 ⊢
  clear ho8 hl5
  generalize le ++ [f5B] = L5 at *
  obtain ⟨G, hG⟩ : ∃ G, goodF lr L5 st asked came now = G := ⟨_, rfl⟩
  obtain ⟨A, hA⟩ : ∃ A, ageF L5 asked came now = A := ⟨_, rfl⟩
  obtain ⟨V, hV⟩ : ∃ V, lifeF L5 st came = V := ⟨_, rfl⟩
  rw [hG, hA, hV] at N5
  have hAl : A ≤ 1099511627776 := by rw [← hA]; exact ageF_le _ _ _ _
  have hVl : V ≤ 1099511627776 := by rw [← hV]; exact lifeF_le _ _ _ (by omega)
  have HG := Lib.hid hG
  have HA := Lib.hid hA
  have HV := Lib.hid hV
  clear hG hA hV
  (have x0 : w8.cell? ⟨w.heap.size, 0, none⟩ = some (S rm) := hR8.cell 0; have x1 : w8.cell? ⟨w.heap.size, 1, none⟩ = some (S rs) := hR8.cell 1; have x2 : w8.cell? ⟨w.heap.size, 2, none⟩ = some (S ra) := hR8.cell 2; have x3 : w8.cell? ⟨w.heap.size, 3, none⟩ = some (S rp) := hR8.cell 3; have x4 : w8.cell? ⟨w.heap.size, 4, none⟩ = some (.slice pr lr.length cr) := hR8.cell 4)
  (have y0 : w8.cell? ⟨w.heap.size + 1, 0, none⟩ = some (S key) := hQ8.cell 0; have y1 : w8.cell? ⟨w.heap.size + 1, 1, none⟩ = some (vp) := hQ8.cell 1; have y2 : w8.cell? ⟨w.heap.size + 1, 2, none⟩ = some (.int .i64 st) := hQ8.cell 2; have y3 : w8.cell? ⟨w.heap.size + 1, 3, none⟩ = some (.slice a7 L5.length c7) := hQ8.cell 3; have y4 : w8.cell? ⟨w.heap.size + 1, 4, none⟩ = some (S body) := hQ8.cell 4; have y5 : w8.cell? ⟨w.heap.size + 1, 5, none⟩ = some (.int .i64 asked) := hQ8.cell 5; have y6 : w8.cell? ⟨w.heap.size + 1, 6, none⟩ = some (.int .i64 came) := hQ8.cell 6)
  cases G with
  | false =>
    refine wp_region_held_drew (S := (fun w' => (w'.cell? ⟨w.heap.size, 0, none⟩ = some (S rm) ∧ w'.cell? ⟨w.heap.size, 1, none⟩ = some (S rs) ∧ w'.cell? ⟨w.heap.size, 2, none⟩ = some (S ra) ∧ w'.cell? ⟨w.heap.size, 3, none⟩ = some (S rp) ∧ w'.cell? ⟨w.heap.size, 4, none⟩ = some (.slice pr lr.length cr)) ∧ w'.cell? ⟨w.heap.size + 1, 0, none⟩ = some (S key) ∧ w'.cell? ⟨w.heap.size + 1, 1, none⟩ = some (vp) ∧ w'.cell? ⟨w.heap.size + 1, 2, none⟩ = some (.int .i64 st) ∧ w'.cell? ⟨w.heap.size + 1, 3, none⟩ = some (.slice a7 L5.length c7) ∧ w'.cell? ⟨w.heap.size + 1, 4, none⟩ = some (S body) ∧ w'.cell? ⟨w.heap.size + 1, 5, none⟩ = some (.int .i64 asked) ∧ w'.cell? ⟨w.heap.size + 1, 6, none⟩ = some (.int .i64 came))) (by kernel_rfl) ⟨⟨x0, x1, x2, x3, x4⟩, y0, y1, y2, y3, y4, y5, y6⟩ (fun hHeld => ?_)
    refine wpAnyH_take (i := 0) (v := ?_) (by rfl) (by kernel_rfl) (by kernel_rfl) (by kernel_rfl) (by exact fun _ _ _ h => h) (Or.inl ⟨by rfl, ?_⟩) hHeld ?_
    rotate_left
    · (intro w hSw; (try dsimp only at hSw); go_simp; try with_reducible rfl)
    simp only [Act.put, List.getElem_toArray, List.getElem_cons_succ, List.getElem_cons_zero, List.setIfInBounds_toArray, List.set_cons_zero, List.set_cons_succ]
    refine wpAnyH_take (i := 1) (v := ?_) (by rfl) (by kernel_rfl) (by kernel_rfl) (by kernel_rfl) (by exact fun _ _ _ h => h) (Or.inl ⟨by rfl, ?_⟩) hHeld ?_
    rotate_left
    · (intro w hSw; (try dsimp only at hSw); go_simp; try with_reducible rfl)
    simp only [Act.put, List.getElem_toArray, List.getElem_cons_succ, List.getElem_cons_zero, List.setIfInBounds_toArray, List.set_cons_zero, List.set_cons_succ]
    refine wpAnyH_take (i := 2) (v := ?_) (by rfl) (by kernel_rfl) (by kernel_rfl) (by kernel_rfl) (by exact fun _ _ _ h => h) (Or.inl ⟨by rfl, ?_⟩) hHeld ?_
    rotate_left
    · (intro w hSw; (try dsimp only at hSw); go_simp; try with_reducible rfl)
    simp only [Act.put, List.getElem_toArray, List.getElem_cons_succ, List.getElem_cons_zero, List.setIfInBounds_toArray, List.set_cons_zero, List.set_cons_succ]
    refine wpAnyH_ready (rs := [3]) (by kernel_rfl) (by simp) ?_
    refine AllReadyH.cons (by rfl) (fun K hK => ?_) AllReadyH.nil
    go_simp
    (with_reducible refine (C5.out false (.slice a7 L5.length c7) HG.out w8.drew hr8.drew hF8.drew).mono ?_); rintro e w9 ⟨rfl, hb9⟩; replace hb9 := Bl.undrew hb9; have hw9 := Bl.tr hw8 hb9; have hQ9 := hQ8.on hb9; have hR9 := hR8.on hb9; have hF9 := (hF8.below hb9).mono hb9.size; (have x0 : w9.cell? ⟨w.heap.size, 0, none⟩ = some (S rm) := hR9.cell 0; have x1 : w9.cell? ⟨w.heap.size, 1, none⟩ = some (S rs) := hR9.cell 1; have x2 : w9.cell? ⟨w.heap.size, 2, none⟩ = some (S ra) := hR9.cell 2; have x3 : w9.cell? ⟨w.heap.size, 3, none⟩ = some (S rp) := hR9.cell 3; have x4 : w9.cell? ⟨w.heap.size, 4, none⟩ = some (.slice pr lr.length cr) := hR9.cell 4); (have y0 : w9.cell? ⟨w.heap.size + 1, 0, none⟩ = some (S key) := hQ9.cell 0; have y1 : w9.cell? ⟨w.heap.size + 1, 1, none⟩ = some (vp) := hQ9.cell 1; have y2 : w9.cell? ⟨w.heap.size + 1, 2, none⟩ = some (.int .i64 st) := hQ9.cell 2; have y3 : w9.cell? ⟨w.heap.size + 1, 3, none⟩ = some (.slice a7 L5.length c7) := hQ9.cell 3; have y4 : w9.cell? ⟨w.heap.size + 1, 4, none⟩ = some (S body) := hQ9.cell 4; have y5 : w9.cell? ⟨w.heap.size + 1, 5, none⟩ = some (.int .i64 asked) := hQ9.cell 5; have y6 : w9.cell? ⟨w.heap.size + 1, 6, none⟩ = some (.int .i64 came) := hQ9.cell 6)
    refine hK.out _ _ ⟨⟨x0, x1, x2, x3, x4⟩, y0, y1, y2, y3, y4, y5, y6⟩ (fun hHeld => ?_)
    clear hK K
    try simp only [Act.put, List.getElem_toArray, List.getElem_cons_succ, List.getElem_cons_zero, List.setIfInBounds_toArray, List.set_cons_zero, List.set_cons_succ]
    refine wpAnyH_take (i := 4) (v := ?_) (by rfl) (by kernel_rfl) (by kernel_rfl) (by kernel_rfl) (by exact fun _ _ _ h => h) (Or.inl ⟨by rfl, ?_⟩) hHeld ?_
    rotate_left
    · (intro w hSw; (try dsimp only at hSw); go_simp; try with_reducible rfl)
    simp only [Act.put, List.getElem_toArray, List.getElem_cons_succ, List.getElem_cons_zero, List.setIfInBounds_toArray, List.set_cons_zero, List.set_cons_succ]
    refine wpAnyH_take (i := 5) (v := undef) (by rfl) (by kernel_rfl) (by kernel_rfl) (by kernel_rfl) (by exact fun _ _ _ h => h) (Or.inr ⟨by rfl, rfl⟩) hHeld ?_
    simp only [Act.put, List.getElem_toArray, List.getElem_cons_succ, List.getElem_cons_zero, List.setIfInBounds_toArray, List.set_cons_zero, List.set_cons_succ]
    refine wpAnyH_take (i := 6) (v := undef) (by rfl) (by kernel_rfl) (by kernel_rfl) (by kernel_rfl) (by exact fun _ _ _ h => h) (Or.inr ⟨by rfl, rfl⟩) hHeld ?_
    simp only [Act.put, List.getElem_toArray, List.getElem_cons_succ, List.getElem_cons_zero, List.setIfInBounds_toArray, List.set_cons_zero, List.set_cons_succ]
    refine wpAnyH_take (i := 7) (v := undef) (by rfl) (by kernel_rfl) (by kernel_rfl) (by kernel_rfl) (by exact fun _ _ _ h => h) (Or.inr ⟨by rfl, rfl⟩) hHeld ?_
    simp only [Act.put, List.getElem_toArray, List.getElem_cons_succ, List.getElem_cons_zero, List.setIfInBounds_toArray, List.set_cons_zero, List.set_cons_succ]
    refine wpAnyH_take (i := 8) (v := undef) (by rfl) (by kernel_rfl) (by kernel_rfl) (by kernel_rfl) (by exact fun _ _ _ h => h) (Or.inr ⟨by rfl, rfl⟩) hHeld ?_
    simp only [Act.put, List.getElem_toArray, List.getElem_cons_succ, List.getElem_cons_zero, List.setIfInBounds_toArray, List.set_cons_zero, List.set_cons_succ]
    refine wpAnyH_take (i := 9) (v := undef) (by rfl) (by kernel_rfl) (by kernel_rfl) (by kernel_rfl) (by exact fun _ _ _ h => h) (Or.inr ⟨by rfl, rfl⟩) hHeld ?_
    simp only [Act.put, List.getElem_toArray, List.getElem_cons_succ, List.getElem_cons_zero, List.setIfInBounds_toArray, List.set_cons_zero, List.set_cons_succ]
    refine wpAnyH_take (i := 10) (v := undef) (by rfl) (by kernel_rfl) (by kernel_rfl) (by kernel_rfl) (by exact fun _ _ _ h => h) (Or.inr ⟨by rfl, rfl⟩) hHeld ?_
    simp only [Act.put, List.getElem_toArray, List.getElem_cons_succ, List.getElem_cons_zero, List.setIfInBounds_toArray, List.set_cons_zero, List.set_cons_succ]
    refine wpAnyH_take (i := 11) (v := ?_) (by rfl) (by kernel_rfl) (by kernel_rfl) (by kernel_rfl) (by exact fun _ _ _ h => h) (Or.inl ⟨by rfl, ?_⟩) hHeld ?_
    rotate_left
    · (intro w hSw; (try dsimp only at hSw); go_simp; try with_reducible rfl)
    simp only [Act.put, List.getElem_toArray, List.getElem_cons_succ, List.getElem_cons_zero, List.setIfInBounds_toArray, List.set_cons_zero, List.set_cons_succ]
    try simp only [Act.put, List.getElem_toArray, List.getElem_cons_succ, List.getElem_cons_zero, List.setIfInBounds_toArray, List.set_cons_zero, List.set_cons_succ]
    refine wpAnyH_done (by kernel_rfl) ?_ _
    all_goals
      obtain ⟨w20, rfl⟩ : ∃ w20 : World, w20 = w9 := ⟨_, rfl⟩
      have hQ20 := hQ9
      have hR20 := hR9
      have hF20 := hF9
      have hw20 := hw9
      clear x0 x1 x2 x3 x4 y0 y1 y2 y3 y4 y5 y6
      have hlt20 := hQ20.lt
      (have x0 : w20.cell? ⟨w.heap.size, 0, none⟩ = some (S rm) := hR20.cell 0; have x1 : w20.cell? ⟨w.heap.size, 1, none⟩ = some (S rs) := hR20.cell 1; have x2 : w20.cell? ⟨w.heap.size, 2, none⟩ = some (S ra) := hR20.cell 2; have x3 : w20.cell? ⟨w.heap.size, 3, none⟩ = some (S rp) := hR20.cell 3; have x4 : w20.cell? ⟨w.heap.size, 4, none⟩ = some (.slice pr lr.length cr) := hR20.cell 4)
      (have y0 : w20.cell? ⟨w.heap.size + 1, 0, none⟩ = some (S key) := hQ20.cell 0; have y1 : w20.cell? ⟨w.heap.size + 1, 1, none⟩ = some (vp) := hQ20.cell 1; have y2 : w20.cell? ⟨w.heap.size + 1, 2, none⟩ = some (.int .i64 st) := hQ20.cell 2; have y3 : w20.cell? ⟨w.heap.size + 1, 3, none⟩ = some (.slice a7 L5.length c7) := hQ20.cell 3; have y4 : w20.cell? ⟨w.heap.size + 1, 4, none⟩ = some (S body) := hQ20.cell 4; have y5 : w20.cell? ⟨w.heap.size + 1, 5, none⟩ = some (.int .i64 asked) := hQ20.cell 5; have y6 : w20.cell? ⟨w.heap.size + 1, 6, none⟩ = some (.int .i64 came) := hQ20.cell 6)
      have m3 : (w20.alloc (.cells #[] 35)).cell? ⟨w.heap.size + 1, 3, none⟩ = some (.slice a7 L5.length c7) := (hQ20.alloc _).cell 3
      go_upto_region 12 with (first
          | (at_builtin; refine wpList_appFG rfl _ _ 22 rfl w20.heap.size Tryz.underlying22 (by kernel_rfl) _ _ _ rfl hown21 rfl (by have := hlen; have := hlen2; omega) (by have := hb21.size; simp at this; omega) rfl ?_; intro a22 c22 w22 ho22 hb22 hz22 hg22; have hx22 : Below w20.heap.size w20 w22 := (((Below.refl w20.heap.size w20).alloc (Nat.le_refl _) _).trans hb21).trans hb22; have hR22 := hR20.below hx22 hR20.lt; have hQ22 := hQ20.below hx22 hQ20.lt; have k3 : w22.cell? ⟨w.heap.size + 1, 3, none⟩ = some (.slice a7 L5.length c7) := hQ22.cell 3; have f3 := hQ22.free 3)
          | (at_builtin; refine wpList_appRd rfl _ _ 22 rfl w20.heap.size 35 (.agg #[.string ByteArray.empty, .string ByteArray.empty, .bool false]) 3 40 Tryz.underlying22 (by kernel_rfl) rfl (by decide) _ _ _ rfl (by exact own_lit _ w20.heap.size rfl w20.heap.size (Nat.le_refl _) _ _) _ _ _ _ rfl (by exact hF20.below ((Below.refl _ _).alloc (Nat.le_refl _) _)) (fcells_one _) (by unfold maxLen; omega) (by omega) (by simp) ?_; intro a21 c21 w21 hown21 hb21; simp only [Nat.zero_add, List.nil_append] at hown21))
      have hV22 : w22.ownsRow w20.heap.size 35 3 (.slice a22 (L5.length + 1) c22) (L5 ++ [f1B]).length (fcells (L5 ++ [f1B])) := by rw [fcells_append, List.length_append]; exact ho22
      have ho23 := ownsRow_setCell_below hV22 (a := ⟨w.heap.size + 1, 3, none⟩) hlt20 (.slice a22 (L5.length + 1) c22)
      have hQ23 : Blk (w22.setCell ⟨w.heap.size + 1, 3, none⟩ (.slice a22 (L5.length + 1) c22)) (w.heap.size + 1) 33 #[S key, vp, .int .i64 st, .slice a22 (L5.length + 1) c22, S body, .int .i64 asked, .int .i64 came] := by simpa using hQ22.set 3 (.slice a22 (L5.length + 1) c22)
      have hR23 := hR22.other (p := ⟨w.heap.size + 1, 3, none⟩) (by simp) (.slice a22 (L5.length + 1) c22)
      have hw23 := (Bl.tr hw20 hx22).setCell (p := ⟨w.heap.size + 1, 3, none⟩) (Nat.le_succ _) (.slice a22 (L5.length + 1) c22)
      have hr23 := (hr.below hw23).mono hw23.size
      have hF23 := Fs.own ho23
      clear m3 x0 x1 x2 x3 x4 y0 y1 y2 y3 y4 y5 y6 k3 f3 hQ22 hR22 hb22 hb21 hx22 hV22 ho22 hown21 hz22 hg22 hlt20
      generalize w22.setCell ⟨w.heap.size + 1, 3, none⟩ (.slice a22 (L5.length + 1) c22) = w23 at *
      (have x0 : w23.cell? ⟨w.heap.size, 0, none⟩ = some (S rm) := hR23.cell 0; have x1 : w23.cell? ⟨w.heap.size, 1, none⟩ = some (S rs) := hR23.cell 1; have x2 : w23.cell? ⟨w.heap.size, 2, none⟩ = some (S ra) := hR23.cell 2; have x3 : w23.cell? ⟨w.heap.size, 3, none⟩ = some (S rp) := hR23.cell 3; have x4 : w23.cell? ⟨w.heap.size, 4, none⟩ = some (.slice pr lr.length cr) := hR23.cell 4)
      (have y0 : w23.cell? ⟨w.heap.size + 1, 0, none⟩ = some (S key) := hQ23.cell 0; have y1 : w23.cell? ⟨w.heap.size + 1, 1, none⟩ = some (vp) := hQ23.cell 1; have y2 : w23.cell? ⟨w.heap.size + 1, 2, none⟩ = some (.int .i64 st) := hQ23.cell 2; have y3 : w23.cell? ⟨w.heap.size + 1, 3, none⟩ = some (.slice a22 (L5.length + 1) c22) := hQ23.cell 3; have y4 : w23.cell? ⟨w.heap.size + 1, 4, none⟩ = some (S body) := hQ23.cell 4; have y5 : w23.cell? ⟨w.heap.size + 1, 5, none⟩ = some (.int .i64 asked) := hQ23.cell 5; have y6 : w23.cell? ⟨w.heap.size + 1, 6, none⟩ = some (.int .i64 came) := hQ23.cell 6)
      go_wp2_with fail
      refine (C1.out false (.slice a22 (L5.length + 1) c22) N1.out w23 hr23 hF23).mono ?_
      rintro e w24 ⟨rfl, hb24⟩
      go_wp2
      go_ret
      exact ⟨rfl, Bl.tr hw23 hb24⟩
  | true =>
    have g9 : decide (V ≤ A) = false := by have := N5.out rfl; rw [decide_eq_false_iff_not]; omega
    go_region_held3 (fun w' => (w'.cell? ⟨w.heap.size, 0, none⟩ = some (S rm) ∧ w'.cell? ⟨w.heap.size, 1, none⟩ = some (S rs) ∧ w'.cell? ⟨w.heap.size, 2, none⟩ = some (S ra) ∧ w'.cell? ⟨w.heap.size, 3, none⟩ = some (S rp) ∧ w'.cell? ⟨w.heap.size, 4, none⟩ = some (.slice pr lr.length cr)) ∧ w'.cell? ⟨w.heap.size + 1, 0, none⟩ = some (S key) ∧ w'.cell? ⟨w.heap.size + 1, 1, none⟩ = some (vp) ∧ w'.cell? ⟨w.heap.size + 1, 2, none⟩ = some (.int .i64 st) ∧ w'.cell? ⟨w.heap.size + 1, 3, none⟩ = some (.slice a7 L5.length c7) ∧ w'.cell? ⟨w.heap.size + 1, 4, none⟩ = some (S body) ∧ w'.cell? ⟨w.heap.size + 1, 5, none⟩ = some (.int .i64 asked) ∧ w'.cell? ⟨w.heap.size + 1, 6, none⟩ = some (.int .i64 came))
      (first | go_keep)
      (first
        | (go_at_call 11; (with_reducible refine (C5.out true (.slice a7 L5.length c7) HG.out w8.drew hr8.drew hF8.drew).mono ?_); rintro e w10 ⟨rfl, hb10⟩; replace hb10 := Bl.undrew hb10; have hw10 := Bl.tr hw8 hb10; have hQ10 := hQ8.on hb10; have hR10 := hR8.on hb10; have hF10 := (hF8.below hb10).mono hb10.size; (have x0 : w10.cell? ⟨w.heap.size, 0, none⟩ = some (S rm) := hR10.cell 0; have x1 : w10.cell? ⟨w.heap.size, 1, none⟩ = some (S rs) := hR10.cell 1; have x2 : w10.cell? ⟨w.heap.size, 2, none⟩ = some (S ra) := hR10.cell 2; have x3 : w10.cell? ⟨w.heap.size, 3, none⟩ = some (S rp) := hR10.cell 3; have x4 : w10.cell? ⟨w.heap.size, 4, none⟩ = some (.slice pr lr.length cr) := hR10.cell 4); (have y0 : w10.cell? ⟨w.heap.size + 1, 0, none⟩ = some (S key) := hQ10.cell 0; have y1 : w10.cell? ⟨w.heap.size + 1, 1, none⟩ = some (vp) := hQ10.cell 1; have y2 : w10.cell? ⟨w.heap.size + 1, 2, none⟩ = some (.int .i64 st) := hQ10.cell 2; have y3 : w10.cell? ⟨w.heap.size + 1, 3, none⟩ = some (.slice a7 L5.length c7) := hQ10.cell 3; have y4 : w10.cell? ⟨w.heap.size + 1, 4, none⟩ = some (S body) := hQ10.cell 4; have y5 : w10.cell? ⟨w.heap.size + 1, 5, none⟩ = some (.int .i64 asked) := hQ10.cell 5; have y6 : w10.cell? ⟨w.heap.size + 1, 6, none⟩ = some (.int .i64 came) := hQ10.cell 6))
        | (go_at_call 12; (with_reducible refine (CA.out A (.slice a7 L5.length c7) HA.out w10 hF10).mono ?_); rintro e w11 ⟨rfl, hb11⟩; have hw11 := Bl.tr hw10 hb11; have hQ11 := hQ10.on hb11; have hR11 := hR10.on hb11; have hF11 := (hF10.below hb11).mono hb11.size; (have x0 : w11.cell? ⟨w.heap.size, 0, none⟩ = some (S rm) := hR11.cell 0; have x1 : w11.cell? ⟨w.heap.size, 1, none⟩ = some (S rs) := hR11.cell 1; have x2 : w11.cell? ⟨w.heap.size, 2, none⟩ = some (S ra) := hR11.cell 2; have x3 : w11.cell? ⟨w.heap.size, 3, none⟩ = some (S rp) := hR11.cell 3; have x4 : w11.cell? ⟨w.heap.size, 4, none⟩ = some (.slice pr lr.length cr) := hR11.cell 4); (have y0 : w11.cell? ⟨w.heap.size + 1, 0, none⟩ = some (S key) := hQ11.cell 0; have y1 : w11.cell? ⟨w.heap.size + 1, 1, none⟩ = some (vp) := hQ11.cell 1; have y2 : w11.cell? ⟨w.heap.size + 1, 2, none⟩ = some (.int .i64 st) := hQ11.cell 2; have y3 : w11.cell? ⟨w.heap.size + 1, 3, none⟩ = some (.slice a7 L5.length c7) := hQ11.cell 3; have y4 : w11.cell? ⟨w.heap.size + 1, 4, none⟩ = some (S body) := hQ11.cell 4; have y5 : w11.cell? ⟨w.heap.size + 1, 5, none⟩ = some (.int .i64 asked) := hQ11.cell 5; have y6 : w11.cell? ⟨w.heap.size + 1, 6, none⟩ = some (.int .i64 came) := hQ11.cell 6))
        | (go_at_call 13; (with_reducible refine (CL.out V (.slice a7 L5.length c7) HV.out w11 hF11).mono ?_); rintro e w12 ⟨rfl, hb12⟩; have hw12 := Bl.tr hw11 hb12; have hQ12 := hQ11.on hb12; have hR12 := hR11.on hb12; have hF12 := (hF11.below hb12).mono hb12.size; (have x0 : w12.cell? ⟨w.heap.size, 0, none⟩ = some (S rm) := hR12.cell 0; have x1 : w12.cell? ⟨w.heap.size, 1, none⟩ = some (S rs) := hR12.cell 1; have x2 : w12.cell? ⟨w.heap.size, 2, none⟩ = some (S ra) := hR12.cell 2; have x3 : w12.cell? ⟨w.heap.size, 3, none⟩ = some (S rp) := hR12.cell 3; have x4 : w12.cell? ⟨w.heap.size, 4, none⟩ = some (.slice pr lr.length cr) := hR12.cell 4); (have y0 : w12.cell? ⟨w.heap.size + 1, 0, none⟩ = some (S key) := hQ12.cell 0; have y1 : w12.cell? ⟨w.heap.size + 1, 1, none⟩ = some (vp) := hQ12.cell 1; have y2 : w12.cell? ⟨w.heap.size + 1, 2, none⟩ = some (.int .i64 st) := hQ12.cell 2; have y3 : w12.cell? ⟨w.heap.size + 1, 3, none⟩ = some (.slice a7 L5.length c7) := hQ12.cell 3; have y4 : w12.cell? ⟨w.heap.size + 1, 4, none⟩ = some (S body) := hQ12.cell 4; have y5 : w12.cell? ⟨w.heap.size + 1, 5, none⟩ = some (.int .i64 asked) := hQ12.cell 5; have y6 : w12.cell? ⟨w.heap.size + 1, 6, none⟩ = some (.int .i64 came) := hQ12.cell 6)))
    all_goals
      obtain ⟨w20, rfl⟩ : ∃ w20 : World, w20 = w12 := ⟨_, rfl⟩
      have hQ20 := hQ12
      have hR20 := hR12
      have hF20 := hF12
      have hw20 := hw12
      clear x0 x1 x2 x3 x4 y0 y1 y2 y3 y4 y5 y6
      have hlt20 := hQ20.lt
      (have x0 : w20.cell? ⟨w.heap.size, 0, none⟩ = some (S rm) := hR20.cell 0; have x1 : w20.cell? ⟨w.heap.size, 1, none⟩ = some (S rs) := hR20.cell 1; have x2 : w20.cell? ⟨w.heap.size, 2, none⟩ = some (S ra) := hR20.cell 2; have x3 : w20.cell? ⟨w.heap.size, 3, none⟩ = some (S rp) := hR20.cell 3; have x4 : w20.cell? ⟨w.heap.size, 4, none⟩ = some (.slice pr lr.length cr) := hR20.cell 4)
      (have y0 : w20.cell? ⟨w.heap.size + 1, 0, none⟩ = some (S key) := hQ20.cell 0; have y1 : w20.cell? ⟨w.heap.size + 1, 1, none⟩ = some (vp) := hQ20.cell 1; have y2 : w20.cell? ⟨w.heap.size + 1, 2, none⟩ = some (.int .i64 st) := hQ20.cell 2; have y3 : w20.cell? ⟨w.heap.size + 1, 3, none⟩ = some (.slice a7 L5.length c7) := hQ20.cell 3; have y4 : w20.cell? ⟨w.heap.size + 1, 4, none⟩ = some (S body) := hQ20.cell 4; have y5 : w20.cell? ⟨w.heap.size + 1, 5, none⟩ = some (.int .i64 asked) := hQ20.cell 5; have y6 : w20.cell? ⟨w.heap.size + 1, 6, none⟩ = some (.int .i64 came) := hQ20.cell 6)
      have m3 : (w20.alloc (.cells #[] 35)).cell? ⟨w.heap.size + 1, 3, none⟩ = some (.slice a7 L5.length c7) := (hQ20.alloc _).cell 3
      go_upto_region 12 with (first
          | (at_builtin; refine wpList_appFG rfl _ _ 22 rfl w20.heap.size Tryz.underlying22 (by kernel_rfl) _ _ _ rfl hown21 rfl (by have := hlen; have := hlen2; omega) (by have := hb21.size; simp at this; omega) rfl ?_; intro a22 c22 w22 ho22 hb22 hz22 hg22; have hx22 : Below w20.heap.size w20 w22 := (((Below.refl w20.heap.size w20).alloc (Nat.le_refl _) _).trans hb21).trans hb22; have hR22 := hR20.below hx22 hR20.lt; have hQ22 := hQ20.below hx22 hQ20.lt; have k3 : w22.cell? ⟨w.heap.size + 1, 3, none⟩ = some (.slice a7 L5.length c7) := hQ22.cell 3; have f3 := hQ22.free 3)
          | (at_builtin; refine wpList_appRd rfl _ _ 22 rfl w20.heap.size 35 (.agg #[.string ByteArray.empty, .string ByteArray.empty, .bool false]) 3 40 Tryz.underlying22 (by kernel_rfl) rfl (by decide) _ _ _ rfl (by exact own_lit _ w20.heap.size rfl w20.heap.size (Nat.le_refl _) _ _) _ _ _ _ rfl (by exact hF20.below ((Below.refl _ _).alloc (Nat.le_refl _) _)) (fcells_one _) (by unfold maxLen; omega) (by omega) (by simp) ?_; intro a21 c21 w21 hown21 hb21; simp only [Nat.zero_add, List.nil_append] at hown21))
      have hV22 : w22.ownsRow w20.heap.size 35 3 (.slice a22 (L5.length + 1) c22) (L5 ++ [f1B]).length (fcells (L5 ++ [f1B])) := by rw [fcells_append, List.length_append]; exact ho22
      have ho23 := ownsRow_setCell_below hV22 (a := ⟨w.heap.size + 1, 3, none⟩) hlt20 (.slice a22 (L5.length + 1) c22)
      have hQ23 : Blk (w22.setCell ⟨w.heap.size + 1, 3, none⟩ (.slice a22 (L5.length + 1) c22)) (w.heap.size + 1) 33 #[S key, vp, .int .i64 st, .slice a22 (L5.length + 1) c22, S body, .int .i64 asked, .int .i64 came] := by simpa using hQ22.set 3 (.slice a22 (L5.length + 1) c22)
      have hR23 := hR22.other (p := ⟨w.heap.size + 1, 3, none⟩) (by simp) (.slice a22 (L5.length + 1) c22)
      have hw23 := (Bl.tr hw20 hx22).setCell (p := ⟨w.heap.size + 1, 3, none⟩) (Nat.le_succ _) (.slice a22 (L5.length + 1) c22)
      have hr23 := (hr.below hw23).mono hw23.size
      have hF23 := Fs.own ho23
      clear m3 x0 x1 x2 x3 x4 y0 y1 y2 y3 y4 y5 y6 k3 f3 hQ22 hR22 hb22 hb21 hx22 hV22 ho22 hown21 hz22 hg22 hlt20
      generalize w22.setCell ⟨w.heap.size + 1, 3, none⟩ (.slice a22 (L5.length + 1) c22) = w23 at *
      (have x0 : w23.cell? ⟨w.heap.size, 0, none⟩ = some (S rm) := hR23.cell 0; have x1 : w23.cell? ⟨w.heap.size, 1, none⟩ = some (S rs) := hR23.cell 1; have x2 : w23.cell? ⟨w.heap.size, 2, none⟩ = some (S ra) := hR23.cell 2; have x3 : w23.cell? ⟨w.heap.size, 3, none⟩ = some (S rp) := hR23.cell 3; have x4 : w23.cell? ⟨w.heap.size, 4, none⟩ = some (.slice pr lr.length cr) := hR23.cell 4)
      (have y0 : w23.cell? ⟨w.heap.size + 1, 0, none⟩ = some (S key) := hQ23.cell 0; have y1 : w23.cell? ⟨w.heap.size + 1, 1, none⟩ = some (vp) := hQ23.cell 1; have y2 : w23.cell? ⟨w.heap.size + 1, 2, none⟩ = some (.int .i64 st) := hQ23.cell 2; have y3 : w23.cell? ⟨w.heap.size + 1, 3, none⟩ = some (.slice a22 (L5.length + 1) c22) := hQ23.cell 3; have y4 : w23.cell? ⟨w.heap.size + 1, 4, none⟩ = some (S body) := hQ23.cell 4; have y5 : w23.cell? ⟨w.heap.size + 1, 5, none⟩ = some (.int .i64 asked) := hQ23.cell 5; have y6 : w23.cell? ⟨w.heap.size + 1, 6, none⟩ = some (.int .i64 came) := hQ23.cell 6)
      go_wp2_with fail
      refine (C1.out false (.slice a22 (L5.length + 1) c22) N1.out w23 hr23 hF23).mono ?_
      rintro e w24 ⟨rfl, hb24⟩
      go_wp2
      go_ret
      exact ⟨rfl, Bl.tr hw23 hb24⟩
end Go.Proofs.YtghggooaaefdcabGreatDoor
