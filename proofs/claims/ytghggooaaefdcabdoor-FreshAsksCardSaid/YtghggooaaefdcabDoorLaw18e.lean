
/- FreshAsks. -/
import Derived.Test.YtghggooaaefdcabDoorLaw18a
import Derived.Test.YtghggooaaefdcabDoorDig
namespace Go.Proofs.YtghggooaaefdcabDoor
open Go.RowKit Go.Dr

theorem add18_at (a b c : Bytes) (hc : c = a ++ b) (hl : a.length + b.length ≤ 2000) : ∀ w' : World, (Op.stringOp .add ⟨a.toArray⟩ ⟨b.toArray⟩).run Tryd.prog w' = .ok (S c) w' := fun w' => by
  have := run_string_add_sum (P := Tryd.prog) (w := w') ⟨a.toArray⟩ ⟨b.toArray⟩ (by simp [ByteArray.size]; omega)
  rw [this, ba_append, hc]

set_option linter.unusedSimpArgs false in
set_option maxRecDepth 100000 in
set_option maxHeartbeats 4000000 in
/-- An entry, good for a request that says this. -/
theorem asks_any (b : Bool) (v : Bytes) (q : En) (lf : List F) (now : Int) (hb : goodF [⟨cacheControl, v, false⟩] lf q.st q.asked q.came now = b) (w : World) (hf : Fs w.heap.size w q.vf lf) (hv : v.length ≤ 1000000) (hl2 : fsum lf ≤ 1099511627776) :
    Calls Tryd.prog 9 #[S v, q.val, .int .i64 now] w fun e w' => e = .returned (.bool b) ∧ Below w.heap.size w w' := by
  obtain ⟨pf, cf, hfv, -⟩ := hf.form
  obtain ⟨key, vp, st, vf, body, asked, came⟩ := q
  simp only at hfv hf hb
  subst hfv
  have HB := Lib.hid hb
  clear hb
  obtain ⟨w1, ew1⟩ : ∃ w1 : World, w1 = w.alloc (.cells #[S key, vp, .int .i64 st, .slice pf lf.length cf, S body, .int .i64 asked, .int .i64 came] 25) := ⟨_, rfl⟩
  have hs1 : w1.heap.size = w.heap.size + 1 := by rw [ew1]; simp
  obtain ⟨w0, ew⟩ : ∃ w0 : World, w0 = w1.alloc (.cells #[S [99, 97, 99, 104, 101, 45, 99, 111, 110, 116, 114, 111, 108], S v, .bool false] 38) := ⟨_, rfl⟩
  have hQ1 : Blk w1 w.heap.size 25 #[S key, vp, .int .i64 st, .slice pf lf.length cf, S body, .int .i64 asked, .int .i64 came] := by rw [ew1]; exact Blk.new _ _ _
  have hQ : Blk w0 w.heap.size 25 #[S key, vp, .int .i64 st, .slice pf lf.length cf, S body, .int .i64 asked, .int .i64 came] := by rw [ew]; exact hQ1.alloc _
  have hb0 : Below w.heap.size w w0 := by rw [ew, ew1]; exact ((Below.refl _ _).alloc (Nat.le_refl _) _).alloc (by simp) _
  have hf0 := (hf.below hb0).mono hb0.size
  have hl0 : Fs w0.heap.size w0 (.slice (some ⟨w.heap.size + 1, 0, none⟩) 1 1) [⟨cacheControl, v, false⟩] := by
    have h1 : Fs (w.heap.size + 1 + 1) (w1.alloc (.cells #[S [99, 97, 99, 104, 101, 45, 99, 111, 110, 116, 114, 111, 108], S v, .bool false] 38)) (.slice (some ⟨w.heap.size + 1, 0, none⟩) 1 1) [⟨cacheControl, v, false⟩] := Rd.lit_at w1 (w.heap.size + 1) hs1 38 #[S [99, 97, 99, 104, 101, 45, 99, 111, 110, 116, 114, 111, 108], S v, .bool false] 3 1 rfl (by decide)
    rw [ew]
    exact h1.mono (by simp [hs1])
  simp only [En.val]
  go_enter Tryd.func9, Tryd.ntmps9
  go_upto_region 1 with fail
  rw [← ew1]
  clear ew1
  (have y0 : w0.cell? ⟨w.heap.size, 0, none⟩ = some (S key) := hQ.cell 0; have y1 : w0.cell? ⟨w.heap.size, 1, none⟩ = some (vp) := hQ.cell 1; have y2 : w0.cell? ⟨w.heap.size, 2, none⟩ = some (.int .i64 st) := hQ.cell 2; have y3 : w0.cell? ⟨w.heap.size, 3, none⟩ = some (.slice pf lf.length cf) := hQ.cell 3; have y4 : w0.cell? ⟨w.heap.size, 4, none⟩ = some (S body) := hQ.cell 4; have y5 : w0.cell? ⟨w.heap.size, 5, none⟩ = some (.int .i64 asked) := hQ.cell 5; have y6 : w0.cell? ⟨w.heap.size, 6, none⟩ = some (.int .i64 came) := hQ.cell 6)
  subst ew
  go_wp2_with fail
  refine (Good_at b ⟨[71, 69, 84], [], [], [], .slice (some ⟨w.heap.size + 1, 0, none⟩) 1 1⟩ ⟨key, vp, st, .slice pf lf.length cf, body, asked, came⟩ [⟨cacheControl, v, false⟩] lf now HB.out _ hl0 hf0 (by simp [fsum, cacheControl]; omega) hl2).mono ?_
  rintro e w3 ⟨rfl, hb3⟩
  go_wp2
  go_ret
  exact ⟨rfl, Bl.tr hb0 hb3⟩

set_option linter.unusedSimpArgs false in
set_option maxRecDepth 100000 in
set_option maxHeartbeats 8000000 in
theorem FreshAsks_any (q : En) (now n : Int) (le : List F) (w : World) (hf : Fs w.heap.size w q.vf le) (hfb : FOk le) (hn : 0 ≤ n ∧ n ≤ 65535) :
    Calls Tryd.prog 3 #[q.val, .int .i64 now, .int .u16 n] w fun e w' => e = .returned (.bool true) ∧ Below w.heap.size w w' := by
  obtain ⟨n, rfl⟩ : ∃ k : Nat, n = k := ⟨n.toNat, by omega⟩
  obtain ⟨pf, cf, hfv, -⟩ := hf.form
  obtain ⟨key, vp, st, vf, body, asked, came⟩ := q
  simp only at hfv hf
  subst hfv
  have HFB := Lib.hid hfb
  clear hfb
  obtain ⟨w0, ew⟩ : ∃ w0 : World, w0 = w.alloc (.cells #[S key, vp, .int .i64 st, .slice pf le.length cf, S body, .int .i64 asked, .int .i64 came] 25) := ⟨_, rfl⟩
  have hQ : Blk w0 w.heap.size 25 #[S key, vp, .int .i64 st, .slice pf le.length cf, S body, .int .i64 asked, .int .i64 came] := by rw [ew]; exact Blk.new _ _ _
  have hb0 : Below w.heap.size w w0 := by rw [ew]; exact (Below.refl _ _).alloc (Nat.le_refl _) _
  have hf0 := (hf.below hb0).mono hb0.size
  have hs1 := @smallB_sum le
  clear hf
  simp only [En.val]
  generalize hsa : smallB le = sa at *
  have HSA := Lib.hid hsa
  have HS1 := Lib.hid hs1
  have HNok : Hid (FOk []) := Lib.hid ⟨by simp, by simp⟩
  have HSN : Hid (smallB [] = true) := by show _ = _; decide
  clear hsa hs1
  go_enter Tryd.func3, Tryd.ntmps3
  go_wp2_with fail
  rw [← ew]
  clear ew
  refine (awake18_any w0).mono ?_
  rintro e w1 ⟨rfl, hb1⟩
  have hw1 := Bl.tr hb0 hb1
  have hQ1 := hQ.on hb1
  have hf1 := (hf0.below hb1).mono hb1.size
  clear hb0 hQ hf0 hb1
  have g3 : w1.cell? ⟨w.heap.size, 3, none⟩ = some (.slice pf le.length cf) := hQ1.cell 3
  go_wp2_with fail
  refine (small18_any le [] _ _ w1 hf1 (Rd.nil _ _ _) HFB.out HNok.out).mono ?_
  rintro e w2 ⟨rfl, hb2⟩
  rw [HSA.out, HSN.out]
  have hw2 := Bl.tr hw1 hb2
  have hQ2 := hQ1.on hb2
  have hf2 := (hf1.below hb2).mono hb2.size
  clear hw1 hQ1 hf1 hb2 g3
  cases sa with
  | false =>
    go_wp2
    go_ret
    exact ⟨rfl, hw2⟩
  | true =>
  have hsum := HS1.out rfl
  have hdl := digs_length n 4 (by omega)
  have HAge := Lib.hid (fun (A : Nat) hA w h => Age_at A ⟨key, vp, st, .slice pf le.length cf, body, asked, came⟩ le now hA w h (by omega))
  have HLife := Lib.hid (fun (A : Nat) hA w h => Lifetime_at A ⟨key, vp, st, .slice pf le.length cf, body, asked, came⟩ le hA w h (by omega))
  have HGood := Lib.hid (fun (G : Bool) hG w h => Good_at G ⟨[71, 69, 84], [], [], [], .slice none 0 0⟩ ⟨key, vp, st, .slice pf le.length cf, body, asked, came⟩ [] le now hG w (Rd.nil _ _ _) h (by decide) (by omega))
  have HAsk := Lib.hid (fun (G : Bool) v hG w h hv => asks_any G v ⟨key, vp, st, .slice pf le.length cf, body, asked, came⟩ le now hG w h hv (by omega))
  simp only [Rq.val, En.val] at HAge HLife HGood HAsk
  have HDig := Lib.hid (fun w => refDigits_any n w (by omega))
  have hlife := lifeF_le le st came (by omega)
  have hage := ageF_le le asked came now
  have hn1 : (n : Int) ≤ 65535 := hn.2
  have A1 := asks_law (readC le) (lifeF le st came) (ageF le asked came now) n
  have P1 := plain_law (readC le) (lifeF le st came) (ageF le asked came now) n hage
  have e0 : goodF [⟨cacheControl, noCache, false⟩] le st asked came now = goodB { Ctl.none with nc := true } (readC le) (lifeF le st came) (ageF le asked came now) := by show goodB (saysC noCacheF) _ _ _ = _; rw [says_noCache]
  have e1 : goodF [⟨cacheControl, maxAge ++ 61 :: digs n, false⟩] le st asked came now = goodB { Ctl.none with ma := (n : Int) } (readC le) (lifeF le st came) (ageF le asked came now) := by show goodB (saysC _) _ _ _ = _; rw [says_maxAge n (by omega)]
  have e2 : goodF [⟨cacheControl, minFresh ++ 61 :: digs n, false⟩] le st asked came now = goodB { Ctl.none with mf := (n : Int) } (readC le) (lifeF le st came) (ageF le asked came now) := by show goodB (saysC _) _ _ _ = _; rw [says_minFresh n (by omega)]
  have e3 : goodF [⟨cacheControl, maxStale ++ 61 :: digs n, false⟩] le st asked came now = goodB { Ctl.none with ms := (n : Int) } (readC le) (lifeF le st came) (ageF le asked came now) := by show goodB (saysC _) _ _ _ = _; rw [says_maxStale n (by omega)]
  have e4 : goodF mostAgeF le st asked came now = goodB { Ctl.none with ma := 1099511627776 } (readC le) (lifeF le st came) (ageF le asked came now) := by show goodB (saysC _) _ _ _ = _; rw [says_most]
  have e5 : goodF [] le st asked came now = goodB Ctl.none (readC le) (lifeF le st came) (ageF le asked came now) := by show goodB (saysC _) _ _ _ = _; rw [says_nil]
  rw [A1.1] at e0
  have HE0 := Lib.hid e0
  have HE1 := Lib.hid e1
  have HE2 := Lib.hid e2
  have HE3 := Lib.hid e3
  have HE4 := Lib.hid e4
  have HE5 := Lib.hid e5
  have hA := HAge.out _ rfl
  have hL := HLife.out _ rfl
  clear e0 e1 e2 e3 e4 e5 HAge HLife hn
  generalize hb1 : goodB { Ctl.none with ma := (n : Int) } (readC le) (lifeF le st came) (ageF le asked came now) = b1 at *
  generalize hb2 : goodB { Ctl.none with mf := (n : Int) } (readC le) (lifeF le st came) (ageF le asked came now) = b2 at *
  generalize hb3 : goodB { Ctl.none with ms := (n : Int) } (readC le) (lifeF le st came) (ageF le asked came now) = b3 at *
  generalize hb4 : goodB { Ctl.none with ma := 1099511627776 } (readC le) (lifeF le st came) (ageF le asked came now) = b4 at *
  generalize hb5 : goodB Ctl.none (readC le) (lifeF le st came) (ageF le asked came now) = b5 at *
  clear hb1 hb2 hb3 hb4 hb5
  generalize lifeF le st came = life at *
  generalize ageF le asked came now = age at *
  have HAg := Lib.hid hA
  have HLi := Lib.hid hL
  obtain ⟨-, q1, q2, q3⟩ := A1
  clear hA hL
  have a1 := add18_at [109, 97, 120, 45, 97, 103, 101, 61] (digs n) (maxAge ++ 61 :: digs n) rfl (by simp; omega)
  have l1 : (maxAge ++ 61 :: digs n).length ≤ 100 := by simp [maxAge]; omega
  generalize maxAge ++ 61 :: digs n = v1 at *
  have a2 := add18_at [109, 105, 110, 45, 102, 114, 101, 115, 104, 61] (digs n) (minFresh ++ 61 :: digs n) rfl (by simp; omega)
  have l2 : (minFresh ++ 61 :: digs n).length ≤ 100 := by simp [minFresh]; omega
  generalize minFresh ++ 61 :: digs n = v2 at *
  have a3 := add18_at [109, 97, 120, 45, 115, 116, 97, 108, 101, 61] (digs n) (maxStale ++ 61 :: digs n) rfl (by simp; omega)
  have l3 : (maxStale ++ 61 :: digs n).length ≤ 100 := by simp [maxStale]; omega
  generalize maxStale ++ 61 :: digs n = v3 at *
  generalize digs n = d at *
  (have y0 : w2.cell? ⟨w.heap.size, 0, none⟩ = some (S key) := hQ2.cell 0; have y1 : w2.cell? ⟨w.heap.size, 1, none⟩ = some (vp) := hQ2.cell 1; have y2 : w2.cell? ⟨w.heap.size, 2, none⟩ = some (.int .i64 st) := hQ2.cell 2; have y3 : w2.cell? ⟨w.heap.size, 3, none⟩ = some (.slice pf le.length cf) := hQ2.cell 3; have y4 : w2.cell? ⟨w.heap.size, 4, none⟩ = some (S body) := hQ2.cell 4; have y5 : w2.cell? ⟨w.heap.size, 5, none⟩ = some (.int .i64 asked) := hQ2.cell 5; have y6 : w2.cell? ⟨w.heap.size, 6, none⟩ = some (.int .i64 came) := hQ2.cell 6)
  go_wp2_with fail
  refine (HDig.out w2).mono ?_
  rintro e w3 ⟨rfl, hb3⟩
  have hw3 := Bl.tr hw2 hb3
  have hQ3 := hQ2.on hb3
  have hf3 := (hf2.below hb3).mono hb3.size
  clear y0 y1 y2 y3 y4 y5 y6 hw2 hQ2 hf2 hb3
  (have y0 : w3.cell? ⟨w.heap.size, 0, none⟩ = some (S key) := hQ3.cell 0; have y1 : w3.cell? ⟨w.heap.size, 1, none⟩ = some (vp) := hQ3.cell 1; have y2 : w3.cell? ⟨w.heap.size, 2, none⟩ = some (.int .i64 st) := hQ3.cell 2; have y3 : w3.cell? ⟨w.heap.size, 3, none⟩ = some (.slice pf le.length cf) := hQ3.cell 3; have y4 : w3.cell? ⟨w.heap.size, 4, none⟩ = some (S body) := hQ3.cell 4; have y5 : w3.cell? ⟨w.heap.size, 5, none⟩ = some (.int .i64 asked) := hQ3.cell 5; have y6 : w3.cell? ⟨w.heap.size, 6, none⟩ = some (.int .i64 came) := hQ3.cell 6)
  go_wp2_with fail
  refine (HAg.out w3 hf3).mono ?_
  rintro e w4 ⟨rfl, hb4⟩
  have hw4 := Bl.tr hw3 hb4
  have hQ4 := hQ3.on hb4
  have hf4 := (hf3.below hb4).mono hb4.size
  clear y0 y1 y2 y3 y4 y5 y6 hw3 hQ3 hf3 hb4
  (have y0 : w4.cell? ⟨w.heap.size, 0, none⟩ = some (S key) := hQ4.cell 0; have y1 : w4.cell? ⟨w.heap.size, 1, none⟩ = some (vp) := hQ4.cell 1; have y2 : w4.cell? ⟨w.heap.size, 2, none⟩ = some (.int .i64 st) := hQ4.cell 2; have y3 : w4.cell? ⟨w.heap.size, 3, none⟩ = some (.slice pf le.length cf) := hQ4.cell 3; have y4 : w4.cell? ⟨w.heap.size, 4, none⟩ = some (S body) := hQ4.cell 4; have y5 : w4.cell? ⟨w.heap.size, 5, none⟩ = some (.int .i64 asked) := hQ4.cell 5; have y6 : w4.cell? ⟨w.heap.size, 6, none⟩ = some (.int .i64 came) := hQ4.cell 6)
  go_wp2_with fail
  refine (HLi.out w4 hf4).mono ?_
  rintro e w5 ⟨rfl, hb5⟩
  have hw5 := Bl.tr hw4 hb5
  have hQ5 := hQ4.on hb5
  have hf5 := (hf4.below hb5).mono hb5.size
  clear y0 y1 y2 y3 y4 y5 y6 hw4 hQ4 hf4 hb5
  (have y0 : w5.cell? ⟨w.heap.size, 0, none⟩ = some (S key) := hQ5.cell 0; have y1 : w5.cell? ⟨w.heap.size, 1, none⟩ = some (vp) := hQ5.cell 1; have y2 : w5.cell? ⟨w.heap.size, 2, none⟩ = some (.int .i64 st) := hQ5.cell 2; have y3 : w5.cell? ⟨w.heap.size, 3, none⟩ = some (.slice pf le.length cf) := hQ5.cell 3; have y4 : w5.cell? ⟨w.heap.size, 4, none⟩ = some (S body) := hQ5.cell 4; have y5 : w5.cell? ⟨w.heap.size, 5, none⟩ = some (.int .i64 asked) := hQ5.cell 5; have y6 : w5.cell? ⟨w.heap.size, 6, none⟩ = some (.int .i64 came) := hQ5.cell 6)
  go_wp2_with fail
  refine (HAsk.out false noCache HE0.out w5 hf5 (by decide)).mono ?_
  rintro e w6 ⟨rfl, hb6⟩
  have hw6 := Bl.tr hw5 hb6
  have hQ6 := hQ5.on hb6
  have hf6 := (hf5.below hb6).mono hb6.size
  clear y0 y1 y2 y3 y4 y5 y6 hw5 hQ5 hf5 hb6
  (have y0 : w6.cell? ⟨w.heap.size, 0, none⟩ = some (S key) := hQ6.cell 0; have y1 : w6.cell? ⟨w.heap.size, 1, none⟩ = some (vp) := hQ6.cell 1; have y2 : w6.cell? ⟨w.heap.size, 2, none⟩ = some (.int .i64 st) := hQ6.cell 2; have y3 : w6.cell? ⟨w.heap.size, 3, none⟩ = some (.slice pf le.length cf) := hQ6.cell 3; have y4 : w6.cell? ⟨w.heap.size, 4, none⟩ = some (S body) := hQ6.cell 4; have y5 : w6.cell? ⟨w.heap.size, 5, none⟩ = some (.int .i64 asked) := hQ6.cell 5; have y6 : w6.cell? ⟨w.heap.size, 6, none⟩ = some (.int .i64 came) := hQ6.cell 6)
  have Q1 := Lib.hid q1
  have Q2 := Lib.hid q2
  have Q3 := Lib.hid q3
  have PP := Lib.hid P1
  clear q1 q2 q3 P1
  cases b5 with
  | false =>
    cases b1 <;> cases b2 <;> cases b3
    all_goals
      try have g1 : decide (n < age) = false := by have := Q1.out rfl; rw [decide_eq_false_iff_not]; omega
      try have g2 : decide ((life : Int) - age < n) = false := by have := Q2.out rfl; rw [decide_eq_false_iff_not]; omega
      try have g3 : decide ((n : Int) < (age : Int) - life) = false := by have := Q3.out rfl; rw [decide_eq_false_iff_not]; omega
      go_wp2_with fail
      refine (HAsk.out _ v1 HE1.out w6 hf6 (by omega)).mono ?_
      rintro e w7 ⟨rfl, hb7⟩
      have hw7 := Bl.tr hw6 hb7
      have hQ7 := hQ6.on hb7
      have hf7 := (hf6.below hb7).mono hb7.size
      clear y0 y1 y2 y3 y4 y5 y6 hw6 hQ6 hf6 hb7
      (have y0 : w7.cell? ⟨w.heap.size, 0, none⟩ = some (S key) := hQ7.cell 0; have y1 : w7.cell? ⟨w.heap.size, 1, none⟩ = some (vp) := hQ7.cell 1; have y2 : w7.cell? ⟨w.heap.size, 2, none⟩ = some (.int .i64 st) := hQ7.cell 2; have y3 : w7.cell? ⟨w.heap.size, 3, none⟩ = some (.slice pf le.length cf) := hQ7.cell 3; have y4 : w7.cell? ⟨w.heap.size, 4, none⟩ = some (S body) := hQ7.cell 4; have y5 : w7.cell? ⟨w.heap.size, 5, none⟩ = some (.int .i64 asked) := hQ7.cell 5; have y6 : w7.cell? ⟨w.heap.size, 6, none⟩ = some (.int .i64 came) := hQ7.cell 6)
      go_wp2_with fail
      refine (HAsk.out _ v2 HE2.out w7 hf7 (by omega)).mono ?_
      rintro e w8 ⟨rfl, hb8⟩
      have hw8 := Bl.tr hw7 hb8
      have hQ8 := hQ7.on hb8
      have hf8 := (hf7.below hb8).mono hb8.size
      clear y0 y1 y2 y3 y4 y5 y6 hw7 hQ7 hf7 hb8
      (have y0 : w8.cell? ⟨w.heap.size, 0, none⟩ = some (S key) := hQ8.cell 0; have y1 : w8.cell? ⟨w.heap.size, 1, none⟩ = some (vp) := hQ8.cell 1; have y2 : w8.cell? ⟨w.heap.size, 2, none⟩ = some (.int .i64 st) := hQ8.cell 2; have y3 : w8.cell? ⟨w.heap.size, 3, none⟩ = some (.slice pf le.length cf) := hQ8.cell 3; have y4 : w8.cell? ⟨w.heap.size, 4, none⟩ = some (S body) := hQ8.cell 4; have y5 : w8.cell? ⟨w.heap.size, 5, none⟩ = some (.int .i64 asked) := hQ8.cell 5; have y6 : w8.cell? ⟨w.heap.size, 6, none⟩ = some (.int .i64 came) := hQ8.cell 6)
      go_wp2_with fail
      refine (HAsk.out _ v3 HE3.out w8 hf8 (by omega)).mono ?_
      rintro e w9 ⟨rfl, hb9⟩
      have hw9 := Bl.tr hw8 hb9
      have hQ9 := hQ8.on hb9
      have hf9 := (hf8.below hb9).mono hb9.size
      clear y0 y1 y2 y3 y4 y5 y6 hw8 hQ8 hf8 hb9
      (have y0 : w9.cell? ⟨w.heap.size, 0, none⟩ = some (S key) := hQ9.cell 0; have y1 : w9.cell? ⟨w.heap.size, 1, none⟩ = some (vp) := hQ9.cell 1; have y2 : w9.cell? ⟨w.heap.size, 2, none⟩ = some (.int .i64 st) := hQ9.cell 2; have y3 : w9.cell? ⟨w.heap.size, 3, none⟩ = some (.slice pf le.length cf) := hQ9.cell 3; have y4 : w9.cell? ⟨w.heap.size, 4, none⟩ = some (S body) := hQ9.cell 4; have y5 : w9.cell? ⟨w.heap.size, 5, none⟩ = some (.int .i64 asked) := hQ9.cell 5; have y6 : w9.cell? ⟨w.heap.size, 6, none⟩ = some (.int .i64 came) := hQ9.cell 6)
      go_wp2_with fail
      refine (HGood.out _ HE5.out w9 hf9).mono ?_
      rintro e w10 ⟨rfl, hb10⟩
      have hw10 := Bl.tr hw9 hb10
      have hQ10 := hQ9.on hb10
      have hf10 := (hf9.below hb10).mono hb10.size
      clear y0 y1 y2 y3 y4 y5 y6 hw9 hQ9 hf9 hb10
      (have y0 : w10.cell? ⟨w.heap.size, 0, none⟩ = some (S key) := hQ10.cell 0; have y1 : w10.cell? ⟨w.heap.size, 1, none⟩ = some (vp) := hQ10.cell 1; have y2 : w10.cell? ⟨w.heap.size, 2, none⟩ = some (.int .i64 st) := hQ10.cell 2; have y3 : w10.cell? ⟨w.heap.size, 3, none⟩ = some (.slice pf le.length cf) := hQ10.cell 3; have y4 : w10.cell? ⟨w.heap.size, 4, none⟩ = some (S body) := hQ10.cell 4; have y5 : w10.cell? ⟨w.heap.size, 5, none⟩ = some (.int .i64 asked) := hQ10.cell 5; have y6 : w10.cell? ⟨w.heap.size, 6, none⟩ = some (.int .i64 came) := hQ10.cell 6)
      go_wp2
      go_ret
      exact ⟨rfl, hw10⟩
  | true =>
    obtain ⟨p1, rfl, rfl⟩ := PP.out rfl
    have g5 : decide (age < life) = true := by simpa using p1
    cases b1 <;> cases b2
    all_goals
      try have g1 : decide (n < age) = false := by have := Q1.out rfl; rw [decide_eq_false_iff_not]; omega
      try have g2 : decide ((life : Int) - age < n) = false := by have := Q2.out rfl; rw [decide_eq_false_iff_not]; omega
      try have g3 : decide ((n : Int) < (age : Int) - life) = false := by have := Q3.out rfl; rw [decide_eq_false_iff_not]; omega
      go_wp2_with fail
      refine (HAsk.out _ v1 HE1.out w6 hf6 (by omega)).mono ?_
      rintro e w7 ⟨rfl, hb7⟩
      have hw7 := Bl.tr hw6 hb7
      have hQ7 := hQ6.on hb7
      have hf7 := (hf6.below hb7).mono hb7.size
      clear y0 y1 y2 y3 y4 y5 y6 hw6 hQ6 hf6 hb7
      (have y0 : w7.cell? ⟨w.heap.size, 0, none⟩ = some (S key) := hQ7.cell 0; have y1 : w7.cell? ⟨w.heap.size, 1, none⟩ = some (vp) := hQ7.cell 1; have y2 : w7.cell? ⟨w.heap.size, 2, none⟩ = some (.int .i64 st) := hQ7.cell 2; have y3 : w7.cell? ⟨w.heap.size, 3, none⟩ = some (.slice pf le.length cf) := hQ7.cell 3; have y4 : w7.cell? ⟨w.heap.size, 4, none⟩ = some (S body) := hQ7.cell 4; have y5 : w7.cell? ⟨w.heap.size, 5, none⟩ = some (.int .i64 asked) := hQ7.cell 5; have y6 : w7.cell? ⟨w.heap.size, 6, none⟩ = some (.int .i64 came) := hQ7.cell 6)
      go_wp2_with fail
      refine (HAsk.out _ v2 HE2.out w7 hf7 (by omega)).mono ?_
      rintro e w8 ⟨rfl, hb8⟩
      have hw8 := Bl.tr hw7 hb8
      have hQ8 := hQ7.on hb8
      have hf8 := (hf7.below hb8).mono hb8.size
      clear y0 y1 y2 y3 y4 y5 y6 hw7 hQ7 hf7 hb8
      (have y0 : w8.cell? ⟨w.heap.size, 0, none⟩ = some (S key) := hQ8.cell 0; have y1 : w8.cell? ⟨w.heap.size, 1, none⟩ = some (vp) := hQ8.cell 1; have y2 : w8.cell? ⟨w.heap.size, 2, none⟩ = some (.int .i64 st) := hQ8.cell 2; have y3 : w8.cell? ⟨w.heap.size, 3, none⟩ = some (.slice pf le.length cf) := hQ8.cell 3; have y4 : w8.cell? ⟨w.heap.size, 4, none⟩ = some (S body) := hQ8.cell 4; have y5 : w8.cell? ⟨w.heap.size, 5, none⟩ = some (.int .i64 asked) := hQ8.cell 5; have y6 : w8.cell? ⟨w.heap.size, 6, none⟩ = some (.int .i64 came) := hQ8.cell 6)
      go_wp2_with fail
      refine (HAsk.out _ v3 HE3.out w8 hf8 (by omega)).mono ?_
      rintro e w9 ⟨rfl, hb9⟩
      have hw9 := Bl.tr hw8 hb9
      have hQ9 := hQ8.on hb9
      have hf9 := (hf8.below hb9).mono hb9.size
      clear y0 y1 y2 y3 y4 y5 y6 hw8 hQ8 hf8 hb9
      (have y0 : w9.cell? ⟨w.heap.size, 0, none⟩ = some (S key) := hQ9.cell 0; have y1 : w9.cell? ⟨w.heap.size, 1, none⟩ = some (vp) := hQ9.cell 1; have y2 : w9.cell? ⟨w.heap.size, 2, none⟩ = some (.int .i64 st) := hQ9.cell 2; have y3 : w9.cell? ⟨w.heap.size, 3, none⟩ = some (.slice pf le.length cf) := hQ9.cell 3; have y4 : w9.cell? ⟨w.heap.size, 4, none⟩ = some (S body) := hQ9.cell 4; have y5 : w9.cell? ⟨w.heap.size, 5, none⟩ = some (.int .i64 asked) := hQ9.cell 5; have y6 : w9.cell? ⟨w.heap.size, 6, none⟩ = some (.int .i64 came) := hQ9.cell 6)
      go_wp2_with fail
      refine (HGood.out _ HE5.out w9 hf9).mono ?_
      rintro e w10 ⟨rfl, hb10⟩
      have hw10 := Bl.tr hw9 hb10
      have hQ10 := hQ9.on hb10
      have hf10 := (hf9.below hb10).mono hb10.size
      clear y0 y1 y2 y3 y4 y5 y6 hw9 hQ9 hf9 hb10
      (have y0 : w10.cell? ⟨w.heap.size, 0, none⟩ = some (S key) := hQ10.cell 0; have y1 : w10.cell? ⟨w.heap.size, 1, none⟩ = some (vp) := hQ10.cell 1; have y2 : w10.cell? ⟨w.heap.size, 2, none⟩ = some (.int .i64 st) := hQ10.cell 2; have y3 : w10.cell? ⟨w.heap.size, 3, none⟩ = some (.slice pf le.length cf) := hQ10.cell 3; have y4 : w10.cell? ⟨w.heap.size, 4, none⟩ = some (S body) := hQ10.cell 4; have y5 : w10.cell? ⟨w.heap.size, 5, none⟩ = some (.int .i64 asked) := hQ10.cell 5; have y6 : w10.cell? ⟨w.heap.size, 6, none⟩ = some (.int .i64 came) := hQ10.cell 6)
      go_wp2_with fail
      refine (HAsk.out _ v3 HE3.out w10 hf10 (by omega)).mono ?_
      rintro e w11 ⟨rfl, hb11⟩
      have hw11 := Bl.tr hw10 hb11
      have hQ11 := hQ10.on hb11
      have hf11 := (hf10.below hb11).mono hb11.size
      clear y0 y1 y2 y3 y4 y5 y6 hw10 hQ10 hf10 hb11
      (have y0 : w11.cell? ⟨w.heap.size, 0, none⟩ = some (S key) := hQ11.cell 0; have y1 : w11.cell? ⟨w.heap.size, 1, none⟩ = some (vp) := hQ11.cell 1; have y2 : w11.cell? ⟨w.heap.size, 2, none⟩ = some (.int .i64 st) := hQ11.cell 2; have y3 : w11.cell? ⟨w.heap.size, 3, none⟩ = some (.slice pf le.length cf) := hQ11.cell 3; have y4 : w11.cell? ⟨w.heap.size, 4, none⟩ = some (S body) := hQ11.cell 4; have y5 : w11.cell? ⟨w.heap.size, 5, none⟩ = some (.int .i64 asked) := hQ11.cell 5; have y6 : w11.cell? ⟨w.heap.size, 6, none⟩ = some (.int .i64 came) := hQ11.cell 6)
      go_wp2_with fail
      refine (HAsk.out _ _ HE4.out w11 hf11 (by decide)).mono ?_
      rintro e w12 ⟨rfl, hb12⟩
      have hw12 := Bl.tr hw11 hb12
      have hQ12 := hQ11.on hb12
      have hf12 := (hf11.below hb12).mono hb12.size
      clear y0 y1 y2 y3 y4 y5 y6 hw11 hQ11 hf11 hb12
      (have y0 : w12.cell? ⟨w.heap.size, 0, none⟩ = some (S key) := hQ12.cell 0; have y1 : w12.cell? ⟨w.heap.size, 1, none⟩ = some (vp) := hQ12.cell 1; have y2 : w12.cell? ⟨w.heap.size, 2, none⟩ = some (.int .i64 st) := hQ12.cell 2; have y3 : w12.cell? ⟨w.heap.size, 3, none⟩ = some (.slice pf le.length cf) := hQ12.cell 3; have y4 : w12.cell? ⟨w.heap.size, 4, none⟩ = some (S body) := hQ12.cell 4; have y5 : w12.cell? ⟨w.heap.size, 5, none⟩ = some (.int .i64 asked) := hQ12.cell 5; have y6 : w12.cell? ⟨w.heap.size, 6, none⟩ = some (.int .i64 came) := hQ12.cell 6)
      go_wp2
      go_ret
      exact ⟨rfl, hw12⟩
end Go.Proofs.YtghggooaaefdcabDoor
