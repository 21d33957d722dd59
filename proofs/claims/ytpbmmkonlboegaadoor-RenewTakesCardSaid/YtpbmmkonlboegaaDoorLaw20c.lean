
/- RenewTakes. -/
import Derived.Test.YtpbmmkonlboegaaDoorLaw20a
import Derived.Test.YtpbmmkonlboegaaDoorRenB
namespace Go.Proofs.YtpbmmkonlboegaaDoor
open Go.RowKit Go.Dr

theorem fsum_renewed (le l : List F) : fsum (renewedF le l) ≤ fsum le + fsum l := by
  have := fsum_filter le (notIn (newsOf l))
  have := fsum_news l
  unfold renewedF
  rw [fsum_append]
  omega

set_option linter.unusedSimpArgs false in
set_option maxRecDepth 100000 in
set_option maxHeartbeats 8000000 in
theorem RenewTakes_any (q : En) (lp le l : List F) (t0 t1 : Int) (v : Value) (w : World) (hp : Fs w.heap.size w q.vp lp) (hpb : FOk lp) (hf : Fs w.heap.size w q.vf le) (hfb : FOk le) (hl : Fs w.heap.size w v l) (hlb : FOk l) :
    Calls Tryd.prog 7 #[q.val, v, .agg #[.int .i64 t0, .int .i64 t1]] w fun e w' => e = .returned (.bool true) ∧ Below w.heap.size w w' := by
  obtain ⟨pl, cl, rfl, -⟩ := hl.form
  obtain ⟨pf, cf, hfv, -⟩ := hf.form
  obtain ⟨pp, cp, hpv, -⟩ := hp.form
  obtain ⟨key, vp, st, vf, body, asked, came⟩ := q
  simp only at hfv hf hpv hp
  subst hfv hpv
  have hpl : lp.length * 40 ≤ 140737488351232 := hpb.2
  have HFB := Lib.hid hfb
  have HLB := Lib.hid hlb
  clear hfb hlb hpb
  have hQ := Blk.new w 25 #[S key, .slice pp lp.length cp, .int .i64 st, .slice pf le.length cf, S body, .int .i64 asked, .int .i64 came]
  have hbx : Below w.heap.size w (w.alloc (.cells #[S key, .slice pp lp.length cp, .int .i64 st, .slice pf le.length cf, S body, .int .i64 asked, .int .i64 came] 25)) := (Below.refl _ _).alloc (Nat.le_refl _) _
  have hT := Blk.new (w.alloc (.cells #[S key, .slice pp lp.length cp, .int .i64 st, .slice pf le.length cf, S body, .int .i64 asked, .int .i64 came] 25)) 46 #[.int .i64 t0, .int .i64 t1]
  have hsz : (w.alloc (.cells #[S key, .slice pp lp.length cp, .int .i64 st, .slice pf le.length cf, S body, .int .i64 asked, .int .i64 came] 25)).heap.size = w.heap.size + 1 := by simp
  rw [hsz] at hT
  have hby := hbx.alloc hbx.size (.cells #[.int .i64 t0, .int .i64 t1] 46)
  have hQ0 := hQ.alloc (.cells #[.int .i64 t0, .int .i64 t1] 46)
  have hl0 := (hl.below hby).mono hby.size
  have hf0 := (hf.below hby).mono hby.size
  have hp0 := (hp.below hby).mono hby.size
  have hs1 := @smallB_sum le
  have hs2 := @smallB_sum l
  have hfr := fsum_renewed le l
  clear hl hf hp hbx hQ hsz
  simp only [En.val]
  generalize hsa : smallB le = sa at *
  generalize hsb : smallB l = sb at *
  have HSA := Lib.hid hsa
  have HSB := Lib.hid hsb
  have HS1 := Lib.hid hs1
  have HS2 := Lib.hid hs2
  clear hsa hsb hs1 hs2
  go_enter Tryd.func7, Tryd.ntmps7
  go_wp2_with fail
  generalize (w.alloc (.cells #[S key, .slice pp lp.length cp, .int .i64 st, .slice pf le.length cf, S body, .int .i64 asked, .int .i64 came] 25)).alloc (.cells #[.int .i64 t0, .int .i64 t1] 46) = w0 at *
  refine (awake20_any w0).mono ?_
  rintro e w1 ⟨rfl, hb1⟩
  have hw1 := Bl.tr hby hb1
  have hQ1 := hQ0.on hb1
  have hT1 := hT.on hb1
  have hl1 := (hl0.below hb1).mono hb1.size
  have hf1 := (hf0.below hb1).mono hb1.size
  have hp1 := (hp0.below hb1).mono hb1.size
  clear hby hQ0 hT hl0 hf0 hp0 hb1
  have g3 := hQ1.cell 3
  simp at g3
  go_wp2_with fail
  refine (small20_any le l _ _ w1 hf1 hl1 HFB.out HLB.out).mono ?_
  rintro e w2 ⟨rfl, hb2⟩
  rw [HSA.out, HSB.out]
  have hw2 := Bl.tr hw1 hb2
  have hQ2 := hQ1.on hb2
  have hT2 := hT1.on hb2
  have hl2 := (hl1.below hb2).mono hb2.size
  have hf2 := (hf1.below hb2).mono hb2.size
  have hp2 := (hp1.below hb2).mono hb2.size
  clear hw1 hQ1 hT1 hl1 hf1 hp1 hb2 g3
  have e1 : w2.cell? ⟨w.heap.size, 1, none⟩ = some (.slice pp lp.length cp) := hQ2.cell 1
  cases sa with
  | false =>
    go_wp2
    go_ret
    exact ⟨rfl, hw2⟩
  | true =>
  cases sb with
  | false =>
    go_wp2
    go_ret
    exact ⟨rfl, hw2⟩
  | true =>
  have hs1 := HS1.out rfl
  have hs2 := HS2.out rfl
  by_cases h100 : 100 < lp.length
  · have g100 : decide ((100 : Int) < (lp.length : Int)) = true := by rw [decide_eq_true_iff]; omega
    clear h100
    go_wp2
    go_ret
    exact ⟨rfl, hw2⟩
  have g100 : decide ((100 : Int) < (lp.length : Int)) = false := by rw [decide_eq_false_iff_not]; omega
  clear h100
  have hll := fsum_length l
  have hal : Below w2.heap.size w2 (w2.alloc (.cells #[] 31)) := (Below.refl _ _).alloc (Nat.le_refl _) _
  go_wp2_with (at_builtin; refine wpList_appRd rfl _ _ 23 rfl w2.heap.size 31 (.agg #[.string ByteArray.empty, .string ByteArray.empty, .bool false]) 3 40 Tryd.underlying23 (by kernel_rfl) rfl (by decide) _ _ _ rfl (World.ownsRow_lit (base := w2.heap.size) (e := 31) (size := 3) w2 #[] 0 (Nat.le_refl _) (by decide) rfl) _ _ _ _ rfl (Rd.below hl2 hal) (fcells_one _) (by unfold maxLen; omega) (by omega) (by simp) ?_; intro a3 c3 w3 hown3 hb3; simp only [Nat.zero_add, List.nil_append, List.toList_toArray] at hown3; have hb23 := hal.trans hb3; have hQ3 := hQ2.on hb23; have hT3 := hT2.on hb23; have q0 : w3.cell? ⟨w.heap.size, 0, none⟩ = some (S key) := hQ3.cell 0; have q1 : w3.cell? ⟨w.heap.size, 1, none⟩ = some (.slice pp lp.length cp) := hQ3.cell 1; have q2 : w3.cell? ⟨w.heap.size, 2, none⟩ = some (.int .i64 st) := hQ3.cell 2; have q3 : w3.cell? ⟨w.heap.size, 3, none⟩ = some (.slice pf le.length cf) := hQ3.cell 3; have q4 : w3.cell? ⟨w.heap.size, 4, none⟩ = some (S body) := hQ3.cell 4; have q5 : w3.cell? ⟨w.heap.size, 5, none⟩ = some (.int .i64 asked) := hQ3.cell 5; have q6 : w3.cell? ⟨w.heap.size, 6, none⟩ = some (.int .i64 came) := hQ3.cell 6; have tt0 : w3.cell? ⟨w.heap.size + 1, 0, none⟩ = some (.int .i64 t0) := hT3.cell 0; have tt1 : w3.cell? ⟨w.heap.size + 1, 1, none⟩ = some (.int .i64 t1) := hT3.cell 1)
  have hl3 := (hl2.below hb23).mono hb23.size
  have hf3 := (hf2.below hb23).mono hb23.size
  have hp3 := (hp2.below hb23).mono hb23.size
  have ho3 : Fs w3.heap.size w3 (.slice a3 l.length c3) l := Fs.own hown3
  have hw3 := Bl.tr hw2 hb23
  clear hal hb3 hown3 hQ2 hT2 hl2 hf2 hp2 hb23 hw2 e1
  refine (Renewed_any key body _ _ _ st asked came t0 t1 lp le l w3 hp3 hf3 ho3 (by omega) (by omega) hpl).mono ?_
  rintro e w4 ⟨vp4, vf4, rfl, hvp4, hvf4, hb4⟩
  obtain ⟨p4, k4, rfl, -⟩ := hvp4.form
  have hxf4 : Fs w4.heap.size w4 vf4 (renewedF le l) := Fs.own hvf4
  obtain ⟨f4, m4, rfl, -⟩ := hxf4.form
  have hX := Blk.new w4 25 #[S key, .slice p4 lp.length k4, .int .i64 st, .slice f4 (renewedF le l).length m4, S body, .int .i64 t0, .int .i64 t1]
  have hal : Below w4.heap.size w4 (w4.alloc (.cells #[S key, .slice p4 lp.length k4, .int .i64 st, .slice f4 (renewedF le l).length m4, S body, .int .i64 t0, .int .i64 t1] 25)) := (Below.refl _ _).alloc (Nat.le_refl _) _
  have hb45 := Bl.tr hb4 hal
  have hQ5 := hQ3.on hb45
  have hT5 := hT3.on hb45
  have hl5 := (hl3.below hb45).mono hb45.size
  have hf5 := (hf3.below hb45).mono hb45.size
  have hp5 := (hp3.below hb45).mono hb45.size
  have hxp5 := (hvp4.below hal).mono hal.size
  have hxf5 := (hxf4.below hal).mono hal.size
  have hrow5 := own_below hvf4 hal
  have hz34 := hb4.size
  go_wp2_with fail
  clear hQ3 hT3 hf3 hp3 hvp4 hxf4 hal hb4 q0 q1 q2 q3 q4 q5 q6 tt0 tt1
  generalize hw5e : w4.alloc (.cells #[S key, .slice p4 lp.length k4, .int .i64 st, .slice f4 (renewedF le l).length m4, S body, .int .i64 t0, .int .i64 t1] 25) = w5 at *
  have Hw5 := Lib.hid hw5e
  clear hw5e
  have hXl := hX.lt
  have hQl := hQ5.lt
  have hTl := hT5.lt
  have q0 : w5.cell? ⟨w.heap.size, 0, none⟩ = some (S key) := hQ5.cell 0
  have q1 : w5.cell? ⟨w.heap.size, 1, none⟩ = some (.slice pp lp.length cp) := hQ5.cell 1
  have q2 : w5.cell? ⟨w.heap.size, 2, none⟩ = some (.int .i64 st) := hQ5.cell 2
  have q3 : w5.cell? ⟨w.heap.size, 3, none⟩ = some (.slice pf le.length cf) := hQ5.cell 3
  have q4 : w5.cell? ⟨w.heap.size, 4, none⟩ = some (S body) := hQ5.cell 4
  have q5 : w5.cell? ⟨w.heap.size, 5, none⟩ = some (.int .i64 asked) := hQ5.cell 5
  have q6 : w5.cell? ⟨w.heap.size, 6, none⟩ = some (.int .i64 came) := hQ5.cell 6
  have tt0 : w5.cell? ⟨w.heap.size + 1, 0, none⟩ = some (.int .i64 t0) := hT5.cell 0
  have tt1 : w5.cell? ⟨w.heap.size + 1, 1, none⟩ = some (.int .i64 t1) := hT5.cell 1
  have x0 : w5.cell? ⟨w4.heap.size, 0, none⟩ = some (S key) := hX.cell 0
  have x1 : w5.cell? ⟨w4.heap.size, 1, none⟩ = some (.slice p4 lp.length k4) := hX.cell 1
  have x2 : w5.cell? ⟨w4.heap.size, 2, none⟩ = some (.int .i64 st) := hX.cell 2
  have x3 : w5.cell? ⟨w4.heap.size, 3, none⟩ = some (.slice f4 (renewedF le l).length m4) := hX.cell 3
  have x4 : w5.cell? ⟨w4.heap.size, 4, none⟩ = some (S body) := hX.cell 4
  have x5 : w5.cell? ⟨w4.heap.size, 5, none⟩ = some (.int .i64 t0) := hX.cell 5
  have x6 : w5.cell? ⟨w4.heap.size, 6, none⟩ = some (.int .i64 t1) := hX.cell 6
  go_region_held3 (fun w' => w'.cell? ⟨w.heap.size, 0, none⟩ = some (S key) ∧ w'.cell? ⟨w.heap.size, 1, none⟩ = some (.slice pp lp.length cp) ∧ w'.cell? ⟨w.heap.size, 2, none⟩ = some (.int .i64 st) ∧ w'.cell? ⟨w.heap.size, 3, none⟩ = some (.slice pf le.length cf) ∧ w'.cell? ⟨w.heap.size, 4, none⟩ = some (S body) ∧ w'.cell? ⟨w.heap.size, 5, none⟩ = some (.int .i64 asked) ∧ w'.cell? ⟨w.heap.size, 6, none⟩ = some (.int .i64 came) ∧ w'.cell? ⟨w.heap.size + 1, 0, none⟩ = some (.int .i64 t0) ∧ w'.cell? ⟨w.heap.size + 1, 1, none⟩ = some (.int .i64 t1) ∧ w'.cell? ⟨w4.heap.size, 0, none⟩ = some (S key) ∧ w'.cell? ⟨w4.heap.size, 1, none⟩ = some (.slice p4 lp.length k4) ∧ w'.cell? ⟨w4.heap.size, 2, none⟩ = some (.int .i64 st) ∧ w'.cell? ⟨w4.heap.size, 3, none⟩ = some (.slice f4 (renewedF le l).length m4) ∧ w'.cell? ⟨w4.heap.size, 4, none⟩ = some (S body) ∧ w'.cell? ⟨w4.heap.size, 5, none⟩ = some (.int .i64 t0) ∧ w'.cell? ⟨w4.heap.size, 6, none⟩ = some (.int .i64 t1))
    (first | go_keep)
    (first
      | (go_at_call 29; refine (refRenewed_any key body _ _ _ st asked came t0 t1 lp le l _ (by exact hp5.drew) (by exact hf5.drew) (by exact hl5.drew) (by omega) (by omega)).mono ?_; rintro e w6 ⟨vp6, vf6, rfl, hvp6, hvf6, hb6⟩; replace hb6 := Bl.undrew hb6; have hQ6 := hQ5.on hb6; have hT6 := hT5.on hb6; have hX6 := hX.on hb6; have q0 : w6.cell? ⟨w.heap.size, 0, none⟩ = some (S key) := hQ6.cell 0; have q1 : w6.cell? ⟨w.heap.size, 1, none⟩ = some (.slice pp lp.length cp) := hQ6.cell 1; have q2 : w6.cell? ⟨w.heap.size, 2, none⟩ = some (.int .i64 st) := hQ6.cell 2; have q3 : w6.cell? ⟨w.heap.size, 3, none⟩ = some (.slice pf le.length cf) := hQ6.cell 3; have q4 : w6.cell? ⟨w.heap.size, 4, none⟩ = some (S body) := hQ6.cell 4; have q5 : w6.cell? ⟨w.heap.size, 5, none⟩ = some (.int .i64 asked) := hQ6.cell 5; have q6 : w6.cell? ⟨w.heap.size, 6, none⟩ = some (.int .i64 came) := hQ6.cell 6; have tt0 : w6.cell? ⟨w.heap.size + 1, 0, none⟩ = some (.int .i64 t0) := hT6.cell 0; have tt1 : w6.cell? ⟨w.heap.size + 1, 1, none⟩ = some (.int .i64 t1) := hT6.cell 1; have x0 : w6.cell? ⟨w4.heap.size, 0, none⟩ = some (S key) := hX6.cell 0; have x1 : w6.cell? ⟨w4.heap.size, 1, none⟩ = some (.slice p4 lp.length k4) := hX6.cell 1; have x2 : w6.cell? ⟨w4.heap.size, 2, none⟩ = some (.int .i64 st) := hX6.cell 2; have x3 : w6.cell? ⟨w4.heap.size, 3, none⟩ = some (.slice f4 (renewedF le l).length m4) := hX6.cell 3; have x4 : w6.cell? ⟨w4.heap.size, 4, none⟩ = some (S body) := hX6.cell 4; have x5 : w6.cell? ⟨w4.heap.size, 5, none⟩ = some (.int .i64 t0) := hX6.cell 5; have x6 : w6.cell? ⟨w4.heap.size, 6, none⟩ = some (.int .i64 t1) := hX6.cell 6)
      | (go_at_call 28; refine (EntSame_at key body st t0 t1 lp (renewedF le l) _ _ _ _ w6 ((hxp5.below hb6).mono hb6.size) ((hxf5.below hb6).mono hb6.size) hvp6 (Fs.own hvf6)).mono ?_; rintro e w7 ⟨rfl, hb7⟩; have hQ7 := hQ6.on hb7; have hT7 := hT6.on hb7; have hX7 := hX6.on hb7; have q0 : w7.cell? ⟨w.heap.size, 0, none⟩ = some (S key) := hQ7.cell 0; have q1 : w7.cell? ⟨w.heap.size, 1, none⟩ = some (.slice pp lp.length cp) := hQ7.cell 1; have q2 : w7.cell? ⟨w.heap.size, 2, none⟩ = some (.int .i64 st) := hQ7.cell 2; have q3 : w7.cell? ⟨w.heap.size, 3, none⟩ = some (.slice pf le.length cf) := hQ7.cell 3; have q4 : w7.cell? ⟨w.heap.size, 4, none⟩ = some (S body) := hQ7.cell 4; have q5 : w7.cell? ⟨w.heap.size, 5, none⟩ = some (.int .i64 asked) := hQ7.cell 5; have q6 : w7.cell? ⟨w.heap.size, 6, none⟩ = some (.int .i64 came) := hQ7.cell 6; have tt0 : w7.cell? ⟨w.heap.size + 1, 0, none⟩ = some (.int .i64 t0) := hT7.cell 0; have tt1 : w7.cell? ⟨w.heap.size + 1, 1, none⟩ = some (.int .i64 t1) := hT7.cell 1; have x0 : w7.cell? ⟨w4.heap.size, 0, none⟩ = some (S key) := hX7.cell 0; have x1 : w7.cell? ⟨w4.heap.size, 1, none⟩ = some (.slice p4 lp.length k4) := hX7.cell 1; have x2 : w7.cell? ⟨w4.heap.size, 2, none⟩ = some (.int .i64 st) := hX7.cell 2; have x3 : w7.cell? ⟨w4.heap.size, 3, none⟩ = some (.slice f4 (renewedF le l).length m4) := hX7.cell 3; have x4 : w7.cell? ⟨w4.heap.size, 4, none⟩ = some (S body) := hX7.cell 4; have x5 : w7.cell? ⟨w4.heap.size, 5, none⟩ = some (.int .i64 t0) := hX7.cell 5; have x6 : w7.cell? ⟨w4.heap.size, 6, none⟩ = some (.int .i64 t1) := hX7.cell 6))
  have hb57 := Bl.tr hb6 hb7
  have hrow7 := own_below hrow5 hb57
  have hb37 : Below w3.heap.size w3 w7 := hb45.trans (hb57.mono hb45.size)
  have hXs : w3.heap.size ≤ w4.heap.size := hz34
  clear hQ6 hT6 hX6 hX hQ5 hT5 hf5 hp5 hl5 hxp5 hxf5 hvp6 hvf6 hb6 hb7 hrow5 hQ7 hT7 q0 q1 q2 q3 q4 q5 q6 tt0 tt1
  have hnn : (renewedF le l).length ≤ 1000 := by have := fsum_length (renewedF le l); omega
  generalize (renewedF le l).length = n at *
  have hlt4 : ∀ g, (Value.slice f4 n m4).ownBlock = some g → g < w4.heap.size := fun g hg => (hvf4.lt g hg).2
  clear hvf4 x0 x1 x2 x3 x4 x5 x6
  go_wp2
  go_loopw [9] (fun i wr => ∃ k : Nat, i = .int .i64 k ∧ k ≤ n ∧ Blk wr w4.heap.size 25 #[S key, .slice p4 lp.length k4, .int .i64 st, .slice f4 n m4, S body, .int .i64 t0, .int .i64 t1] ∧ (∃ xs, wr.ownsRow w3.heap.size 31 3 (.slice f4 n m4) n xs) ∧ Below w3.heap.size w3 wr) (fun i _ => n - (intOf i).toNat)
  case atStart => exact ⟨0, rfl, Nat.zero_le _, hX7, ⟨_, hrow7⟩, hb37⟩
  case round =>
    obtain ⟨k, rfl, hk, hXr, ⟨xs, hox⟩, hbel⟩ := hrel
    have x3 : wr.cell? ⟨w4.heap.size, 3, none⟩ = some (.slice f4 n m4) := hXr.cell 3
    by_cases hlt : k < n
    · obtain ⟨g, cap, hv, hbg, hgl, hnc, hpk⟩ := own_poke hox (by omega)
      simp only [Value.slice.injEq, true_and] at hv
      obtain ⟨rfl, rfl⟩ := hv
      have hg4 := hlt4 g rfl
      obtain ⟨⟨u, hu⟩, hfz, hset⟩ := hpk (k * 3) (by omega)
      obtain ⟨xs', hox'⟩ := hset (S [115, 112, 111, 105, 108, 116])
      clear hpk hset hox
      go_wp2
      go_roundw
      case rel => exact ⟨k + 1, by go_num, by omega, hXr.other (by show w4.heap.size ≠ g; omega) _, ⟨xs', hox'⟩, hbel.setCell (by show w3.heap.size ≤ g; omega) _⟩
      case measure => simp [intOf]; omega
    · have hk' : k = n := by omega
      clear hlt
      have g9 : decide (k < n) = false := by simp [hk']
      clear hk'
      go_wp2_with fail
      refine (Fields_at20 l _ _ wr ((ho3.below hbel).mono hbel.size) ((hl3.below hbel).mono hbel.size)).mono ?_
      rintro e w8 ⟨rfl, hb8⟩
      go_wp2
      go_ret
      exact ⟨rfl, Bl.tr (Bl.tr hw3 hbel) hb8⟩
end Go.Proofs.YtpbmmkonlboegaaDoor
