
/- RenewTwice. -/
import Derived.Test.YtpbmmkonlboegaaGreatDoorLaw20a
import Derived.Test.YtpbmmkonlboegaaGreatDoorLaw20P
import Derived.Test.YtpbmmkonlboegaaGreatDoorRen8
import Derived.Test.YtpbmmkonlboegaaGreatDoorFrs1
namespace Go.Proofs.YtpbmmkonlboegaaGreatDoor
open Go.RowKit Go.Dr

theorem fsum_renewed (le l : List F) : fsum (renewedF le l) ≤ fsum le + fsum l := by
  have := fsum_filter le (notIn (newsOf l))
  have := fsum_news l
  unfold renewedF
  rw [fsum_append]
  omega

set_option linter.unusedSimpArgs false in
set_option maxRecDepth 100000 in
set_option maxHeartbeats 8000000 in
theorem RenewTwice_any (q : En) (lp le l : List F) (t : Nat) (v : Value) (w : World) (ht : t ≤ 4294967295) (hp : Fs w.heap.size w q.vp lp) (hpb : FOk lp) (hf : Fs w.heap.size w q.vf le) (hfb : FOk le) (hl : Fs w.heap.size w v l) (hlb : FOk l) :
    Calls Tryz.prog 6 #[q.val, v, .int .u32 t] w fun e w' => e = .returned (.bool true) ∧ Below w.heap.size w w' := by
  obtain ⟨pl, cl, rfl, -⟩ := hl.form
  obtain ⟨pf, cf, hfv, -⟩ := hf.form
  obtain ⟨pp, cp, hpv, -⟩ := hp.form
  obtain ⟨key, vp, st, vf, body, asked, came⟩ := q
  simp only at hfv hf hpv hp
  subst hfv hpv
  have hpl : lp.length * 40 ≤ 140737488351232 := hpb.2
  have HFB := Lib.hid hfb
  have HLB := Lib.hid hlb
  clear hfb hlb hpb
  have hQ := Blk.new w 27 #[S key, .slice pp lp.length cp, .int .i64 st, .slice pf le.length cf, S body, .int .i64 asked, .int .i64 came]
  have hbx : Below w.heap.size w (w.alloc (.cells #[S key, .slice pp lp.length cp, .int .i64 st, .slice pf le.length cf, S body, .int .i64 asked, .int .i64 came] 27)) := (Below.refl _ _).alloc (Nat.le_refl _) _
  have hl0 := (hl.below hbx).mono hbx.size
  have hf0 := (hf.below hbx).mono hbx.size
  have hp0 := (hp.below hbx).mono hbx.size
  have hs1 := @smallB_sum le
  have hs2 := @smallB_sum l
  have hfr := fsum_renewed le l
  have hfr2 := fsum_renewed (renewedF le l) l
  have hfr3 := fsum_renewed le (l ++ [cc77])
  have h77 : fsum (l ++ [cc77]) = fsum l + 55 := by rw [fsum_append]; rfl
  clear hl hf hp
  simp only [En.val]
  generalize hsa : smallB le = sa at *
  generalize hsb : smallB l = sb at *
  have HSA := Lib.hid hsa
  have HSB := Lib.hid hsb
  have HS1 := Lib.hid hs1
  have HS2 := Lib.hid hs2
  clear hsa hsb hs1 hs2
  go_enter Tryz.func6, Tryz.ntmps6
  go_wp2_with fail
  generalize w.alloc (.cells #[S key, .slice pp lp.length cp, .int .i64 st, .slice pf le.length cf, S body, .int .i64 asked, .int .i64 came] 27) = w0 at *
  refine (awake20_any w0).mono ?_
  rintro e w1 ⟨rfl, hb1⟩
  have hw1 := Bl.tr hbx hb1
  have hQ1 := hQ.on hb1
  have hl1 := (hl0.below hb1).mono hb1.size
  have hf1 := (hf0.below hb1).mono hb1.size
  have hp1 := (hp0.below hb1).mono hb1.size
  clear hbx hQ hl0 hf0 hp0 hb1
  have g3 : w1.cell? ⟨w.heap.size, 3, none⟩ = some (.slice pf le.length cf) := hQ1.cell 3
  go_wp2_with fail
  refine (small20_any le l _ _ w1 hf1 hl1 HFB.out HLB.out).mono ?_
  rintro e w2 ⟨rfl, hb2⟩
  rw [HSA.out, HSB.out]
  have hw2 := Bl.tr hw1 hb2
  have hQ2 := hQ1.on hb2
  have hl2 := (hl1.below hb2).mono hb2.size
  have hf2 := (hf1.below hb2).mono hb2.size
  have hp2 := (hp1.below hb2).mono hb2.size
  clear hw1 hQ1 hl1 hf1 hp1 hb2 g3
  (have c0 : w2.cell? ⟨w.heap.size, 0, none⟩ = some (S key) := hQ2.cell 0; have c1 : w2.cell? ⟨w.heap.size, 1, none⟩ = some (.slice pp lp.length cp) := hQ2.cell 1; have c2 : w2.cell? ⟨w.heap.size, 2, none⟩ = some (.int .i64 st) := hQ2.cell 2; have c3 : w2.cell? ⟨w.heap.size, 3, none⟩ = some (.slice pf le.length cf) := hQ2.cell 3; have c4 : w2.cell? ⟨w.heap.size, 4, none⟩ = some (S body) := hQ2.cell 4; have c5 : w2.cell? ⟨w.heap.size, 5, none⟩ = some (.int .i64 asked) := hQ2.cell 5; have c6 : w2.cell? ⟨w.heap.size, 6, none⟩ = some (.int .i64 came) := hQ2.cell 6)
  cases sa with
  | false =>
    go_wp2
    go_ret
    exact ⟨rfl, hw2⟩
  | true =>
  cases sb with
  | false =>
    go_wp2
    go_ret
    exact ⟨rfl, hw2⟩
  | true =>
  have hs1 := HS1.out rfl
  have hs2 := HS2.out rfl
  by_cases h100 : 100 < lp.length
  · have g100 : decide ((100 : Int) < (lp.length : Int)) = true := by rw [decide_eq_true_iff]; omega
    clear h100
    go_wp2
    go_ret
    exact ⟨rfl, hw2⟩
  have g100 : decide ((100 : Int) < (lp.length : Int)) = false := by rw [decide_eq_false_iff_not]; omega
  clear h100
  have hll := fsum_length l
  go_wp2_with fail
  refine (Renewed_any key body _ _ _ st asked came (t : Int) (t : Int) lp le l w2 hp2 hf2 hl2 (by omega) (by omega) hpl).mono ?_
  rintro e w4 ⟨vp4, vf4, rfl, hvp4, hvf4, hb4⟩
  obtain ⟨p4, k4, rfl, -⟩ := hvp4.form
  have hxf4 : Fs w4.heap.size w4 vf4 (renewedF le l) := Fs.own hvf4
  obtain ⟨f4, m4, rfl, -⟩ := hxf4.form
  have hlen : (renewedF le l).length = (renewedF le l).length := rfl
  generalize hn : (renewedF le l).length = n at hxf4 hlen ⊢
  clear hlen hvf4
  have hal : Below w4.heap.size w4 (w4.alloc (.cells #[S key, .slice p4 lp.length k4, .int .i64 st, .slice f4 n m4, S body, .int .i64 t, .int .i64 t] 27)) := (Below.refl _ _).alloc (Nat.le_refl _) _
  have hX := Blk.new w4 27 #[S key, .slice p4 lp.length k4, .int .i64 st, .slice f4 n m4, S body, .int .i64 t, .int .i64 t]
  have hb45 := Bl.tr hb4 hal
  have hQ5 := hQ2.on hb45
  have hl5 := (hl2.below hb45).mono hb45.size
  have hf5 := (hf2.below hb45).mono hb45.size
  have hp5 := (hp2.below hb45).mono hb45.size
  have hxp5 := (hvp4.below hal).mono hal.size
  have hxf5 := (hxf4.below hal).mono hal.size
  have hw5 := Bl.tr hw2 hb45
  clear c0 c1 c2 c3 c4 c5 c6 hb4 hvp4 hxf4 hal hb45 hQ2 hl2 hf2 hp2 hw2
  go_wp2_with fail
  generalize w4.alloc (.cells #[S key, .slice p4 lp.length k4, .int .i64 st, .slice f4 n m4, S body, .int .i64 t, .int .i64 t] 27) = w5 at *
  refine (Renewed_any key body _ _ _ st (t : Int) (t : Int) (t : Int) (t : Int) lp (renewedF le l) l w5 hxp5 hxf5 hl5 (by omega) (by omega) hpl).mono ?_
  rintro e w6 ⟨vp6, vf6, rfl, hvp6, hvf6, hb6⟩
  rw [renewed_twice] at hvf6
  obtain ⟨p6, k6, rfl, -⟩ := hvp6.form
  have hxf6 : Fs w6.heap.size w6 vf6 (renewedF le l) := Fs.own hvf6
  obtain ⟨f6, m6, rfl, -⟩ := hxf6.form
  rw [hn] at hxf6 hvf6 ⊢
  clear hvf6
  have hal : Below w6.heap.size w6 (w6.alloc (.cells #[S key, .slice p6 lp.length k6, .int .i64 st, .slice f6 n m6, S body, .int .i64 t, .int .i64 t] 27)) := (Below.refl _ _).alloc (Nat.le_refl _) _
  have hY := Blk.new w6 27 #[S key, .slice p6 lp.length k6, .int .i64 st, .slice f6 n m6, S body, .int .i64 t, .int .i64 t]
  have hb57 := Bl.tr hb6 hal
  have hQ7 := hQ5.on hb57
  have hX7 := hX.on hb57
  have hl7 := (hl5.below hb57).mono hb57.size
  have hf7 := (hf5.below hb57).mono hb57.size
  have hp7 := (hp5.below hb57).mono hb57.size
  have hxp7 := (hxp5.below hb57).mono hb57.size
  have hxf7 := (hxf5.below hb57).mono hb57.size
  have hyp7 := (hvp6.below hal).mono hal.size
  have hyf7 := (hxf6.below hal).mono hal.size
  have hw7 := Bl.tr hw5 hb57
  have hXlt := hX7.lt
  have hX6 := hX.on hb6
  have hX6l := hX6.lt
  clear hb6 hvp6 hxf6 hal hb57 hQ5 hX hl5 hf5 hp5 hw5 hxp5 hxf5
  (have x0 : w6.cell? ⟨w4.heap.size, 0, none⟩ = some (S key) := hX6.cell 0; have x1 : w6.cell? ⟨w4.heap.size, 1, none⟩ = some (.slice p4 lp.length k4) := hX6.cell 1; have x2 : w6.cell? ⟨w4.heap.size, 2, none⟩ = some (.int .i64 st) := hX6.cell 2; have x3 : w6.cell? ⟨w4.heap.size, 3, none⟩ = some (.slice f4 n m4) := hX6.cell 3; have x4 : w6.cell? ⟨w4.heap.size, 4, none⟩ = some (S body) := hX6.cell 4; have x5 : w6.cell? ⟨w4.heap.size, 5, none⟩ = some (.int .i64 t) := hX6.cell 5; have x6 : w6.cell? ⟨w4.heap.size, 6, none⟩ = some (.int .i64 t) := hX6.cell 6)
  go_wp2_with fail
  clear x0 x1 x2 x3 x4 x5 x6 hX6 hX6l
  generalize w6.alloc (.cells #[S key, .slice p6 lp.length k6, .int .i64 st, .slice f6 n m6, S body, .int .i64 t, .int .i64 t] 27) = w7 at *
  refine (EntSame_at key body st (t : Int) (t : Int) lp (renewedF le l) _ _ _ _ w7 hxp7 (by rw [hn] at *; exact hxf7) hyp7 (by rw [hn] at *; exact hyf7)).mono ?_
  rintro e w8 ⟨rfl, hb8⟩
  have hQ8 := hQ7.on hb8
  have hX8 := hX7.on hb8
  have hl8 := (hl7.below hb8).mono hb8.size
  have hf8 := (hf7.below hb8).mono hb8.size
  have hp8 := (hp7.below hb8).mono hb8.size
  have hw8 := Bl.tr hw7 hb8
  clear hXlt hyp7 hyf7 hxp7 hxf7 hb8 hQ7 hX7 hl7 hf7 hp7 hw7 hY
  (have x0 : w8.cell? ⟨w4.heap.size, 0, none⟩ = some (S key) := hX8.cell 0; have x1 : w8.cell? ⟨w4.heap.size, 1, none⟩ = some (.slice p4 lp.length k4) := hX8.cell 1; have x2 : w8.cell? ⟨w4.heap.size, 2, none⟩ = some (.int .i64 st) := hX8.cell 2; have x3 : w8.cell? ⟨w4.heap.size, 3, none⟩ = some (.slice f4 n m4) := hX8.cell 3; have x4 : w8.cell? ⟨w4.heap.size, 4, none⟩ = some (S body) := hX8.cell 4; have x5 : w8.cell? ⟨w4.heap.size, 5, none⟩ = some (.int .i64 t) := hX8.cell 5; have x6 : w8.cell? ⟨w4.heap.size, 6, none⟩ = some (.int .i64 t) := hX8.cell 6)
  (have c0 : w8.cell? ⟨w.heap.size, 0, none⟩ = some (S key) := hQ8.cell 0; have c1 : w8.cell? ⟨w.heap.size, 1, none⟩ = some (.slice pp lp.length cp) := hQ8.cell 1; have c2 : w8.cell? ⟨w.heap.size, 2, none⟩ = some (.int .i64 st) := hQ8.cell 2; have c3 : w8.cell? ⟨w.heap.size, 3, none⟩ = some (.slice pf le.length cf) := hQ8.cell 3; have c4 : w8.cell? ⟨w.heap.size, 4, none⟩ = some (S body) := hQ8.cell 4; have c5 : w8.cell? ⟨w.heap.size, 5, none⟩ = some (.int .i64 asked) := hQ8.cell 5; have c6 : w8.cell? ⟨w.heap.size, 6, none⟩ = some (.int .i64 came) := hQ8.cell 6)
  have hal : Below w8.heap.size w8 (w8.alloc (.cells #[] 37)) := (Below.refl _ _).alloc (Nat.le_refl _) _
  go_wp2_with (first | (at_builtin; refine wpList_appRd rfl _ _ 22 rfl w8.heap.size 37 (.agg #[.string ByteArray.empty, .string ByteArray.empty, .bool false]) 3 40 Tryz.underlying22 (by kernel_rfl) rfl (by decide) _ _ _ rfl (World.ownsRow_lit (base := w8.heap.size) (e := 37) (size := 3) w8 #[] 0 (Nat.le_refl _) (by decide) rfl) _ _ _ _ rfl (Rd.below hl8 hal) (fcells_one _) (by unfold maxLen; omega) (by omega) (by simp) ?_; intro a3 c3 w9 hown9 hb9; simp only [Nat.zero_add, List.nil_append, List.toList_toArray] at hown9; have hb89 := hal.trans hb9; have hz89 := hb89.size; clear x0 x1 x2 x3 x4 x5 x6) | (at_builtin; refine wpList_appF rfl _ _ 22 rfl w8.heap.size Tryz.underlying22 (by kernel_rfl) _ _ _ rfl hown9 rfl (by omega) (by omega) rfl ?_; intro a4 c4' w10 hown10 hb10 hz10; have hb810 := hb89.trans (hb10.mono (Nat.le_refl _)); have hQ10 := hQ8.on hb810; replace c0 : w10.cell? ⟨w.heap.size, 0, none⟩ = some (S key) := hQ10.cell 0; replace c1 : w10.cell? ⟨w.heap.size, 1, none⟩ = some (.slice pp lp.length cp) := hQ10.cell 1; replace c2 : w10.cell? ⟨w.heap.size, 2, none⟩ = some (.int .i64 st) := hQ10.cell 2; replace c3 : w10.cell? ⟨w.heap.size, 3, none⟩ = some (.slice pf le.length cf) := hQ10.cell 3; replace c4 : w10.cell? ⟨w.heap.size, 4, none⟩ = some (S body) := hQ10.cell 4; replace c5 : w10.cell? ⟨w.heap.size, 5, none⟩ = some (.int .i64 asked) := hQ10.cell 5; replace c6 : w10.cell? ⟨w.heap.size, 6, none⟩ = some (.int .i64 came) := hQ10.cell 6))
  have hF10 : Fs w10.heap.size w10 (.slice a4 (l.length + 1) c4') (l ++ [cc77]) := by
    have := Rd.own hown10
    unfold Fs
    rw [fcells_append, List.length_append]
    exact this
  have hw10 := Bl.tr hw8 hb810
  have hl10 := (hl8.below hb810).mono hb810.size
  have hf10 := (hf8.below hb810).mono hb810.size
  have hp10 := (hp8.below hb810).mono hb810.size
  clear c0 c1 c2 c3 c4 c5 c6 hown9 hb9 hb89 hown10 hb10 hz10 hz89 hb810 hQ8 hX8 hl8 hf8 hp8 hw8 hal
  refine (Renewed_any key body _ _ _ st asked came (t : Int) (t : Int) lp le (l ++ [cc77]) w10 hp10 hf10 hF10 (by omega) (by omega) hpl).mono ?_
  rintro e w11 ⟨vp9, vf9, rfl, hvp9, hvf9, hb11⟩
  obtain ⟨p9, k9, rfl, -⟩ := hvp9.form
  have hzf : Fs w11.heap.size w11 vf9 (renewedF le (l ++ [cc77])) := Fs.own hvf9
  obtain ⟨f9, m9, rfl, -⟩ := hzf.form
  have hal : Below w11.heap.size w11 (w11.alloc (.cells #[S key, .slice p9 lp.length k9, .int .i64 st, .slice f9 (renewedF le (l ++ [cc77])).length m9, S body, .int .i64 t, .int .i64 t] 27)) := (Below.refl _ _).alloc (Nat.le_refl _) _
  have hZ := Blk.new w11 27 #[S key, .slice p9 lp.length k9, .int .i64 st, .slice f9 (renewedF le (l ++ [cc77])).length m9, S body, .int .i64 t, .int .i64 t]
  have hb1012 := Bl.tr hb11 hal
  have hl12 := (hl10.below hb1012).mono hb1012.size
  have hzf12 := (hzf.below hal).mono hal.size
  have hw12 := Bl.tr hw10 hb1012
  have hlf : Hid (values l connection = [] → values l cacheControl = [] → lifeF (renewedF le (l ++ [cc77])) st t = 77) := Lib.hid (fun h1 h2 => life77 le l st t h1 h2)
  have hvn : ∀ n : Bytes, hasB l n = false → values l n = [] := fun n h => by
    unfold hasB at h
    simp only [decide_eq_false_iff_not] at h
    exact List.eq_nil_of_length_eq_zero (by omega)
  clear hvf9 hzf hvp9 hal hb11 hb1012 hQ10 hl10 hf10 hp10 hF10 hw10
  go_wp2_with fail
  generalize w11.alloc (.cells #[S key, .slice p9 lp.length k9, .int .i64 st, .slice f9 (renewedF le (l ++ [cc77])).length m9, S body, .int .i64 t, .int .i64 t] 27) = w12 at *
  refine (refHas_any l connection _ w12 hl12 (by omega) (by decide)).mono ?_
  rintro e w13 ⟨rfl, hb13⟩
  have hZ13 := hZ.on hb13
  have hl13 := (hl12.below hb13).mono hb13.size
  have hzf13 := (hzf12.below hb13).mono hb13.size
  have hw13 := Bl.tr hw12 hb13
  clear hZ hl12 hzf12 hw12 hb13
  have hv1 := hvn connection
  have hv2 := hvn cacheControl
  cases hb : hasB l connection with
  | true =>
    clear hb
    go_wp2
    go_ret
    exact ⟨rfl, hw13⟩
  | false =>
    have HV1 := Lib.hid (hv1 hb)
    clear hb hv1 hvn
    go_wp2_with fail
    refine (refHas_any l cacheControl _ w13 hl13 (by omega) (by decide)).mono ?_
    rintro e w14 ⟨rfl, hb14⟩
    have hZ14 := hZ13.on hb14
    have hzf14 := (hzf13.below hb14).mono hb14.size
    have hw14 := Bl.tr hw13 hb14
    clear hZ13 hl13 hzf13 hw13 hb14
    cases hb : hasB l cacheControl with
    | true =>
      clear hb
      go_wp2
      go_ret
      exact ⟨rfl, hw14⟩
    | false =>
      have HV2 := Lib.hid (hv2 hb)
      have HLF := Lib.hid (hlf.out HV1.out HV2.out)
      clear hb hv2
      (have z0 : w14.cell? ⟨w11.heap.size, 0, none⟩ = some (S key) := hZ14.cell 0; have z1 : w14.cell? ⟨w11.heap.size, 1, none⟩ = some (.slice p9 lp.length k9) := hZ14.cell 1; have z2 : w14.cell? ⟨w11.heap.size, 2, none⟩ = some (.int .i64 st) := hZ14.cell 2; have z3 : w14.cell? ⟨w11.heap.size, 3, none⟩ = some (.slice f9 (renewedF le (l ++ [cc77])).length m9) := hZ14.cell 3; have z4 : w14.cell? ⟨w11.heap.size, 4, none⟩ = some (S body) := hZ14.cell 4; have z5 : w14.cell? ⟨w11.heap.size, 5, none⟩ = some (.int .i64 t) := hZ14.cell 5; have z6 : w14.cell? ⟨w11.heap.size, 6, none⟩ = some (.int .i64 t) := hZ14.cell 6)
      go_wp2_with fail
      refine (Lifetime_any ⟨key, .slice p9 lp.length k9, st, .slice f9 (renewedF le (l ++ [cc77])).length m9, body, t, t⟩ (renewedF le (l ++ [cc77])) w14 hzf14 (by omega)).mono ?_
      rintro e w15 ⟨rfl, hb15⟩
      have hw15 := Bl.tr hw14 hb15
      simp only [HLF.out]
      go_wp2
      go_ret
      exact ⟨rfl, hw15⟩
theorem RenewTwice_i (q : En) (lp le l : List F) (t : Int) (v : Value) (w : World) (ht : 0 ≤ t ∧ t ≤ 4294967295) (hp : Fs w.heap.size w q.vp lp) (hpb : FOk lp) (hf : Fs w.heap.size w q.vf le) (hfb : FOk le) (hl : Fs w.heap.size w v l) (hlb : FOk l) :
    Calls Tryz.prog 6 #[q.val, v, .int .u32 t] w fun e w' => e = .returned (.bool true) ∧ Below w.heap.size w w' := by
  obtain ⟨n, rfl⟩ := Int.eq_ofNat_of_zero_le ht.1
  exact RenewTwice_any q lp le l n v w (by omega) hp hpb hf hfb hl hlb
end Go.Proofs.YtpbmmkonlboegaaGreatDoor
