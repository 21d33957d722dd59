/- Parts of the proof of DealLacks_holds: the texts Law21b. -/
import Derived.Deep.DeepCutAuto
import Derived.Deep.RegionHeld3
import Derived.Test.YtahapblgmehngaaGreatDoorC3
import Derived.Test.YtahapblgmehngaaGreatDoorC43
import Derived.Test.YtahapblgmehngaaGreatDoorC29
set_option linter.unusedSimpArgs false
set_option linter.unusedVariables false
set_option linter.unnecessarySimpa false
namespace Go.Proofs.YtahapblgmehngaaGreatDoor
open Go.RowKit Go.Dr

structure SmallK (k : Kv) : Prop where
  lf : fsum k.lf ≤ 16384
  lr : fsum k.lr ≤ 16384
  body : k.body.length ≤ 10000
  path : k.r.p.length + k.r.a.length + k.r.s.length ≤ 1000
theorem fok_big {l : List F} (h : FOk l) : ∀ f ∈ l, f.n.length ≤ 140737488355328 ∧ f.v.length ≤ 140737488355328 := fun f hf => by
  have := h.1 f hf
  omega
theorem fb_le {l : List F} {N : Nat} (h : fbytes l ≤ N) (hN : N ≤ 16384) : fsum l ≤ 16384 := by
  rw [fbytes_sum l (by omega)]
  omega

set_option maxRecDepth 100000 in
set_option maxHeartbeats 4000000 in
theorem few21_any (L : List Kv) (vs : Value) (r : Rq) (lr : List F) (w : World) (hL : Ks w.heap.size w vs L) (hok : ∀ k ∈ L, k.Ok) (hr : Fs w.heap.size w r.v lr) (hro : FOk lr) :
    Calls Tryz.prog 9 #[vs, r.val] w fun e w' => ∃ b, e = .returned (.bool b) ∧ (b = true → fsum lr ≤ 16384 ∧ ∀ k ∈ L.take 20, SmallK k) ∧ Below w.heap.size w w' := by
  obtain ⟨pa, pc, rfl, hm⟩ := hL.form
  obtain ⟨pr, cr, hrv, -⟩ := hr.form
  obtain ⟨rm, rs, ra, rp, rv⟩ := r
  simp only at hrv hr
  subst hrv
  simp only [Rq.val]
  have HOK := Lib.hid hok
  clear hok
  obtain ⟨w0, ew⟩ : ∃ w0 : World, w0 = w.alloc (.cells #[S rm, S rs, S ra, S rp, .slice pr lr.length cr] 28) := ⟨_, rfl⟩
  obtain ⟨G, eG⟩ : ∃ G, G = w.heap.size := ⟨_, rfl⟩
  have hQ0 : Blk w0 G 28 #[S rm, S rs, S ra, S rp, .slice pr lr.length cr] := by rw [ew, eG]; exact Blk.new _ _ _
  have hb0 : Below w.heap.size w w0 := by rw [ew]; exact (Below.refl _ _).alloc (Nat.le_refl _) _
  have hr0 := (hr.below hb0).mono hb0.size
  have hL0 := (hL.below hb0).mono hb0.size
  have HG := Lib.hid eG
  have HW := Lib.hid ew
  have x4 : w0.cell? ⟨G, 4, none⟩ = some (.slice pr lr.length cr) := hQ0.cell 4
  have hFB := FBytes_any lr (.slice pr lr.length cr) w0 hr0 (fok_big hro)
  have hmax := fbytes_max lr (fok_big hro)
  obtain ⟨N0, eN0⟩ : ∃ N0, N0 = fbytes lr := ⟨_, rfl⟩
  rw [← eN0] at hFB hmax
  have HN0 := Lib.hid eN0
  clear eG ew hr hL hr0 hro eN0
  go_enter Tryz.func9, Tryz.ntmps9
  go_upto_region 1 with fail
  rw [← HG.out, ← HW.out]
  go_wp2_with fail
  refine hFB.mono ?_
  rintro e w1 ⟨rfl, hb1⟩
  have hw1 := Bl.tr hb0 hb1
  have hL1 := (hL0.below hb1).mono hb1.size
  clear hFB x4 hQ0 hL0 hb0 hb1
  go_wp2
  go_loopw [5, 6] (fun n i wr => ∃ k N : Nat, n = .int .i64 (N : Nat) ∧ i = .int .i64 k ∧ k ≤ L.length ∧ k ≤ 20 ∧ N ≤ 281476050452512 ∧ N0 ≤ N ∧ (∀ d ∈ L.take k, SmallK d) ∧ Below w1.heap.size w1 wr) (fun _ i _ => L.length - (intOf i).toNat)
  case atStart => exact ⟨0, N0, rfl, rfl, Nat.zero_le _, by omega, hmax, Nat.le_refl _, by simp, Below.refl _ _⟩
  case round =>
    obtain ⟨k, N, rfl, rfl, hk, hk20, hN, hNN, hsm, hbr⟩ := hrel
    have hwr := Bl.tr hw1 hbr
    have HSM := Lib.hid hsm
    clear hsm
    by_cases hlt : k < L.length
    · by_cases h20 : k < 20
      · have hLr := hL1.below hbr
        obtain ⟨b, off, rfl, hbb, c0, c1, c2, c3, c4, c5, c6, c7, c8, c9⟩ := hLr.at k hlt
        have hkf := hLr.2 L[k] (List.getElem_mem hlt)
        have hko := HOK.out L[k] (List.getElem_mem hlt)
        have hsn : L.take (k + 1) = L.take k ++ [L[k]] := take_snoc L k hlt
        obtain ⟨x, ex⟩ : ∃ x, x = L[k] := ⟨_, rfl⟩
        rw [← ex] at c0 c1 c2 c3 c4 c5 c6 c7 c8 c9 hkf hko hsn
        have HSN : Hid (SmallK x → ∀ d ∈ L.take (k + 1), SmallK d) := fun hx d hd => by
          rw [hsn] at hd
          rcases List.mem_append.1 hd with hd | hd
          · exact HSM.out d hd
          · rw [List.mem_singleton.1 hd]; exact hx
        clear ex hsn
        obtain ⟨⟨km, ks, ka, kp, kv⟩, kst, kvf, kbody, kas, kca, klr, klf⟩ := x
        obtain ⟨a4, n4, hv4, -⟩ := hkf.1.form
        obtain ⟨a6, n6, hv6, -⟩ := hkf.2.form
        simp only at c0 c1 c2 c3 c4 c5 c6 c7 c8 c9 hv4 hv6
        subst hv4 hv6
        have hbw : b < wr.heap.size := Nat.lt_of_lt_of_le hbb hbr.size
        have hf4 : Fs wr.heap.size wr (.slice a4 klr.length n4) klr := hkf.1.mono hbr.size
        have hf6 : Fs wr.heap.size wr (.slice a6 klf.length n6) klf := hkf.2.mono hbr.size
        have o4 := hko.2.2.2.2.2.1
        have o6 := hko.2.2.2.2.2.2
        simp only at o4 o6
        have m4 := fbytes_max klr (fok_big o4)
        have m6 := fbytes_max klf (fok_big o6)
        have hB6 := FBytes_any klf (.slice a6 klf.length n6) wr.drew (show Fs wr.drew.heap.size wr.drew _ klf from hf6.drew) (fok_big o6)
        have HB4 := Lib.hid (fun w h => FBytes_any klr (.slice a4 klr.length n4) w h (fok_big o4))
        obtain ⟨A6, eA6⟩ : ∃ A, A = fbytes klf := ⟨_, rfl⟩
        obtain ⟨A4, eA4⟩ : ∃ A, A = fbytes klr := ⟨_, rfl⟩
        rw [← eA6] at m6 hB6
        rw [← eA4] at m4 HB4
        have HE6 := Lib.hid eA6
        have HE4 := Lib.hid eA4
        have hS : Hid (N + A6 + A4 ≤ 16384 → kbody.length ≤ 10000 → kp.length + ka.length + ks.length ≤ 1000 → SmallK ⟨⟨km, ks, ka, kp, .slice a4 klr.length n4⟩, kst, .slice a6 klf.length n6, kbody, kas, kca, klr, klf⟩) := fun h1 h2 h3 => ⟨fb_le (N := 16384) (by rw [← HE6.out]; omega) (by omega), fb_le (N := 16384) (by rw [← HE4.out]; omega) (by omega), h2, h3⟩
        have tw1 : IntKind.i64.wrap ((N : Int) + (A6 : Int)) = (N : Int) + (A6 : Int) := IntWalk.i64_in _ (by omega)
        have tw2 : IntKind.i64.wrap ((N : Int) + (A6 : Int) + (A4 : Int)) = (N : Int) + (A6 : Int) + (A4 : Int) := IntWalk.i64_in _ (by omega)
        have l1 : kp.length ≤ 140737488351232 := hko.1.2.2.2
        have l2 : ka.length ≤ 140737488351232 := hko.1.2.2.1
        have l3 : ks.length ≤ 140737488351232 := hko.1.2.1
        have tw3 : IntKind.i64.wrap ((kp.length : Int) + (ka.length : Int)) = (kp.length : Int) + (ka.length : Int) := IntWalk.i64_in _ (by omega)
        have tw4 : IntKind.i64.wrap ((kp.length : Int) + (ka.length : Int) + (ks.length : Int)) = (kp.length : Int) + (ka.length : Int) + (ks.length : Int) := IntWalk.i64_in _ (by omega)
        clear eA6 eA4 hkf hko o4 o6 hLr hf6 c0 c5 c8 c9
        go_wp2_with fail
        refine wp_region_held_drew (S := (fun wx => wx.cell? ⟨b, off + k * 10 + 4, none⟩ = some (.slice a4 klr.length n4) ∧ wx.cell? ⟨b, off + k * 10 + 6, none⟩ = some (.slice a6 klf.length n6))) (by kernel_rfl) ⟨c4, c6⟩ (fun hHeld => ?_)
        (refine tkA 0 ?_ ?_ hHeld ?_; rotate_left; (intro w hSw; (try dsimp only at hSw); go_simp; try with_reducible rfl); simp only [Act.put, PT])
        (refine tkA 1 ?_ ?_ hHeld ?_; rotate_left; (intro w hSw; (try dsimp only at hSw); go_simp; try with_reducible rfl); simp only [Act.put, PT])
        (refine tkA 2 ?_ ?_ hHeld ?_; rotate_left; (intro w hSw; (try dsimp only at hSw); go_simp; try with_reducible rfl); simp only [Act.put, PT])
        (refine tkA 3 ?_ ?_ hHeld ?_; rotate_left; (intro w hSw; (try dsimp only at hSw); go_simp; try with_reducible rfl); simp only [Act.put, PT])
        (refine tkA 4 ?_ ?_ hHeld ?_; rotate_left; (intro w hSw; (try dsimp only at hSw); go_simp; try with_reducible rfl); simp only [Act.put, PT])
        (refine tkA 5 ?_ ?_ hHeld ?_; rotate_left; (intro w hSw; (try dsimp only at hSw); go_simp; try with_reducible rfl); simp only [Act.put, PT])
        (refine tkA 8 ?_ ?_ hHeld ?_; rotate_left; (intro w hSw; (try dsimp only at hSw); go_simp; try with_reducible rfl); simp only [Act.put, PT])
        (refine tkA 9 ?_ ?_ hHeld ?_; rotate_left; (intro w hSw; (try dsimp only at hSw); go_simp; try with_reducible rfl); simp only [Act.put, PT])
        (refine tkA 10 ?_ ?_ hHeld ?_; rotate_left; (intro w hSw; (try dsimp only at hSw); go_simp; try with_reducible rfl); simp only [Act.put, PT])
        (refine tkA 11 ?_ ?_ hHeld ?_; rotate_left; (intro w hSw; (try dsimp only at hSw); go_simp; try with_reducible rfl); simp only [Act.put, PT])
        (refine tkA 12 ?_ ?_ hHeld ?_; rotate_left; (intro w hSw; (try dsimp only at hSw); go_simp; try with_reducible rfl); simp only [Act.put, PT])
        (refine tkA 13 ?_ ?_ hHeld ?_; rotate_left; (intro w hSw; (try dsimp only at hSw); go_simp; try with_reducible rfl); simp only [Act.put, PT])
        refine wpAnyH_ready (rs := [6]) (by kernel_rfl) (by simp) ?_
        refine AllReadyH.cons (by rfl) (fun K hK => ?_) AllReadyH.nil
        go_simp
        (with_reducible refine hB6.mono ?_); rintro e wa ⟨rfl, hba⟩; replace hba := Bl.undrew hba; have hf4a := (hf4.below hba).mono hba.size; have hBa := HB4.out wa hf4a
        refine hK.out _ _ ⟨((bcell hba).1 b (off + k * 10 + 4) hbw).trans c4, ((bcell hba).1 b (off + k * 10 + 6) hbw).trans c6⟩ (fun hHeld => ?_)
        clear hK K
        try simp only [Act.put, PT]
        (refine tkA 7 ?_ ?_ hHeld ?_; rotate_left; (intro w hSw; (try dsimp only at hSw); go_simp; try with_reducible rfl); simp only [Act.put, PT])
        refine wpAnyH_ready (rs := [14]) (by kernel_rfl) (by simp) ?_
        refine AllReadyH.cons (by rfl) (fun K hK => ?_) AllReadyH.nil
        go_simp
        (with_reducible refine hBa.mono ?_); rintro e wb ⟨rfl, hbb2⟩; have hwb := Bl.tr hba hbb2
        refine hK.out _ _ ⟨((bcell hwb).1 b (off + k * 10 + 4) hbw).trans c4, ((bcell hwb).1 b (off + k * 10 + 6) hbw).trans c6⟩ (fun hHeld => ?_)
        clear hK K
        try simp only [Act.put, PT]
        (refine tkA 15 ?_ ?_ hHeld ?_; rotate_left; (intro w hSw; (try dsimp only at hSw); go_simp; try with_reducible rfl); simp only [Act.put, PT])
        (refine tkA 16 ?_ ?_ hHeld ?_; rotate_left; (intro w hSw; (try dsimp only at hSw); go_simp; try with_reducible rfl); simp only [Act.put, PT])
        try simp only [Act.put, PT]
        refine wpAnyH_done (by kernel_rfl) ?_ _
        have d7 := ((bcell hwb).1 b (off + k * 10 + 7) hbw).trans c7
        have d3 := ((bcell hwb).1 b (off + k * 10 + 3) hbw).trans c3
        have d2 := ((bcell hwb).1 b (off + k * 10 + 2) hbw).trans c2
        have d1 := ((bcell hwb).1 b (off + k * 10 + 1) hbw).trans c1
        have hbe := hbr.trans (hwb.mono hbr.size)
        have hwe := Bl.tr hwr hwb
        clear c1 c2 c3 c4 c6 c7 hB6 hf4 hba hbb2 hf4a hBa tw1 tw2
        by_cases q1 : N + A6 + A4 ≤ 16384
        · have e1 : decide ((16384 : Int) < (N : Int) + (A6 : Int) + (A4 : Int)) = false := by simp; omega
          by_cases q2 : kbody.length ≤ 10000
          · have e2 : decide ((10000 : Int) < (kbody.length : Int)) = false := by simp; omega
            have e2' : decide (10000 < kbody.length) = false := by simp; omega
            by_cases q3 : kp.length + ka.length + ks.length ≤ 1000
            · have e3 : decide ((1000 : Int) < (kp.length : Int) + (ka.length : Int) + (ks.length : Int)) = false := by simp; omega
              have hSx := Lib.hid (HSN.out (hS.out q1 q2 q3))
              clear hS HSN HB4
              go_wp2_with fail
              refine wp_region_held_drew (S := (fun wx => wx.cell? ⟨b, off + k * 10 + 7, none⟩ = some (S kbody) ∧ wx.cell? ⟨b, off + k * 10 + 3, none⟩ = some (S kp) ∧ wx.cell? ⟨b, off + k * 10 + 2, none⟩ = some (S ka) ∧ wx.cell? ⟨b, off + k * 10 + 1, none⟩ = some (S ks))) (by kernel_rfl) ⟨d7, d3, d2, d1⟩ (fun hHeld => ?_)
              (refine tkA 0 ?_ ?_ hHeld ?_; rotate_left; (intro w hSw; (try dsimp only at hSw); go_simp; try with_reducible rfl); simp only [Act.put, PT])
              (refine tkA 1 ?_ ?_ hHeld ?_; rotate_left; (intro w hSw; (try dsimp only at hSw); go_simp; try with_reducible rfl); simp only [Act.put, PT])
              (refine tkA 2 ?_ ?_ hHeld ?_; rotate_left; (intro w hSw; (try dsimp only at hSw); go_simp; try with_reducible rfl); simp only [Act.put, PT])
              (refine tkA 3 ?_ ?_ hHeld ?_; rotate_left; (intro w hSw; (try dsimp only at hSw); go_simp; try with_reducible rfl); simp only [Act.put, PT])
              (refine tkA 4 ?_ ?_ hHeld ?_; rotate_left; (intro w hSw; (try dsimp only at hSw); go_simp; try with_reducible rfl); simp only [Act.put, PT])
              (refine tkA 5 ?_ ?_ hHeld ?_; rotate_left; (intro w hSw; (try dsimp only at hSw); go_simp; try with_reducible rfl); simp only [Act.put, PT])
              (refine tkA 6 ?_ ?_ hHeld ?_; rotate_left; (intro w hSw; (try dsimp only at hSw); go_simp; try with_reducible rfl); simp only [Act.put, PT])
              (refine tkA 7 ?_ ?_ hHeld ?_; rotate_left; (intro w hSw; (try dsimp only at hSw); go_simp; try with_reducible rfl); simp only [Act.put, PT])
              (refine tkA 8 ?_ ?_ hHeld ?_; rotate_left; (intro w hSw; (try dsimp only at hSw); go_simp; try with_reducible rfl); simp only [Act.put, PT])
              (refine tkA 9 ?_ ?_ hHeld ?_; rotate_left; (intro w hSw; (try dsimp only at hSw); go_simp; try with_reducible rfl); simp only [Act.put, PT])
              (refine tkA 10 ?_ ?_ hHeld ?_; rotate_left; (intro w hSw; (try dsimp only at hSw); go_simp; try with_reducible rfl); simp only [Act.put, PT])
              (refine tkA 11 ?_ ?_ hHeld ?_; rotate_left; (intro w hSw; (try dsimp only at hSw); go_simp; try with_reducible rfl); simp only [Act.put, PT])
              (refine tkA 12 ?_ ?_ hHeld ?_; rotate_left; (intro w hSw; (try dsimp only at hSw); go_simp; try with_reducible rfl); simp only [Act.put, PT])
              (refine tkA 13 ?_ ?_ hHeld ?_; rotate_left; (intro w hSw; (try dsimp only at hSw); go_simp; try with_reducible rfl); simp only [Act.put, PT])
              (refine tkA 14 ?_ ?_ hHeld ?_; rotate_left; (intro w hSw; (try dsimp only at hSw); go_simp; try with_reducible rfl); simp only [Act.put, PT])
              (refine tkA 15 ?_ ?_ hHeld ?_; rotate_left; (intro w hSw; (try dsimp only at hSw); go_simp; try with_reducible rfl); simp only [Act.put, PT])
              (refine tkA 16 ?_ ?_ hHeld ?_; rotate_left; (intro w hSw; (try dsimp only at hSw); go_simp; try with_reducible rfl); simp only [Act.put, PT])
              (refine tkA 17 ?_ ?_ hHeld ?_; rotate_left; (intro w hSw; (try dsimp only at hSw); go_simp; try with_reducible rfl); simp only [Act.put, PT])
              (refine tkA 18 ?_ ?_ hHeld ?_; rotate_left; (intro w hSw; (try dsimp only at hSw); go_simp; try with_reducible rfl); simp only [Act.put, PT])
              (refine tkA 19 ?_ ?_ hHeld ?_; rotate_left; (intro w hSw; (try dsimp only at hSw); go_simp; try with_reducible rfl); simp only [Act.put, PT])
              (refine tkA 20 ?_ ?_ hHeld ?_; rotate_left; (intro w hSw; (try dsimp only at hSw); go_simp; try with_reducible rfl); simp only [Act.put, PT])
              (refine tkA 21 ?_ ?_ hHeld ?_; rotate_left; (intro w hSw; (try dsimp only at hSw); go_simp; try with_reducible rfl); simp only [Act.put, PT])
              (refine tkA 22 ?_ ?_ hHeld ?_; rotate_left; (intro w hSw; (try dsimp only at hSw); go_simp; try with_reducible rfl); simp only [Act.put, PT])
              (refine tkA 23 ?_ ?_ hHeld ?_; rotate_left; (intro w hSw; (try dsimp only at hSw); go_simp; try with_reducible rfl); simp only [Act.put, PT])
              (refine tkA 24 ?_ ?_ hHeld ?_; rotate_left; (intro w hSw; (try dsimp only at hSw); go_simp; try with_reducible rfl); simp only [Act.put, PT])
              (refine tkA 25 ?_ ?_ hHeld ?_; rotate_left; (intro w hSw; (try dsimp only at hSw); go_simp; try with_reducible rfl); simp only [Act.put, PT])
              (refine tkA 26 ?_ ?_ hHeld ?_; rotate_left; (intro w hSw; (try dsimp only at hSw); go_simp; try with_reducible rfl); simp only [Act.put, PT])
              (refine tkA 27 ?_ ?_ hHeld ?_; rotate_left; (intro w hSw; (try dsimp only at hSw); go_simp; try with_reducible rfl); simp only [Act.put, PT])
              (refine tkA 28 ?_ ?_ hHeld ?_; rotate_left; (intro w hSw; (try dsimp only at hSw); go_simp; try with_reducible rfl); simp only [Act.put, PT])
              (refine tkA 29 ?_ ?_ hHeld ?_; rotate_left; (intro w hSw; (try dsimp only at hSw); go_simp; try with_reducible rfl); simp only [Act.put, PT])
              (refine tkA 30 ?_ ?_ hHeld ?_; rotate_left; (intro w hSw; (try dsimp only at hSw); go_simp; try with_reducible rfl); simp only [Act.put, PT])
              (refine tkA 31 ?_ ?_ hHeld ?_; rotate_left; (intro w hSw; (try dsimp only at hSw); go_simp; try with_reducible rfl); simp only [Act.put, PT])
              (refine tkA 32 ?_ ?_ hHeld ?_; rotate_left; (intro w hSw; (try dsimp only at hSw); go_simp; try with_reducible rfl); simp only [Act.put, PT])
              (refine tkA 33 ?_ ?_ hHeld ?_; rotate_left; (intro w hSw; (try dsimp only at hSw); go_simp; try with_reducible rfl); simp only [Act.put, PT])
              (refine tkA 34 ?_ ?_ hHeld ?_; rotate_left; (intro w hSw; (try dsimp only at hSw); go_simp; try with_reducible rfl); simp only [Act.put, PT])
              (refine tkA 35 ?_ ?_ hHeld ?_; rotate_left; (intro w hSw; (try dsimp only at hSw); go_simp; try with_reducible rfl); simp only [Act.put, PT])
              (refine tkA 36 ?_ ?_ hHeld ?_; rotate_left; (intro w hSw; (try dsimp only at hSw); go_simp; try with_reducible rfl); simp only [Act.put, PT])
              try simp only [Act.put, PT]
              refine wpAnyH_done (by kernel_rfl) ?_ _
              go_wp2
              go_roundw
              case rel => exact ⟨k + 1, N + A6 + A4, by go_num, by go_num, by omega, by omega, by omega, by omega, hSx.out, hbe.drew⟩
              case measure => (first | (simp [intOf]; done) | (simp [intOf]; omega))
            · have e3 : decide ((1000 : Int) < (kp.length : Int) + (ka.length : Int) + (ks.length : Int)) = true := by simp; omega
              clear hS HSN HB4
              go_wp2_with fail
              refine wp_region_held_drew (S := (fun wx => wx.cell? ⟨b, off + k * 10 + 7, none⟩ = some (S kbody) ∧ wx.cell? ⟨b, off + k * 10 + 3, none⟩ = some (S kp) ∧ wx.cell? ⟨b, off + k * 10 + 2, none⟩ = some (S ka) ∧ wx.cell? ⟨b, off + k * 10 + 1, none⟩ = some (S ks))) (by kernel_rfl) ⟨d7, d3, d2, d1⟩ (fun hHeld => ?_)
              (refine tkA 0 ?_ ?_ hHeld ?_; rotate_left; (intro w hSw; (try dsimp only at hSw); go_simp; try with_reducible rfl); simp only [Act.put, PT])
              (refine tkA 1 ?_ ?_ hHeld ?_; rotate_left; (intro w hSw; (try dsimp only at hSw); go_simp; try with_reducible rfl); simp only [Act.put, PT])
              (refine tkA 2 ?_ ?_ hHeld ?_; rotate_left; (intro w hSw; (try dsimp only at hSw); go_simp; try with_reducible rfl); simp only [Act.put, PT])
              (refine tkA 3 ?_ ?_ hHeld ?_; rotate_left; (intro w hSw; (try dsimp only at hSw); go_simp; try with_reducible rfl); simp only [Act.put, PT])
              (refine tkA 4 ?_ ?_ hHeld ?_; rotate_left; (intro w hSw; (try dsimp only at hSw); go_simp; try with_reducible rfl); simp only [Act.put, PT])
              (refine tkA 5 ?_ ?_ hHeld ?_; rotate_left; (intro w hSw; (try dsimp only at hSw); go_simp; try with_reducible rfl); simp only [Act.put, PT])
              (refine tkA 6 ?_ ?_ hHeld ?_; rotate_left; (intro w hSw; (try dsimp only at hSw); go_simp; try with_reducible rfl); simp only [Act.put, PT])
              (refine tkA 7 ?_ ?_ hHeld ?_; rotate_left; (intro w hSw; (try dsimp only at hSw); go_simp; try with_reducible rfl); simp only [Act.put, PT])
              (refine tkA 8 ?_ ?_ hHeld ?_; rotate_left; (intro w hSw; (try dsimp only at hSw); go_simp; try with_reducible rfl); simp only [Act.put, PT])
              (refine tkA 9 ?_ ?_ hHeld ?_; rotate_left; (intro w hSw; (try dsimp only at hSw); go_simp; try with_reducible rfl); simp only [Act.put, PT])
              (refine tkA 10 ?_ ?_ hHeld ?_; rotate_left; (intro w hSw; (try dsimp only at hSw); go_simp; try with_reducible rfl); simp only [Act.put, PT])
              (refine tkA 11 ?_ ?_ hHeld ?_; rotate_left; (intro w hSw; (try dsimp only at hSw); go_simp; try with_reducible rfl); simp only [Act.put, PT])
              (refine tkA 12 ?_ ?_ hHeld ?_; rotate_left; (intro w hSw; (try dsimp only at hSw); go_simp; try with_reducible rfl); simp only [Act.put, PT])
              (refine tkA 13 ?_ ?_ hHeld ?_; rotate_left; (intro w hSw; (try dsimp only at hSw); go_simp; try with_reducible rfl); simp only [Act.put, PT])
              (refine tkA 14 ?_ ?_ hHeld ?_; rotate_left; (intro w hSw; (try dsimp only at hSw); go_simp; try with_reducible rfl); simp only [Act.put, PT])
              (refine tkA 15 ?_ ?_ hHeld ?_; rotate_left; (intro w hSw; (try dsimp only at hSw); go_simp; try with_reducible rfl); simp only [Act.put, PT])
              (refine tkA 16 ?_ ?_ hHeld ?_; rotate_left; (intro w hSw; (try dsimp only at hSw); go_simp; try with_reducible rfl); simp only [Act.put, PT])
              (refine tkA 17 ?_ ?_ hHeld ?_; rotate_left; (intro w hSw; (try dsimp only at hSw); go_simp; try with_reducible rfl); simp only [Act.put, PT])
              (refine tkA 18 ?_ ?_ hHeld ?_; rotate_left; (intro w hSw; (try dsimp only at hSw); go_simp; try with_reducible rfl); simp only [Act.put, PT])
              (refine tkA 19 ?_ ?_ hHeld ?_; rotate_left; (intro w hSw; (try dsimp only at hSw); go_simp; try with_reducible rfl); simp only [Act.put, PT])
              (refine tkA 20 ?_ ?_ hHeld ?_; rotate_left; (intro w hSw; (try dsimp only at hSw); go_simp; try with_reducible rfl); simp only [Act.put, PT])
              (refine tkA 21 ?_ ?_ hHeld ?_; rotate_left; (intro w hSw; (try dsimp only at hSw); go_simp; try with_reducible rfl); simp only [Act.put, PT])
              (refine tkA 22 ?_ ?_ hHeld ?_; rotate_left; (intro w hSw; (try dsimp only at hSw); go_simp; try with_reducible rfl); simp only [Act.put, PT])
              (refine tkA 23 ?_ ?_ hHeld ?_; rotate_left; (intro w hSw; (try dsimp only at hSw); go_simp; try with_reducible rfl); simp only [Act.put, PT])
              (refine tkA 24 ?_ ?_ hHeld ?_; rotate_left; (intro w hSw; (try dsimp only at hSw); go_simp; try with_reducible rfl); simp only [Act.put, PT])
              (refine tkA 25 ?_ ?_ hHeld ?_; rotate_left; (intro w hSw; (try dsimp only at hSw); go_simp; try with_reducible rfl); simp only [Act.put, PT])
              (refine tkA 26 ?_ ?_ hHeld ?_; rotate_left; (intro w hSw; (try dsimp only at hSw); go_simp; try with_reducible rfl); simp only [Act.put, PT])
              (refine tkA 27 ?_ ?_ hHeld ?_; rotate_left; (intro w hSw; (try dsimp only at hSw); go_simp; try with_reducible rfl); simp only [Act.put, PT])
              (refine tkA 28 ?_ ?_ hHeld ?_; rotate_left; (intro w hSw; (try dsimp only at hSw); go_simp; try with_reducible rfl); simp only [Act.put, PT])
              (refine tkA 29 ?_ ?_ hHeld ?_; rotate_left; (intro w hSw; (try dsimp only at hSw); go_simp; try with_reducible rfl); simp only [Act.put, PT])
              (refine tkA 30 ?_ ?_ hHeld ?_; rotate_left; (intro w hSw; (try dsimp only at hSw); go_simp; try with_reducible rfl); simp only [Act.put, PT])
              (refine tkA 31 ?_ ?_ hHeld ?_; rotate_left; (intro w hSw; (try dsimp only at hSw); go_simp; try with_reducible rfl); simp only [Act.put, PT])
              (refine tkA 32 ?_ ?_ hHeld ?_; rotate_left; (intro w hSw; (try dsimp only at hSw); go_simp; try with_reducible rfl); simp only [Act.put, PT])
              (refine tkA 33 ?_ ?_ hHeld ?_; rotate_left; (intro w hSw; (try dsimp only at hSw); go_simp; try with_reducible rfl); simp only [Act.put, PT])
              (refine tkA 34 ?_ ?_ hHeld ?_; rotate_left; (intro w hSw; (try dsimp only at hSw); go_simp; try with_reducible rfl); simp only [Act.put, PT])
              (refine tkA 35 ?_ ?_ hHeld ?_; rotate_left; (intro w hSw; (try dsimp only at hSw); go_simp; try with_reducible rfl); simp only [Act.put, PT])
              (refine tkA 36 ?_ ?_ hHeld ?_; rotate_left; (intro w hSw; (try dsimp only at hSw); go_simp; try with_reducible rfl); simp only [Act.put, PT])
              try simp only [Act.put, PT]
              refine wpAnyH_done (by kernel_rfl) ?_ _
              go_wp2
              go_ret
              exact ⟨false, rfl, by simp, hwe.drew⟩
          · have e2 : decide ((10000 : Int) < (kbody.length : Int)) = true := by simp; omega
            have e2' : decide (10000 < kbody.length) = true := by simp; omega
            clear hS HSN HB4
            go_wp2_with fail
            refine wp_region_held_drew (S := (fun wx => wx.cell? ⟨b, off + k * 10 + 7, none⟩ = some (S kbody) ∧ wx.cell? ⟨b, off + k * 10 + 3, none⟩ = some (S kp) ∧ wx.cell? ⟨b, off + k * 10 + 2, none⟩ = some (S ka) ∧ wx.cell? ⟨b, off + k * 10 + 1, none⟩ = some (S ks))) (by kernel_rfl) ⟨d7, d3, d2, d1⟩ (fun hHeld => ?_)
            (refine tkA 0 ?_ ?_ hHeld ?_; rotate_left; (intro w hSw; (try dsimp only at hSw); go_simp; try with_reducible rfl); simp only [Act.put, PT])
            (refine tkA 1 ?_ ?_ hHeld ?_; rotate_left; (intro w hSw; (try dsimp only at hSw); go_simp; try with_reducible rfl); simp only [Act.put, PT])
            (refine tkA 2 ?_ ?_ hHeld ?_; rotate_left; (intro w hSw; (try dsimp only at hSw); go_simp; try with_reducible rfl); simp only [Act.put, PT])
            (refine tkA 3 ?_ ?_ hHeld ?_; rotate_left; (intro w hSw; (try dsimp only at hSw); go_simp; try with_reducible rfl); simp only [Act.put, PT])
            (refine tkA 4 ?_ ?_ hHeld ?_; rotate_left; (intro w hSw; (try dsimp only at hSw); go_simp; try with_reducible rfl); simp only [Act.put, PT])
            (refine tkA 5 ?_ ?_ hHeld ?_; rotate_left; (intro w hSw; (try dsimp only at hSw); go_simp; try with_reducible rfl); simp only [Act.put, PT])
            (refine tkA 6 ?_ ?_ hHeld ?_; rotate_left; (intro w hSw; (try dsimp only at hSw); go_simp; try with_reducible rfl); simp only [Act.put, PT])
            (refine tkA 7 ?_ ?_ hHeld ?_; rotate_left; (intro w hSw; (try dsimp only at hSw); go_simp; try with_reducible rfl); simp only [Act.put, PT])
            (refine tkA 8 ?_ ?_ hHeld ?_; rotate_left; (intro w hSw; (try dsimp only at hSw); go_simp; try with_reducible rfl); simp only [Act.put, PT])
            (refine tkA 9 ?_ ?_ hHeld ?_; rotate_left; (intro w hSw; (try dsimp only at hSw); go_simp; try with_reducible rfl); simp only [Act.put, PT])
            (refine tkA 10 ?_ ?_ hHeld ?_; rotate_left; (intro w hSw; (try dsimp only at hSw); go_simp; try with_reducible rfl); simp only [Act.put, PT])
            (refine tkA 11 ?_ ?_ hHeld ?_; rotate_left; (intro w hSw; (try dsimp only at hSw); go_simp; try with_reducible rfl); simp only [Act.put, PT])
            (refine tkB 12 hHeld ?_; simp only [Act.put, PT])
            (refine tkB 13 hHeld ?_; simp only [Act.put, PT])
            (refine tkB 14 hHeld ?_; simp only [Act.put, PT])
            (refine tkB 15 hHeld ?_; simp only [Act.put, PT])
            (refine tkB 16 hHeld ?_; simp only [Act.put, PT])
            (refine tkB 17 hHeld ?_; simp only [Act.put, PT])
            (refine tkB 18 hHeld ?_; simp only [Act.put, PT])
            (refine tkB 19 hHeld ?_; simp only [Act.put, PT])
            (refine tkB 20 hHeld ?_; simp only [Act.put, PT])
            (refine tkB 21 hHeld ?_; simp only [Act.put, PT])
            (refine tkB 22 hHeld ?_; simp only [Act.put, PT])
            (refine tkB 23 hHeld ?_; simp only [Act.put, PT])
            (refine tkB 24 hHeld ?_; simp only [Act.put, PT])
            (refine tkB 25 hHeld ?_; simp only [Act.put, PT])
            (refine tkB 26 hHeld ?_; simp only [Act.put, PT])
            (refine tkB 27 hHeld ?_; simp only [Act.put, PT])
            (refine tkB 28 hHeld ?_; simp only [Act.put, PT])
            (refine tkB 29 hHeld ?_; simp only [Act.put, PT])
            (refine tkB 30 hHeld ?_; simp only [Act.put, PT])
            (refine tkB 31 hHeld ?_; simp only [Act.put, PT])
            (refine tkB 32 hHeld ?_; simp only [Act.put, PT])
            (refine tkB 33 hHeld ?_; simp only [Act.put, PT])
            (refine tkB 34 hHeld ?_; simp only [Act.put, PT])
            (refine tkB 35 hHeld ?_; simp only [Act.put, PT])
            (refine tkA 36 ?_ ?_ hHeld ?_; rotate_left; (intro w hSw; (try dsimp only at hSw); go_simp; try with_reducible rfl); simp only [Act.put, PT])
            try simp only [Act.put, PT]
            refine wpAnyH_done (by kernel_rfl) ?_ _
            go_wp2
            go_ret
            exact ⟨false, rfl, by simp, hwe.drew⟩
        · have e1 : decide ((16384 : Int) < (N : Int) + (A6 : Int) + (A4 : Int)) = true := by simp; omega
          clear hS HSN HB4
          go_wp2_with fail
          refine wp_region_held_drew (S := (fun wx => wx.cell? ⟨b, off + k * 10 + 7, none⟩ = some (S kbody) ∧ wx.cell? ⟨b, off + k * 10 + 3, none⟩ = some (S kp) ∧ wx.cell? ⟨b, off + k * 10 + 2, none⟩ = some (S ka) ∧ wx.cell? ⟨b, off + k * 10 + 1, none⟩ = some (S ks))) (by kernel_rfl) ⟨d7, d3, d2, d1⟩ (fun hHeld => ?_)
          (refine tkA 0 ?_ ?_ hHeld ?_; rotate_left; (intro w hSw; (try dsimp only at hSw); go_simp; try with_reducible rfl); simp only [Act.put, PT])
          (refine tkA 1 ?_ ?_ hHeld ?_; rotate_left; (intro w hSw; (try dsimp only at hSw); go_simp; try with_reducible rfl); simp only [Act.put, PT])
          (refine tkA 2 ?_ ?_ hHeld ?_; rotate_left; (intro w hSw; (try dsimp only at hSw); go_simp; try with_reducible rfl); simp only [Act.put, PT])
          (refine tkB 3 hHeld ?_; simp only [Act.put, PT])
          (refine tkB 4 hHeld ?_; simp only [Act.put, PT])
          (refine tkB 5 hHeld ?_; simp only [Act.put, PT])
          (refine tkB 6 hHeld ?_; simp only [Act.put, PT])
          (refine tkB 7 hHeld ?_; simp only [Act.put, PT])
          (refine tkB 8 hHeld ?_; simp only [Act.put, PT])
          (refine tkB 9 hHeld ?_; simp only [Act.put, PT])
          (refine tkA 10 ?_ ?_ hHeld ?_; rotate_left; (intro w hSw; (try dsimp only at hSw); go_simp; try with_reducible rfl); simp only [Act.put, PT])
          (refine tkA 11 ?_ ?_ hHeld ?_; rotate_left; (intro w hSw; (try dsimp only at hSw); go_simp; try with_reducible rfl); simp only [Act.put, PT])
          (refine tkB 12 hHeld ?_; simp only [Act.put, PT])
          (refine tkB 13 hHeld ?_; simp only [Act.put, PT])
          (refine tkB 14 hHeld ?_; simp only [Act.put, PT])
          (refine tkB 15 hHeld ?_; simp only [Act.put, PT])
          (refine tkB 16 hHeld ?_; simp only [Act.put, PT])
          (refine tkB 17 hHeld ?_; simp only [Act.put, PT])
          (refine tkB 18 hHeld ?_; simp only [Act.put, PT])
          (refine tkB 19 hHeld ?_; simp only [Act.put, PT])
          (refine tkB 20 hHeld ?_; simp only [Act.put, PT])
          (refine tkB 21 hHeld ?_; simp only [Act.put, PT])
          (refine tkB 22 hHeld ?_; simp only [Act.put, PT])
          (refine tkB 23 hHeld ?_; simp only [Act.put, PT])
          (refine tkB 24 hHeld ?_; simp only [Act.put, PT])
          (refine tkB 25 hHeld ?_; simp only [Act.put, PT])
          (refine tkB 26 hHeld ?_; simp only [Act.put, PT])
          (refine tkB 27 hHeld ?_; simp only [Act.put, PT])
          (refine tkB 28 hHeld ?_; simp only [Act.put, PT])
          (refine tkB 29 hHeld ?_; simp only [Act.put, PT])
          (refine tkB 30 hHeld ?_; simp only [Act.put, PT])
          (refine tkB 31 hHeld ?_; simp only [Act.put, PT])
          (refine tkB 32 hHeld ?_; simp only [Act.put, PT])
          (refine tkB 33 hHeld ?_; simp only [Act.put, PT])
          (refine tkB 34 hHeld ?_; simp only [Act.put, PT])
          (refine tkB 35 hHeld ?_; simp only [Act.put, PT])
          (refine tkA 36 ?_ ?_ hHeld ?_; rotate_left; (intro w hSw; (try dsimp only at hSw); go_simp; try with_reducible rfl); simp only [Act.put, PT])
          try simp only [Act.put, PT]
          refine wpAnyH_done (by kernel_rfl) ?_ _
          go_wp2
          go_ret
          exact ⟨false, rfl, by simp, hwe.drew⟩
      · obtain rfl : k = 20 := by omega
        have HF : Hid (N ≤ 16384 → fsum lr ≤ 16384) := fun h => fb_le (N := N) (by rw [← HN0.out]; exact hNN) h
        by_cases q : N ≤ 16384
        · have e1 : decide ((N : Int) ≤ 16384) = true := by simp; omega
          have e1' : decide (N ≤ 16384) = true := by simpa using q
          have hq := Lib.hid (HF.out q)
          clear q
          go_wp2
          go_ret
          exact ⟨true, rfl, fun _ => ⟨hq.out, HSM.out⟩, hwr⟩
        · have e1 : decide ((N : Int) ≤ 16384) = false := by simp; omega
          have e1' : decide (N ≤ 16384) = false := by simpa using q
          clear q
          go_wp2
          go_ret
          exact ⟨false, rfl, by simp, hwr⟩
    · obtain rfl : k = L.length := by omega
      have HF : Hid (N ≤ 16384 → fsum lr ≤ 16384) := fun h => fb_le (N := N) (by rw [← HN0.out]; exact hNN) h
      have HSA : Hid (∀ d ∈ L.take 20, SmallK d) := fun d hd => HSM.out d (by rw [List.take_length]; exact List.mem_of_mem_take hd)
      by_cases q : N ≤ 16384
      · have e1 : decide ((N : Int) ≤ 16384) = true := by simp; omega
        have e1' : decide (N ≤ 16384) = true := by simpa using q
        have hq := Lib.hid (HF.out q)
        clear q
        go_wp2
        go_ret
        exact ⟨true, rfl, fun _ => ⟨hq.out, HSA.out⟩, hwr⟩
      · have e1 : decide ((N : Int) ≤ 16384) = false := by simp; omega
        have e1' : decide (N ≤ 16384) = false := by simpa using q
        clear q
        go_wp2
        go_ret
        exact ⟨false, rfl, by simp, hwr⟩
end Go.Proofs.YtahapblgmehngaaGreatDoor

