/- Parts of the proof of gr_root: the texts Law22l Cgr. -/
import Derived.Test.YtlkfmhbmcicmfaaGreatDoorG33
set_option linter.unusedSimpArgs false
set_option linter.unusedVariables false
set_option linter.unnecessarySimpa false
namespace Go.Proofs.YtlkfmhbmcicmfaaGreatDoor
open Go Go.RowKit Go.Dr
variable {n : Nm} {q q' : Cq}

set_option maxRecDepth 100000 in
set_option maxHeartbeats 16000000 in
theorem grants22_any (xs : List Bytes) (ks : Bytes) (vx vk : Value) (w : World) (hx : Ss w.heap.size w vx xs) (hk : By w.heap.size w vk ks) : Calls Tryz.prog 4 #[vx, vk] w fun e w' => e = .returned (.bool true) ∧ Below w.heap.size w w' := by
  obtain ⟨ax, cx, rfl, hxm⟩ := hx.form
  obtain ⟨ak, ck, rfl, hkc, hkm⟩ := hk.form
  go_enter Tryz.func4, Tryz.ntmps4
  go_upto_region 7 with first
    | (go_at_call 20; go_must ((with_reducible refine (awake22_any _).mono ?_); rintro r w1 ⟨rfl, hb1⟩))
    | (go_at_call 22; go_must ((with_reducible refine (Limits_any _).mono ?_); rintro r w2 ⟨rfl, hb2⟩; have hb := hb1.trans (hb2.mono hb1.size)))
    | (go_at_call 21; go_must ((with_reducible refine (new22 _).mono ?_); rintro r w3 ⟨n, F, rfl, hnB, hC, hb3⟩; have hB : w.heap.size ≤ n.B := (by have := hb.size; omega); have hb := hb.trans (hb3.mono hb.size); have hz : n.B ≤ w3.heap.size := (by have := hb3.size; omega)))
    | (go_at_call 24; go_must ((with_reducible refine (Hello_any _).mono ?_); rintro r w4 ⟨v4, rfl, hr4, hb4⟩; have hC4 := hC.on hb4; have hb04 := hb.trans (hb4.mono hb.size); have hz4 := Nat.le_trans hz hb4.size))
    | (go_at_call 26; go_must ((with_reducible refine (getO _).mono ?_); rintro r wa ⟨rfl, hba⟩; have hbA := (Below.refl wa.heap.size wa).alloc (Nat.le_refl _) (.cells #[.int .i64 1, .int .i64 4, .int .i64 1, S dS, .int .i64 0, .slice none 0 0, .int .i64 0, .int .i64 0, .int .i64 0, .int .i64 0, .int .i64 0, .bool false] 34); have hb4A := hba.trans (hbA.mono hba.size); have hBo := fun (w1 : World) (hg : Blk w1 wa.heap.size 34 #[.int .i64 1, .int .i64 4, .int .i64 1, S dS, .int .i64 0, .slice none 0 0, .int .i64 0, .int .i64 0, .int .i64 0, .int .i64 0, .int .i64 0, .bool false]) => bytesO w1 hg))
    | (go_at_call 25; go_must ((with_reducible refine (hBo _ (Blk.new _ _ _)).mono ?_); rintro r wb ⟨vb, rfl, hrb, hbb⟩; have hb4b := hb4A.trans (hbb.mono hb4A.size); have hr4b := own_below hr4 hb4b))
    | (at_builtin; go_must (refine wpList_appAt rfl _ _ 26 rfl w3.heap.size 5 (.int .u8 0) 1 1 Tryz.underlying26 (by kernel_rfl) rfl (by decide) _ _ _ rfl hr4b _ _ _ _ rfl (Rd.own hrb) (b8_one2 _) (by decide) (by decide) (Nat.le_trans hb4.size hb4b.size) ?_; intro a7 c7 w7 hown7 hg7 hat7); have hb3b : Below w3.heap.size w3 wb := hb4.trans (hb4b.mono hb4.size); have hb37 : Below w3.heap.size w3 w7 := hb3b.trans ((but_grow hg7).below (fun k hk => (hr4b.lt k hk.symm).1) hb3b.size); have hC7 := hC.on hb37; have hb7 := hb.trans (hb37.mono hb.size); have hz7 := Nat.le_trans hz hb37.size; have hTk : Calls Tryz.prog 23 #[Ptr n.c, .slice a7 (prefB.length + (frB 4 0 0 []).length + (frB 1 4 1 dS).length) c7] w7 _ := Take_open _ w7 hC7 (byO hown7))
    | (go_at_call 23; go_must ((with_reducible refine hTk.mono ?_); rintro r w5 ⟨v5, j5, rfl, -, hG⟩; obtain ⟨F5, hC5, hb5, hz5⟩ := goes_on hC7 hb7 hB hz7 hG))
  go_upto_region 8 with (go_at_call 27; go_must ((with_reducible refine (Out_any _ hC5).mono ?_); rintro r w6 ⟨v6, rfl, -, -, hG⟩; obtain ⟨F6, hC6, hb6, hz6⟩ := goes_on hC5 hb5 hB hz5 hG))
  refine wp_cut (R := fun W => (∃ F nw, Cw W n (gst 0 [] nw) F ∧ nw.length ≤ 10) ∧ Below w.heap.size w W ∧ n.B ≤ W.heap.size) ⟨⟨_, _, hC6, by decide⟩, hb6, hz6⟩ ?_
  clear hC hb hz hC5 hb5 hz5 hC6 hb6 hz6
  rintro W0 ⟨⟨F0, nw0, hC, hnw0⟩, hb, hz⟩
  go_wp2
  go_loopw [7, 8, 9, 10] (fun s7 s8 s9 i wr => ∃ (k : Nat) (came : Int) (nw : List Value), k ≤ xs.length ∧ k ≤ 50 ∧ i = .int .i64 (k : Int) ∧ (∀ j, j < k → (xs.getD j []).length ≤ 700) ∧ s7 = .int .i64 ((gsum xs ks k : Nat) : Int) ∧ s8 = S (gcat xs k) ∧ s9 = S (gcat xs k) ∧ 0 ≤ came ∧ came ≤ 700 * k ∧ (∃ F, Cw wr n (gst came (flatF (gouts xs ks k)) nw) F) ∧ Below w.heap.size w wr ∧ n.B ≤ wr.heap.size ∧ nw.length ≤ 10) (fun _ _ _ i _ => 50 - (intOf i).toNat)
  case atStart => exact ⟨0, 0, nw0, Nat.zero_le _, by decide, rfl, (fun j hj => absurd hj (Nat.not_lt_zero _)), rfl, rfl, rfl, Int.le_refl _, by decide, ⟨F0, hC⟩, hb, hz, hnw0⟩
  case round =>
    obtain ⟨k, came, nw, hk1, hk2, rfl, hall, rfl, rfl, rfl, hc0, hc1, ⟨F, hC⟩, hb, hz, hnw⟩ := hrel
    by_cases hlt : k < xs.length ∧ k < 50
    · obtain ⟨hl1, hl2⟩ := hlt
      have hgs := gsum_le xs ks k hall
      have hgc := gcat_le xs k hall
      have hgb := gouts_bytes xs ks k
      obtain ⟨bx, ox, rfl, hbx, cx0⟩ := Ss.at (hx.below hb) k hl1
      have hd0 : xs[k] = xs.getD k [] := by rw [List.getD_eq_getElem?_getD, List.getElem?_eq_getElem hl1]; rfl
      obtain ⟨d, ed⟩ : ∃ d, d = xs.getD k [] := ⟨_, rfl⟩
      rw [hd0, ← ed] at cx0
      have ED := Lib.hid ed
      clear hd0 ed
      go_upto_region 15 with fail
      have hkw := hk.below hb
      have hbA := (Below.refl wr.heap.size wr).alloc (Nat.le_refl _) (.cells #[.int .i64 0, .int .i64 0, .int .i64 1, S d, .int .i64 0, .slice none 0 0, .int .i64 0, .int .i64 0, .int .i64 0, .int .i64 0, .int .i64 0, .bool false] 34)
      refine wp_cut (R := fun W => Blk W wr.heap.size 34 #[.int .i64 0, .int .i64 0, .int .i64 1, S d, .int .i64 0, .slice none 0 0, .int .i64 0, .int .i64 0, .int .i64 0, .int .i64 0, .int .i64 0, .bool false] ∧ Below wr.heap.size wr W) ⟨Blk.new _ _ _, hbA⟩ ?_
      clear hbA
      rintro W1 ⟨hF1, hb1w⟩
      have f1 := hF1.free 1
      have f4 := hF1.free 4
      have g1' : W1.cell? ⟨wr.heap.size, 1, none⟩ = some (.int .i64 0) := hF1.cell 1
      have g4' : W1.cell? ⟨wr.heap.size, 4, none⟩ = some (.int .i64 0) := hF1.cell 4
      by_cases hkk : k < ks.length
      · obtain ⟨bk, ok, rfl, hbk, ck0⟩ := (hkw.below (hb1w.mono hb.size)).at k hkk
        obtain ⟨c, ec⟩ : ∃ c : Nat, c = ks[k].toNat := ⟨_, rfl⟩
        replace ck0 : W1.cell? ⟨bk, ok + k, none⟩ = some (.int .u8 (c : Int)) := by rw [ec]; exact ck0
        have hc8 : c < 256 := by rw [ec]; exact ks[k].toNat_lt
        have hwc : IntKind.i64.wrap (c : Int) = (c : Int) := IntWalk.i64_in _ (by omega)
        have e1 : gpad ks k = decide (c % 2 = 1) := by unfold gpad; rw [dif_pos hkk, ec]
        have e2 : gp ks k = if gpad ks k then c else 0 := by unfold gp; rw [List.getD_eq_getElem?_getD, List.getElem?_eq_getElem hkk, ec]; rfl
        have hcw : bk ≠ wr.heap.size := by have := hb.size; omega
        have ck1 : (W1.setCell ⟨wr.heap.size, 1, none⟩ (.int .i64 8)).cell? ⟨bk, ok + k, none⟩ = some (.int .u8 (c : Int)) := (((Below.refl wr.heap.size W1).setCell (p := ⟨wr.heap.size, 1, none⟩) (Nat.le_refl _) (.int .i64 8)).cell (p := ⟨bk, ok + k, none⟩) (by show bk < wr.heap.size; have := hb.size; omega)).trans ck0
        have E1 := Lib.hid e1
        have E2 := Lib.hid e2
        clear ec e1 e2
        by_cases h4 : c % 2 = 1
        · have t4 : (((c : Int) % 2) == 1) = true := by simp; omega
          go_upto_region 18 with fail
          refine wp_cut (R := fun W => Blk W wr.heap.size 34 #[.int .i64 0, .int .i64 (gfl ks k : Int), .int .i64 1, S d, .int .i64 (gp ks k : Int), .slice none 0 0, .int .i64 0, .int .i64 0, .int .i64 0, .int .i64 0, .int .i64 0, .bool false] ∧ Below wr.heap.size wr W) ⟨?_, (hb1w.setCell (p := ⟨wr.heap.size, 1, none⟩) (Nat.le_refl _) _).setCell (p := ⟨wr.heap.size, 4, none⟩) (Nat.le_refl _) _⟩ ?_
          · have q0 : gpad ks k = true := by rw [E1.out]; simpa using h4
            have q1 : gfl ks k = 8 := by unfold gfl; rw [q0]; rfl
            have q2 : gp ks k = c := by rw [E2.out, q0]; rfl
            rw [q1, q2]
            exact (hF1.set 1 (.int .i64 8)).set 4 (.int .i64 (c : Int))
          · clear g1' g4' f1 f4 hF1 hb1w E1 E2 h4 t4 ck0 ck1 hkw hwc
            rintro W2 ⟨hF2, hb2w⟩
            obtain ⟨fl, efl⟩ : ∃ fl, fl = gfl ks k := ⟨_, rfl⟩
            obtain ⟨p, ep⟩ : ∃ p, p = gp ks k := ⟨_, rfl⟩
            have ed := ED.out
            have hs1 := gsum_succ xs ks k
            have hs2 := gcat_succ xs k
            have hs3 := gouts_succ xs ks k
            have hgk := gk_of xs ks k
            rw [← efl, ← ep] at hF2 hs1 hs3 hgk
            rw [← ed] at hs1 hs3 hgk
            rw [← ed] at hs2
            have HS := Lib.hid (And.intro hs1 (And.intro hs2 hs3))
            clear efl ep ed hs1 hs2 hs3
            have hC2 := hC.on hb2w
            have hb2 : Below w.heap.size w W2 := hb.trans (hb2w.mono hb.size)
            have hz2 : n.B ≤ W2.heap.size := Nat.le_trans hz hb2w.size
            (have g0 : W2.cell? ⟨wr.heap.size, 0, none⟩ = some (.int .i64 0) := hF2.cell 0; have g1 : W2.cell? ⟨wr.heap.size, 1, none⟩ = some (.int .i64 (fl : Int)) := hF2.cell 1; have g2 : W2.cell? ⟨wr.heap.size, 2, none⟩ = some (.int .i64 1) := hF2.cell 2; have g3 : W2.cell? ⟨wr.heap.size, 3, none⟩ = some (S d) := hF2.cell 3; have g4 : W2.cell? ⟨wr.heap.size, 4, none⟩ = some (.int .i64 (p : Int)) := hF2.cell 4; have g5 : W2.cell? ⟨wr.heap.size, 5, none⟩ = some (.slice none 0 0) := hF2.cell 5; have g6 : W2.cell? ⟨wr.heap.size, 6, none⟩ = some (.int .i64 0) := hF2.cell 6; have g7 : W2.cell? ⟨wr.heap.size, 7, none⟩ = some (.int .i64 0) := hF2.cell 7; have g8 : W2.cell? ⟨wr.heap.size, 8, none⟩ = some (.int .i64 0) := hF2.cell 8; have g9 : W2.cell? ⟨wr.heap.size, 9, none⟩ = some (.int .i64 0) := hF2.cell 9; have g10 : W2.cell? ⟨wr.heap.size, 10, none⟩ = some (.int .i64 0) := hF2.cell 10; have g11 : W2.cell? ⟨wr.heap.size, 11, none⟩ = some (.bool false) := hF2.cell 11)
            by_cases h7 : 700 < d.length
            · have h7' : decide ((700 : Int) < (d.length : Int)) = true := decide_eq_true (by omega)
              go_wp2
              go_ret
              exact ⟨rfl, hb2⟩
            · have h7' : decide ((700 : Int) < (d.length : Int)) = false := decide_eq_false (by omega)
              have hgk := hgk (by omega)
              have hNb := hgk.N
              have hBy : ∀ (w1 : World) (g : Nat), Blk w1 g 34 #[.int .i64 0, .int .i64 (fl : Int), .int .i64 1, S d, .int .i64 (p : Int), .slice none 0 0, .int .i64 0, .int .i64 0, .int .i64 0, .int .i64 0, .int .i64 0, .bool false] → Calls Tryz.prog 25 #[.slice (some ⟨g, 0, none⟩) 1 1] w1 (OutC (frB 0 fl 1 (gpl fl p d)) w1) := fun w1 g hg => bytes_gk hgk w1 hg
              go_wp2_with first
                | (go_at_call 28; go_must ((with_reducible refine (pay_gk hgk _).mono ?_); rintro r w3 ⟨a3, c3, rfl, hb3⟩; obtain ⟨hC3, hb3', hz3⟩ := cw_on hC2 hb2 hz2 hb3; have hF3 := hF2.on hb3; (have q0 : w3.cell? ⟨wr.heap.size, 0, none⟩ = some (.int .i64 0) := hF3.cell 0; have q1 : w3.cell? ⟨wr.heap.size, 1, none⟩ = some (.int .i64 (fl : Int)) := hF3.cell 1; have q2 : w3.cell? ⟨wr.heap.size, 2, none⟩ = some (.int .i64 1) := hF3.cell 2; have q3 : w3.cell? ⟨wr.heap.size, 3, none⟩ = some (S d) := hF3.cell 3; have q4 : w3.cell? ⟨wr.heap.size, 4, none⟩ = some (.int .i64 (p : Int)) := hF3.cell 4; have q5 : w3.cell? ⟨wr.heap.size, 5, none⟩ = some (.slice none 0 0) := hF3.cell 5; have q6 : w3.cell? ⟨wr.heap.size, 6, none⟩ = some (.int .i64 0) := hF3.cell 6; have q7 : w3.cell? ⟨wr.heap.size, 7, none⟩ = some (.int .i64 0) := hF3.cell 7; have q8 : w3.cell? ⟨wr.heap.size, 8, none⟩ = some (.int .i64 0) := hF3.cell 8; have q9 : w3.cell? ⟨wr.heap.size, 9, none⟩ = some (.int .i64 0) := hF3.cell 9; have q10 : w3.cell? ⟨wr.heap.size, 10, none⟩ = some (.int .i64 0) := hF3.cell 10; have q11 : w3.cell? ⟨wr.heap.size, 11, none⟩ = some (.bool false) := hF3.cell 11)))
                | (go_at_call 25; go_must ((with_reducible refine (hBy _ _ (Blk.new _ _ _)).mono ?_); rintro r w9 ⟨vb, rfl, hrb, hb9⟩; have hbx : Below w3.heap.size w3 w9 := ((Below.refl _ _).alloc (Nat.le_refl _) _).trans (hb9.mono (by simp)); obtain ⟨hC9, hb9', hz9⟩ := cw_on hC3 hb3' hz3 hbx; have hTk := Take_gk hgk came (flatF (gouts xs ks k)) nw hc0 (by omega) (by omega) w9 hC9 vb (own_by hrb)))
                | (go_at_call 23; go_must ((with_reducible refine hTk.mono ?_); rintro r w10 ⟨g10, c10, rfl, k7, hG⟩; obtain ⟨F10, hC10, hb10, hz10⟩ := goes_on hC9 hb9' hB hz9 hG))
              refine wp_loop_rounds 2 ?_
              rw [rounds_succ]
              go_wp2
              rw [rounds_succ]
              go_wp2
              go_roundw
              case rel =>
                obtain ⟨e1, e2, e3⟩ := HS.out
                refine ⟨k + 1, came + d.length, bodyN d, by omega, by omega, by go_num, ?_, by rw [e1]; try (first | rfl | (simp; done) | (simp; omega)), by rw [e2]; try (first | rfl | simp), by rw [e2]; try (first | rfl | simp), by omega, by omega, ⟨F10, ?_⟩, hb10, hz10, Nat.le_refl 10⟩
                · intro j hj
                  by_cases hjk : j < k
                  · exact hall j hjk
                  · obtain rfl : j = k := by omega
                    rw [← ED.out]
                    omega
                · rw [e3, flatF, List.flatMap_append]
                  exact hC10
              case measure => simp [intOf]; omega
        · have t4 : (((c : Int) % 2) == 1) = false := by simp; omega
          go_upto_region 18 with fail
          refine wp_cut (R := fun W => Blk W wr.heap.size 34 #[.int .i64 0, .int .i64 (gfl ks k : Int), .int .i64 1, S d, .int .i64 (gp ks k : Int), .slice none 0 0, .int .i64 0, .int .i64 0, .int .i64 0, .int .i64 0, .int .i64 0, .bool false] ∧ Below wr.heap.size wr W) ⟨?_, hb1w⟩ ?_
          · have q0 : gpad ks k = false := by rw [E1.out]; simpa using h4
            have q1 : gfl ks k = 0 := by unfold gfl; rw [q0]; rfl
            have q2 : gp ks k = 0 := by rw [E2.out, q0]; rfl
            rw [q1, q2]
            exact hF1
          · clear g1' g4' f1 f4 hF1 hb1w E1 E2 h4 t4 ck0 ck1 hkw hwc
            rintro W2 ⟨hF2, hb2w⟩
            obtain ⟨fl, efl⟩ : ∃ fl, fl = gfl ks k := ⟨_, rfl⟩
            obtain ⟨p, ep⟩ : ∃ p, p = gp ks k := ⟨_, rfl⟩
            have ed := ED.out
            have hs1 := gsum_succ xs ks k
            have hs2 := gcat_succ xs k
            have hs3 := gouts_succ xs ks k
            have hgk := gk_of xs ks k
            rw [← efl, ← ep] at hF2 hs1 hs3 hgk
            rw [← ed] at hs1 hs3 hgk
            rw [← ed] at hs2
            have HS := Lib.hid (And.intro hs1 (And.intro hs2 hs3))
            clear efl ep ed hs1 hs2 hs3
            have hC2 := hC.on hb2w
            have hb2 : Below w.heap.size w W2 := hb.trans (hb2w.mono hb.size)
            have hz2 : n.B ≤ W2.heap.size := Nat.le_trans hz hb2w.size
            (have g0 : W2.cell? ⟨wr.heap.size, 0, none⟩ = some (.int .i64 0) := hF2.cell 0; have g1 : W2.cell? ⟨wr.heap.size, 1, none⟩ = some (.int .i64 (fl : Int)) := hF2.cell 1; have g2 : W2.cell? ⟨wr.heap.size, 2, none⟩ = some (.int .i64 1) := hF2.cell 2; have g3 : W2.cell? ⟨wr.heap.size, 3, none⟩ = some (S d) := hF2.cell 3; have g4 : W2.cell? ⟨wr.heap.size, 4, none⟩ = some (.int .i64 (p : Int)) := hF2.cell 4; have g5 : W2.cell? ⟨wr.heap.size, 5, none⟩ = some (.slice none 0 0) := hF2.cell 5; have g6 : W2.cell? ⟨wr.heap.size, 6, none⟩ = some (.int .i64 0) := hF2.cell 6; have g7 : W2.cell? ⟨wr.heap.size, 7, none⟩ = some (.int .i64 0) := hF2.cell 7; have g8 : W2.cell? ⟨wr.heap.size, 8, none⟩ = some (.int .i64 0) := hF2.cell 8; have g9 : W2.cell? ⟨wr.heap.size, 9, none⟩ = some (.int .i64 0) := hF2.cell 9; have g10 : W2.cell? ⟨wr.heap.size, 10, none⟩ = some (.int .i64 0) := hF2.cell 10; have g11 : W2.cell? ⟨wr.heap.size, 11, none⟩ = some (.bool false) := hF2.cell 11)
            by_cases h7 : 700 < d.length
            · have h7' : decide ((700 : Int) < (d.length : Int)) = true := decide_eq_true (by omega)
              go_wp2
              go_ret
              exact ⟨rfl, hb2⟩
            · have h7' : decide ((700 : Int) < (d.length : Int)) = false := decide_eq_false (by omega)
              have hgk := hgk (by omega)
              have hNb := hgk.N
              have hBy : ∀ (w1 : World) (g : Nat), Blk w1 g 34 #[.int .i64 0, .int .i64 (fl : Int), .int .i64 1, S d, .int .i64 (p : Int), .slice none 0 0, .int .i64 0, .int .i64 0, .int .i64 0, .int .i64 0, .int .i64 0, .bool false] → Calls Tryz.prog 25 #[.slice (some ⟨g, 0, none⟩) 1 1] w1 (OutC (frB 0 fl 1 (gpl fl p d)) w1) := fun w1 g hg => bytes_gk hgk w1 hg
              go_wp2_with first
                | (go_at_call 28; go_must ((with_reducible refine (pay_gk hgk _).mono ?_); rintro r w3 ⟨a3, c3, rfl, hb3⟩; obtain ⟨hC3, hb3', hz3⟩ := cw_on hC2 hb2 hz2 hb3; have hF3 := hF2.on hb3; (have q0 : w3.cell? ⟨wr.heap.size, 0, none⟩ = some (.int .i64 0) := hF3.cell 0; have q1 : w3.cell? ⟨wr.heap.size, 1, none⟩ = some (.int .i64 (fl : Int)) := hF3.cell 1; have q2 : w3.cell? ⟨wr.heap.size, 2, none⟩ = some (.int .i64 1) := hF3.cell 2; have q3 : w3.cell? ⟨wr.heap.size, 3, none⟩ = some (S d) := hF3.cell 3; have q4 : w3.cell? ⟨wr.heap.size, 4, none⟩ = some (.int .i64 (p : Int)) := hF3.cell 4; have q5 : w3.cell? ⟨wr.heap.size, 5, none⟩ = some (.slice none 0 0) := hF3.cell 5; have q6 : w3.cell? ⟨wr.heap.size, 6, none⟩ = some (.int .i64 0) := hF3.cell 6; have q7 : w3.cell? ⟨wr.heap.size, 7, none⟩ = some (.int .i64 0) := hF3.cell 7; have q8 : w3.cell? ⟨wr.heap.size, 8, none⟩ = some (.int .i64 0) := hF3.cell 8; have q9 : w3.cell? ⟨wr.heap.size, 9, none⟩ = some (.int .i64 0) := hF3.cell 9; have q10 : w3.cell? ⟨wr.heap.size, 10, none⟩ = some (.int .i64 0) := hF3.cell 10; have q11 : w3.cell? ⟨wr.heap.size, 11, none⟩ = some (.bool false) := hF3.cell 11)))
                | (go_at_call 25; go_must ((with_reducible refine (hBy _ _ (Blk.new _ _ _)).mono ?_); rintro r w9 ⟨vb, rfl, hrb, hb9⟩; have hbx : Below w3.heap.size w3 w9 := ((Below.refl _ _).alloc (Nat.le_refl _) _).trans (hb9.mono (by simp)); obtain ⟨hC9, hb9', hz9⟩ := cw_on hC3 hb3' hz3 hbx; have hTk := Take_gk hgk came (flatF (gouts xs ks k)) nw hc0 (by omega) (by omega) w9 hC9 vb (own_by hrb)))
                | (go_at_call 23; go_must ((with_reducible refine hTk.mono ?_); rintro r w10 ⟨g10, c10, rfl, k7, hG⟩; obtain ⟨F10, hC10, hb10, hz10⟩ := goes_on hC9 hb9' hB hz9 hG))
              refine wp_loop_rounds 2 ?_
              rw [rounds_succ]
              go_wp2
              rw [rounds_succ]
              go_wp2
              go_roundw
              case rel =>
                obtain ⟨e1, e2, e3⟩ := HS.out
                refine ⟨k + 1, came + d.length, bodyN d, by omega, by omega, by go_num, ?_, by rw [e1]; try (first | rfl | (simp; done) | (simp; omega)), by rw [e2]; try (first | rfl | simp), by rw [e2]; try (first | rfl | simp), by omega, by omega, ⟨F10, ?_⟩, hb10, hz10, Nat.le_refl 10⟩
                · intro j hj
                  by_cases hjk : j < k
                  · exact hall j hjk
                  · obtain rfl : j = k := by omega
                    rw [← ED.out]
                    omega
                · rw [e3, flatF, List.flatMap_append]
                  exact hC10
              case measure => simp [intOf]; omega
      · go_upto_region 18 with fail
        refine wp_cut (R := fun W => Blk W wr.heap.size 34 #[.int .i64 0, .int .i64 (gfl ks k : Int), .int .i64 1, S d, .int .i64 (gp ks k : Int), .slice none 0 0, .int .i64 0, .int .i64 0, .int .i64 0, .int .i64 0, .int .i64 0, .bool false] ∧ Below wr.heap.size wr W) ⟨?_, hb1w⟩ ?_
        · have q0 : gpad ks k = false := by unfold gpad; rw [dif_neg hkk]
          have q1 : gfl ks k = 0 := by unfold gfl; rw [q0]; rfl
          have q2 : gp ks k = 0 := by unfold gp; rw [q0]; rfl
          rw [q1, q2]
          exact hF1
        · clear g1' g4' f1 f4 hF1 hb1w hkw
          rintro W2 ⟨hF2, hb2w⟩
          obtain ⟨fl, efl⟩ : ∃ fl, fl = gfl ks k := ⟨_, rfl⟩
          obtain ⟨p, ep⟩ : ∃ p, p = gp ks k := ⟨_, rfl⟩
          have ed := ED.out
          have hs1 := gsum_succ xs ks k
          have hs2 := gcat_succ xs k
          have hs3 := gouts_succ xs ks k
          have hgk := gk_of xs ks k
          rw [← efl, ← ep] at hF2 hs1 hs3 hgk
          rw [← ed] at hs1 hs3 hgk
          rw [← ed] at hs2
          have HS := Lib.hid (And.intro hs1 (And.intro hs2 hs3))
          clear efl ep ed hs1 hs2 hs3
          have hC2 := hC.on hb2w
          have hb2 : Below w.heap.size w W2 := hb.trans (hb2w.mono hb.size)
          have hz2 : n.B ≤ W2.heap.size := Nat.le_trans hz hb2w.size
          (have g0 : W2.cell? ⟨wr.heap.size, 0, none⟩ = some (.int .i64 0) := hF2.cell 0; have g1 : W2.cell? ⟨wr.heap.size, 1, none⟩ = some (.int .i64 (fl : Int)) := hF2.cell 1; have g2 : W2.cell? ⟨wr.heap.size, 2, none⟩ = some (.int .i64 1) := hF2.cell 2; have g3 : W2.cell? ⟨wr.heap.size, 3, none⟩ = some (S d) := hF2.cell 3; have g4 : W2.cell? ⟨wr.heap.size, 4, none⟩ = some (.int .i64 (p : Int)) := hF2.cell 4; have g5 : W2.cell? ⟨wr.heap.size, 5, none⟩ = some (.slice none 0 0) := hF2.cell 5; have g6 : W2.cell? ⟨wr.heap.size, 6, none⟩ = some (.int .i64 0) := hF2.cell 6; have g7 : W2.cell? ⟨wr.heap.size, 7, none⟩ = some (.int .i64 0) := hF2.cell 7; have g8 : W2.cell? ⟨wr.heap.size, 8, none⟩ = some (.int .i64 0) := hF2.cell 8; have g9 : W2.cell? ⟨wr.heap.size, 9, none⟩ = some (.int .i64 0) := hF2.cell 9; have g10 : W2.cell? ⟨wr.heap.size, 10, none⟩ = some (.int .i64 0) := hF2.cell 10; have g11 : W2.cell? ⟨wr.heap.size, 11, none⟩ = some (.bool false) := hF2.cell 11)
          by_cases h7 : 700 < d.length
          · have h7' : decide ((700 : Int) < (d.length : Int)) = true := decide_eq_true (by omega)
            go_wp2
            go_ret
            exact ⟨rfl, hb2⟩
          · have h7' : decide ((700 : Int) < (d.length : Int)) = false := decide_eq_false (by omega)
            have hgk := hgk (by omega)
            have hNb := hgk.N
            have hBy : ∀ (w1 : World) (g : Nat), Blk w1 g 34 #[.int .i64 0, .int .i64 (fl : Int), .int .i64 1, S d, .int .i64 (p : Int), .slice none 0 0, .int .i64 0, .int .i64 0, .int .i64 0, .int .i64 0, .int .i64 0, .bool false] → Calls Tryz.prog 25 #[.slice (some ⟨g, 0, none⟩) 1 1] w1 (OutC (frB 0 fl 1 (gpl fl p d)) w1) := fun w1 g hg => bytes_gk hgk w1 hg
            go_wp2_with first
              | (go_at_call 28; go_must ((with_reducible refine (pay_gk hgk _).mono ?_); rintro r w3 ⟨a3, c3, rfl, hb3⟩; obtain ⟨hC3, hb3', hz3⟩ := cw_on hC2 hb2 hz2 hb3; have hF3 := hF2.on hb3; (have q0 : w3.cell? ⟨wr.heap.size, 0, none⟩ = some (.int .i64 0) := hF3.cell 0; have q1 : w3.cell? ⟨wr.heap.size, 1, none⟩ = some (.int .i64 (fl : Int)) := hF3.cell 1; have q2 : w3.cell? ⟨wr.heap.size, 2, none⟩ = some (.int .i64 1) := hF3.cell 2; have q3 : w3.cell? ⟨wr.heap.size, 3, none⟩ = some (S d) := hF3.cell 3; have q4 : w3.cell? ⟨wr.heap.size, 4, none⟩ = some (.int .i64 (p : Int)) := hF3.cell 4; have q5 : w3.cell? ⟨wr.heap.size, 5, none⟩ = some (.slice none 0 0) := hF3.cell 5; have q6 : w3.cell? ⟨wr.heap.size, 6, none⟩ = some (.int .i64 0) := hF3.cell 6; have q7 : w3.cell? ⟨wr.heap.size, 7, none⟩ = some (.int .i64 0) := hF3.cell 7; have q8 : w3.cell? ⟨wr.heap.size, 8, none⟩ = some (.int .i64 0) := hF3.cell 8; have q9 : w3.cell? ⟨wr.heap.size, 9, none⟩ = some (.int .i64 0) := hF3.cell 9; have q10 : w3.cell? ⟨wr.heap.size, 10, none⟩ = some (.int .i64 0) := hF3.cell 10; have q11 : w3.cell? ⟨wr.heap.size, 11, none⟩ = some (.bool false) := hF3.cell 11)))
              | (go_at_call 25; go_must ((with_reducible refine (hBy _ _ (Blk.new _ _ _)).mono ?_); rintro r w9 ⟨vb, rfl, hrb, hb9⟩; have hbx : Below w3.heap.size w3 w9 := ((Below.refl _ _).alloc (Nat.le_refl _) _).trans (hb9.mono (by simp)); obtain ⟨hC9, hb9', hz9⟩ := cw_on hC3 hb3' hz3 hbx; have hTk := Take_gk hgk came (flatF (gouts xs ks k)) nw hc0 (by omega) (by omega) w9 hC9 vb (own_by hrb)))
              | (go_at_call 23; go_must ((with_reducible refine hTk.mono ?_); rintro r w10 ⟨g10, c10, rfl, k7, hG⟩; obtain ⟨F10, hC10, hb10, hz10⟩ := goes_on hC9 hb9' hB hz9 hG))
            refine wp_loop_rounds 2 ?_
            rw [rounds_succ]
            go_wp2
            rw [rounds_succ]
            go_wp2
            go_roundw
            case rel =>
              obtain ⟨e1, e2, e3⟩ := HS.out
              refine ⟨k + 1, came + d.length, bodyN d, by omega, by omega, by go_num, ?_, by rw [e1]; try (first | rfl | (simp; done) | (simp; omega)), by rw [e2]; try (first | rfl | simp), by rw [e2]; try (first | rfl | simp), by omega, by omega, ⟨F10, ?_⟩, hb10, hz10, Nat.le_refl 10⟩
              · intro j hj
                by_cases hjk : j < k
                · exact hall j hjk
                · obtain rfl : j = k := by omega
                  rw [← ED.out]
                  omega
              · rw [e3, flatF, List.flatMap_append]
                exact hC10
            case measure => simp [intOf]; omega
    · have hlt2 : ¬ k < xs.length ∨ (k < xs.length ∧ ¬ k < 50) := by omega
      clear hlt
      rcases hlt2 with h1 | ⟨h1, h2⟩
      · obtain ⟨wo, rfl⟩ : ∃ wo : World, wo = wr := ⟨_, rfl⟩
        have hgs := gsum_le xs ks k hall
        have hgo := gouts_len xs ks k
        go_upto_region 28 with first
          | (go_at_call 27; go_must ((with_reducible refine (Out_any _ hC).mono ?_); rintro r w8 ⟨v8, rfl, hr8, -, hG⟩; obtain ⟨F8, hC8, hb8, hz8⟩ := goes_on hC hb hB hz hG; have hAl := All_of (gouts xs ks k) (fun x hx => (gouts_mem hall hx).1) v8 w8 (own_by hr8) (by omega)))
          | (go_at_call 29; go_must ((with_reducible refine hAl.mono ?_); rintro r w9 ⟨vo, its, rfl, hits, hrowI, hst, hb9⟩; obtain ⟨ao, co, rfl⟩ := own_form hrowI; obtain ⟨hC9, hb9', hz9⟩ := cw_on hC8 hb8 hz8 hb9))
        have HITS := Lib.hid hits
        clear hits
        go_wp2
        go_loopw [17, 18, 19] (fun s17 s18 i wr => ∃ j, j ≤ (gouts xs ks k).length ∧ i = .int .i64 (j : Int) ∧ s17 = .int .i64 ((allF ((gouts xs ks k).take j) : Nat) : Int) ∧ s18 = .int .i64 ((ownF ((gouts xs ks k).take j) : Nat) : Int) ∧ Below w9.heap.size w9 wr) (fun _ _ i _ => (gouts xs ks k).length - (intOf i).toNat)
        case atStart => exact ⟨0, Nat.zero_le _, rfl, rfl, rfl, Below.refl _ _⟩
        case round =>
          obtain ⟨j, hj, rfl, rfl, rfl, hbj⟩ := hrel
          by_cases hlt : j < (gouts xs ks k).length
          · have hil : its.length = (gouts xs ks k).length := by have := congrArg List.length HITS.out; simpa using this
            have hji : j < its.length := by omega
            have hrowJ : w9.ownsRow w8.heap.size 72 15 (.slice ao its.length co) its.length (itcells its) := by rw [hil]; exact hrowI
            clear hil
            obtain ⟨-, st, inc, hinc, ef, h01⟩ := gouts_mem hall (List.getElem_mem hlt)
            have hix : ((its[j]).f, (its[j]).x) = ((gouts xs ks k)[j].2, ({} : Ft)) := by
              have h1 := List.getElem_of_eq HITS.out (i := j) (by simpa using hji)
              simpa using h1
            obtain ⟨gi, rfl, hci⟩ := its_at2 (own_below hrowJ hbj) j hji
            have hsj := hst its[j] (List.getElem_mem hji)
            obtain ⟨⟨f, x, vs⟩, ei⟩ : ∃ i, i = its[j] := ⟨_, rfl⟩
            rw [← ei] at hix hci hsj
            simp only [Prod.mk.injEq] at hix
            obtain ⟨rfl, rfl⟩ := hix
            rw [ef] at hci hsj
            replace hsj : w9.ownsRow w8.heap.size 31 2 vs 0 [] := hsj
            obtain ⟨sa, sc, rfl⟩ := own_form hsj
            have y0 : wr.cell? ⟨gi, j * 15, none⟩ = some (.int .i64 8) := hci 0 (by decide)
            have y1 : wr.cell? ⟨gi, j * 15 + 1, none⟩ = some (.int .i64 0) := hci 1 (by decide)
            have y2 : wr.cell? ⟨gi, j * 15 + 2, none⟩ = some (.int .i64 (st : Int)) := hci 2 (by decide)
            have y3 : wr.cell? ⟨gi, j * 15 + 3, none⟩ = some (S []) := hci 3 (by decide)
            have y4 : wr.cell? ⟨gi, j * 15 + 4, none⟩ = some (.int .i64 0) := hci 4 (by decide)
            have y5 : wr.cell? ⟨gi, j * 15 + 5, none⟩ = some (.slice sa 0 sc) := hci 5 (by decide)
            have y6 : wr.cell? ⟨gi, j * 15 + 6, none⟩ = some (.int .i64 0) := hci 6 (by decide)
            have y7 : wr.cell? ⟨gi, j * 15 + 7, none⟩ = some (.int .i64 0) := hci 7 (by decide)
            have y8 : wr.cell? ⟨gi, j * 15 + 8, none⟩ = some (.int .i64 (inc : Int)) := hci 8 (by decide)
            have y9 : wr.cell? ⟨gi, j * 15 + 9, none⟩ = some (.int .i64 0) := hci 9 (by decide)
            have y10 : wr.cell? ⟨gi, j * 15 + 10, none⟩ = some (.int .i64 0) := hci 10 (by decide)
            have y11 : wr.cell? ⟨gi, j * 15 + 11, none⟩ = some (.bool false) := hci 11 (by decide)
            have ha := allF_take (gouts xs ks k) j hlt
            have ho := ownF_take (gouts xs ks k) j hlt
            rw [ef] at ha ho
            have hbA := allF_le (gouts xs ks k) j
            have hbO := ownF_le (gouts xs ks k) j
            have hsumA := gouts_all xs ks k hall
            have hsumO := gouts_own xs ks k hall
            have HA := Lib.hid ha
            have HO := Lib.hid ho
            clear hci hsj ei ef ha ho
            have hbZ := (Below.refl wr.heap.size wr).alloc (Nat.le_refl _) (.cells #[.int .i64 8, .int .i64 0, .int .i64 (st : Int), S [], .int .i64 0, .slice sa 0 sc, .int .i64 0, .int .i64 0, .int .i64 (inc : Int), .int .i64 0, .int .i64 0, .bool false] 34)
            go_upto_region 34 with fail
            refine wp_cut (R := fun W => Blk W wr.heap.size 34 #[.int .i64 8, .int .i64 0, .int .i64 (st : Int), S [], .int .i64 0, .slice sa 0 sc, .int .i64 0, .int .i64 0, .int .i64 (inc : Int), .int .i64 0, .int .i64 0, .bool false] ∧ Below wr.heap.size wr W) ⟨Blk.new _ _ _, hbZ⟩ ?_
            clear hbZ y0 y1 y2 y3 y4 y5 y6 y7 y8 y9 y10 y11
            rintro W3 ⟨hF3, hb3⟩
            (have g0 : W3.cell? ⟨wr.heap.size, 0, none⟩ = some (.int .i64 8) := hF3.cell 0; have g1 : W3.cell? ⟨wr.heap.size, 1, none⟩ = some (.int .i64 0) := hF3.cell 1; have g2 : W3.cell? ⟨wr.heap.size, 2, none⟩ = some (.int .i64 (st : Int)) := hF3.cell 2; have g3 : W3.cell? ⟨wr.heap.size, 3, none⟩ = some (S []) := hF3.cell 3; have g4 : W3.cell? ⟨wr.heap.size, 4, none⟩ = some (.int .i64 0) := hF3.cell 4; have g5 : W3.cell? ⟨wr.heap.size, 5, none⟩ = some (.slice sa 0 sc) := hF3.cell 5; have g6 : W3.cell? ⟨wr.heap.size, 6, none⟩ = some (.int .i64 0) := hF3.cell 6; have g7 : W3.cell? ⟨wr.heap.size, 7, none⟩ = some (.int .i64 0) := hF3.cell 7; have g8 : W3.cell? ⟨wr.heap.size, 8, none⟩ = some (.int .i64 (inc : Int)) := hF3.cell 8; have g9 : W3.cell? ⟨wr.heap.size, 9, none⟩ = some (.int .i64 0) := hF3.cell 9; have g10 : W3.cell? ⟨wr.heap.size, 10, none⟩ = some (.int .i64 0) := hF3.cell 10; have g11 : W3.cell? ⟨wr.heap.size, 11, none⟩ = some (.bool false) := hF3.cell 11)
            rcases h01 with rfl | rfl
            · go_wp2
              go_roundw
              case rel => exact ⟨j + 1, by omega, by go_num, by rw [HA.out]; try (first | rfl | (simp; done) | (simp; omega)), by rw [HO.out]; try (first | rfl | (simp; done) | (simp; omega)), hbj.trans (hb3.mono hbj.size)⟩
              case measure => simp [intOf]; omega
            · go_wp2
              go_roundw
              case rel => exact ⟨j + 1, by omega, by go_num, by rw [HA.out]; try (first | rfl | (simp; done) | (simp; omega)), by rw [HO.out]; try (first | rfl | (simp; done) | (simp; omega)), hbj.trans (hb3.mono hbj.size)⟩
              case measure => simp [intOf]; omega
          · obtain rfl : j = (gouts xs ks k).length := by omega
            have hC10 := hC9.on hbj
            have hSt : Calls Tryz.prog 30 #[Ptr n.c, .int .i64 1] wr (fun e w' => e = .returned (.int .i64 1) ∧ w' = wr) := State_live wr hC10 1 { st := 1, came := came } (by simp) (by decide) (show ¬ (1 : Int) < 1 by decide) (by decide) (show (1 : Int) < 4294967296 by decide)
            have hA1 : allF ((gouts xs ks k).take (gouts xs ks k).length) = gsum xs ks k := by rw [List.take_length]; exact gouts_all xs ks k hall
            have hO1 : ownF ((gouts xs ks k).take (gouts xs ks k).length) = gsum xs ks k := by rw [List.take_length]; exact gouts_own xs ks k hall
            rw [hA1, hO1]
            clear hA1 hO1
            have q1 : (((gsum xs ks k : Nat) : Int) == ((gsum xs ks k : Nat) : Int)) = true := by simp
            go_wp2_with (go_at_call 30; go_must ((with_reducible refine hSt.mono ?_); rintro r w12 ⟨rfl, e12⟩; have e13 := e12.symm; subst e13))
            go_ret
            exact ⟨rfl, hb9'.trans (hbj.mono hb9'.size)⟩
      · obtain ⟨wo, rfl⟩ : ∃ wo : World, wo = wr := ⟨_, rfl⟩
        have hgs := gsum_le xs ks k hall
        have hgo := gouts_len xs ks k
        go_upto_region 28 with first
          | (go_at_call 27; go_must ((with_reducible refine (Out_any _ hC).mono ?_); rintro r w8 ⟨v8, rfl, hr8, -, hG⟩; obtain ⟨F8, hC8, hb8, hz8⟩ := goes_on hC hb hB hz hG; have hAl := All_of (gouts xs ks k) (fun x hx => (gouts_mem hall hx).1) v8 w8 (own_by hr8) (by omega)))
          | (go_at_call 29; go_must ((with_reducible refine hAl.mono ?_); rintro r w9 ⟨vo, its, rfl, hits, hrowI, hst, hb9⟩; obtain ⟨ao, co, rfl⟩ := own_form hrowI; obtain ⟨hC9, hb9', hz9⟩ := cw_on hC8 hb8 hz8 hb9))
        have HITS := Lib.hid hits
        clear hits
        go_wp2
        go_loopw [17, 18, 19] (fun s17 s18 i wr => ∃ j, j ≤ (gouts xs ks k).length ∧ i = .int .i64 (j : Int) ∧ s17 = .int .i64 ((allF ((gouts xs ks k).take j) : Nat) : Int) ∧ s18 = .int .i64 ((ownF ((gouts xs ks k).take j) : Nat) : Int) ∧ Below w9.heap.size w9 wr) (fun _ _ i _ => (gouts xs ks k).length - (intOf i).toNat)
        case atStart => exact ⟨0, Nat.zero_le _, rfl, rfl, rfl, Below.refl _ _⟩
        case round =>
          obtain ⟨j, hj, rfl, rfl, rfl, hbj⟩ := hrel
          by_cases hlt : j < (gouts xs ks k).length
          · have hil : its.length = (gouts xs ks k).length := by have := congrArg List.length HITS.out; simpa using this
            have hji : j < its.length := by omega
            have hrowJ : w9.ownsRow w8.heap.size 72 15 (.slice ao its.length co) its.length (itcells its) := by rw [hil]; exact hrowI
            clear hil
            obtain ⟨-, st, inc, hinc, ef, h01⟩ := gouts_mem hall (List.getElem_mem hlt)
            have hix : ((its[j]).f, (its[j]).x) = ((gouts xs ks k)[j].2, ({} : Ft)) := by
              have h1 := List.getElem_of_eq HITS.out (i := j) (by simpa using hji)
              simpa using h1
            obtain ⟨gi, rfl, hci⟩ := its_at2 (own_below hrowJ hbj) j hji
            have hsj := hst its[j] (List.getElem_mem hji)
            obtain ⟨⟨f, x, vs⟩, ei⟩ : ∃ i, i = its[j] := ⟨_, rfl⟩
            rw [← ei] at hix hci hsj
            simp only [Prod.mk.injEq] at hix
            obtain ⟨rfl, rfl⟩ := hix
            rw [ef] at hci hsj
            replace hsj : w9.ownsRow w8.heap.size 31 2 vs 0 [] := hsj
            obtain ⟨sa, sc, rfl⟩ := own_form hsj
            have y0 : wr.cell? ⟨gi, j * 15, none⟩ = some (.int .i64 8) := hci 0 (by decide)
            have y1 : wr.cell? ⟨gi, j * 15 + 1, none⟩ = some (.int .i64 0) := hci 1 (by decide)
            have y2 : wr.cell? ⟨gi, j * 15 + 2, none⟩ = some (.int .i64 (st : Int)) := hci 2 (by decide)
            have y3 : wr.cell? ⟨gi, j * 15 + 3, none⟩ = some (S []) := hci 3 (by decide)
            have y4 : wr.cell? ⟨gi, j * 15 + 4, none⟩ = some (.int .i64 0) := hci 4 (by decide)
            have y5 : wr.cell? ⟨gi, j * 15 + 5, none⟩ = some (.slice sa 0 sc) := hci 5 (by decide)
            have y6 : wr.cell? ⟨gi, j * 15 + 6, none⟩ = some (.int .i64 0) := hci 6 (by decide)
            have y7 : wr.cell? ⟨gi, j * 15 + 7, none⟩ = some (.int .i64 0) := hci 7 (by decide)
            have y8 : wr.cell? ⟨gi, j * 15 + 8, none⟩ = some (.int .i64 (inc : Int)) := hci 8 (by decide)
            have y9 : wr.cell? ⟨gi, j * 15 + 9, none⟩ = some (.int .i64 0) := hci 9 (by decide)
            have y10 : wr.cell? ⟨gi, j * 15 + 10, none⟩ = some (.int .i64 0) := hci 10 (by decide)
            have y11 : wr.cell? ⟨gi, j * 15 + 11, none⟩ = some (.bool false) := hci 11 (by decide)
            have ha := allF_take (gouts xs ks k) j hlt
            have ho := ownF_take (gouts xs ks k) j hlt
            rw [ef] at ha ho
            have hbA := allF_le (gouts xs ks k) j
            have hbO := ownF_le (gouts xs ks k) j
            have hsumA := gouts_all xs ks k hall
            have hsumO := gouts_own xs ks k hall
            have HA := Lib.hid ha
            have HO := Lib.hid ho
            clear hci hsj ei ef ha ho
            have hbZ := (Below.refl wr.heap.size wr).alloc (Nat.le_refl _) (.cells #[.int .i64 8, .int .i64 0, .int .i64 (st : Int), S [], .int .i64 0, .slice sa 0 sc, .int .i64 0, .int .i64 0, .int .i64 (inc : Int), .int .i64 0, .int .i64 0, .bool false] 34)
            go_upto_region 34 with fail
            refine wp_cut (R := fun W => Blk W wr.heap.size 34 #[.int .i64 8, .int .i64 0, .int .i64 (st : Int), S [], .int .i64 0, .slice sa 0 sc, .int .i64 0, .int .i64 0, .int .i64 (inc : Int), .int .i64 0, .int .i64 0, .bool false] ∧ Below wr.heap.size wr W) ⟨Blk.new _ _ _, hbZ⟩ ?_
            clear hbZ y0 y1 y2 y3 y4 y5 y6 y7 y8 y9 y10 y11
            rintro W3 ⟨hF3, hb3⟩
            (have g0 : W3.cell? ⟨wr.heap.size, 0, none⟩ = some (.int .i64 8) := hF3.cell 0; have g1 : W3.cell? ⟨wr.heap.size, 1, none⟩ = some (.int .i64 0) := hF3.cell 1; have g2 : W3.cell? ⟨wr.heap.size, 2, none⟩ = some (.int .i64 (st : Int)) := hF3.cell 2; have g3 : W3.cell? ⟨wr.heap.size, 3, none⟩ = some (S []) := hF3.cell 3; have g4 : W3.cell? ⟨wr.heap.size, 4, none⟩ = some (.int .i64 0) := hF3.cell 4; have g5 : W3.cell? ⟨wr.heap.size, 5, none⟩ = some (.slice sa 0 sc) := hF3.cell 5; have g6 : W3.cell? ⟨wr.heap.size, 6, none⟩ = some (.int .i64 0) := hF3.cell 6; have g7 : W3.cell? ⟨wr.heap.size, 7, none⟩ = some (.int .i64 0) := hF3.cell 7; have g8 : W3.cell? ⟨wr.heap.size, 8, none⟩ = some (.int .i64 (inc : Int)) := hF3.cell 8; have g9 : W3.cell? ⟨wr.heap.size, 9, none⟩ = some (.int .i64 0) := hF3.cell 9; have g10 : W3.cell? ⟨wr.heap.size, 10, none⟩ = some (.int .i64 0) := hF3.cell 10; have g11 : W3.cell? ⟨wr.heap.size, 11, none⟩ = some (.bool false) := hF3.cell 11)
            rcases h01 with rfl | rfl
            · go_wp2
              go_roundw
              case rel => exact ⟨j + 1, by omega, by go_num, by rw [HA.out]; try (first | rfl | (simp; done) | (simp; omega)), by rw [HO.out]; try (first | rfl | (simp; done) | (simp; omega)), hbj.trans (hb3.mono hbj.size)⟩
              case measure => simp [intOf]; omega
            · go_wp2
              go_roundw
              case rel => exact ⟨j + 1, by omega, by go_num, by rw [HA.out]; try (first | rfl | (simp; done) | (simp; omega)), by rw [HO.out]; try (first | rfl | (simp; done) | (simp; omega)), hbj.trans (hb3.mono hbj.size)⟩
              case measure => simp [intOf]; omega
          · obtain rfl : j = (gouts xs ks k).length := by omega
            have hC10 := hC9.on hbj
            have hSt : Calls Tryz.prog 30 #[Ptr n.c, .int .i64 1] wr (fun e w' => e = .returned (.int .i64 1) ∧ w' = wr) := State_live wr hC10 1 { st := 1, came := came } (by simp) (by decide) (show ¬ (1 : Int) < 1 by decide) (by decide) (show (1 : Int) < 4294967296 by decide)
            have hA1 : allF ((gouts xs ks k).take (gouts xs ks k).length) = gsum xs ks k := by rw [List.take_length]; exact gouts_all xs ks k hall
            have hO1 : ownF ((gouts xs ks k).take (gouts xs ks k).length) = gsum xs ks k := by rw [List.take_length]; exact gouts_own xs ks k hall
            rw [hA1, hO1]
            clear hA1 hO1
            have q1 : (((gsum xs ks k : Nat) : Int) == ((gsum xs ks k : Nat) : Int)) = true := by simp
            go_wp2_with (go_at_call 30; go_must ((with_reducible refine hSt.mono ?_); rintro r w12 ⟨rfl, e12⟩; have e13 := e12.symm; subst e13))
            go_ret
            exact ⟨rfl, hb9'.trans (hbj.mono hb9'.size)⟩
end Go.Proofs.YtlkfmhbmcicmfaaGreatDoor

namespace Go.Proofs.YtlkfmhbmcicmfaaGreatDoor
open Go Go.RowKit Go.Dr
theorem gr_root : True := by
  have h1 := @grants22_any
  have h2 := @grants22_any
  have h3 := @open_Ss
  have h4 := @open_Us

  have h6 := @law_post
  have h7 := @wf_u8
  trivial
end Go.Proofs.YtlkfmhbmcicmfaaGreatDoor

