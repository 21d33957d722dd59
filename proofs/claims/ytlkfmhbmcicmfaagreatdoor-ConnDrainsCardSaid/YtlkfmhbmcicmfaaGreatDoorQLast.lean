/- Parts of the proof of dp_root: the texts Law22j Cdp. -/
import Derived.Test.YtlkfmhbmcicmfaaGreatDoorQ33
import Derived.Test.YtlkfmhbmcicmfaaGreatDoorQ32
set_option linter.unusedSimpArgs false
set_option linter.unusedVariables false
set_option linter.unnecessarySimpa false
namespace Go.Proofs.YtlkfmhbmcicmfaaGreatDoor
open Go Go.RowKit Go.Dr
variable {n : Nm} {q q' : Cq}

/-- the connection behind so many frames -/
abbrev qp (xs : List Bytes) (ks : Bytes) (k : Nat) : Cq := { q22a bs22 with bytes := flatF (panss xs ks k) }

set_option maxRecDepth 100000 in
set_option maxHeartbeats 16000000 in
theorem pings22_any (xs : List Bytes) (ks : Bytes) (vx vk : Value) (w : World) (hx : Ss w.heap.size w vx xs) (hk : By w.heap.size w vk ks) (hxl : ∀ s ∈ xs, s.length ≤ 140737488351232) : Calls Tryz.prog 5 #[vx, vk] w fun e w' => e = .returned (.bool true) ∧ Below w.heap.size w w' := by
  obtain ⟨ax, cx, rfl, hxm⟩ := hx.form
  obtain ⟨ak, ck, rfl, hkc, hkm⟩ := hk.form
  go_enter Tryz.func5, Tryz.ntmps5
  go_upto_region 7 with first
    | (go_at_call 20; go_must ((with_reducible refine (awake22_any _).mono ?_); rintro r w1 ⟨rfl, hb1⟩))
    | (go_at_call 22; go_must ((with_reducible refine (Limits_any _).mono ?_); rintro r w2 ⟨rfl, hb2⟩; have hb := hb1.trans (hb2.mono hb1.size)))
    | (go_at_call 21; go_must ((with_reducible refine (new22 _).mono ?_); rintro r w3 ⟨n, F, rfl, hnB, hC, hb3⟩; have hB : w.heap.size ≤ n.B := (by have := hb.size; omega); have hb := hb.trans (hb3.mono hb.size); have hz : n.B ≤ w3.heap.size := (by have := hb3.size; omega)))
    | (go_at_call 24; go_must ((with_reducible refine (Hello_any _).mono ?_); rintro r w4 ⟨v4, rfl, hr4, hb4⟩; obtain ⟨hC, hb, hz⟩ := cw_on hC hb hz hb4; have hTk := Take_hello hC v4 (own_by hr4)))
    | (go_at_call 23; go_must ((with_reducible refine hTk.mono ?_); rintro r w5 ⟨v5, j5, rfl, -, hG⟩; obtain ⟨F5, hC, hb, hz⟩ := goes_on hC hb hB hz hG))
  go_upto_region 8 with (go_at_call 27; go_must ((with_reducible refine (Out_any _ hC).mono ?_); rintro r w6 ⟨v6, rfl, -, -, hG⟩; obtain ⟨F6, hC, hb, hz⟩ := goes_on hC hb hB hz hG))
  replace hC : Cw w6 n (qp xs ks 0) F6 := hC
  refine wp_cut (R := fun W => (∃ F, Cw W n (qp xs ks 0) F) ∧ Below w.heap.size w W ∧ n.B ≤ W.heap.size) ⟨⟨_, hC⟩, hb, hz⟩ ?_
  have HXL := Lib.hid hxl
  clear hC hb hz
  rintro W0 ⟨⟨F0, hC⟩, hb, hz⟩
  go_wp2
  go_loopw [7, 8] (fun v7 i wr => ∃ k, k ≤ xs.length ∧ k ≤ 50 ∧ i = .int .i64 (k : Int) ∧ (∃ F, Cw wr n (qp xs ks k) F) ∧ Below w.heap.size w wr ∧ n.B ≤ wr.heap.size ∧ wr.ownsRow w.heap.size 34 12 v7 (panss xs ks k).length (wcls (panss xs ks k))) (fun _ i _ => 50 - (intOf i).toNat)
  case atStart => exact ⟨0, Nat.zero_le _, by decide, rfl, ⟨_, hC⟩, hb, hz, World.ownsRow_nil _ _ _ _⟩
  case round =>
    obtain ⟨k, hk1, hk2, rfl, ⟨F, hC⟩, hb, hz, hrow⟩ := hrel
    by_cases hlt : k < xs.length ∧ k < 50
    · obtain ⟨hl1, hl2⟩ := hlt
      obtain ⟨bx, ox, rfl, hbx, cx0⟩ := Ss.at (hx.below hb) k hl1
      have hd0 : pdat xs k = (xs[k] ++ [49, 50, 51, 52, 53, 54, 55, 56]).take 8 := by unfold pdat; rw [List.getD_eq_getElem?_getD, List.getElem?_eq_getElem hl1]; rfl
      have hxk := HXL.out _ (List.getElem_mem hl1)
      obtain ⟨s, es⟩ : ∃ s, s = xs[k] := ⟨_, rfl⟩
      rw [← es] at cx0 hd0 hxk
      clear es
      go_upto_region 13 with fail
      have hkw := hk.below hb
      have hbA := (Below.refl wr.heap.size wr).alloc (Nat.le_refl _) (.cells #[.int .i64 6, .int .i64 0, .int .i64 0, S (pdat xs k), .int .i64 0, .slice none 0 0, .int .i64 0, .int .i64 0, .int .i64 0, .int .i64 0, .int .i64 0, .bool false] 34)
      refine wp_cut (R := fun W => Blk W wr.heap.size 34 #[.int .i64 6, .int .i64 0, .int .i64 0, S (pdat xs k), .int .i64 0, .slice none 0 0, .int .i64 0, .int .i64 0, .int .i64 0, .int .i64 0, .int .i64 0, .bool false] ∧ Below wr.heap.size wr W) (by rw [← hd0]; exact ⟨Blk.new _ _ _, hbA⟩) ?_
      clear hbA
      rintro W1 ⟨hF1, hb1w⟩
      -- THE ROUND
      (have g0 : W1.cell? ⟨wr.heap.size, 0, none⟩ = some (.int .i64 6) := hF1.cell 0; have g1 : W1.cell? ⟨wr.heap.size, 1, none⟩ = some (.int .i64 0) := hF1.cell 1; have g2 : W1.cell? ⟨wr.heap.size, 2, none⟩ = some (.int .i64 0) := hF1.cell 2; have g3 : W1.cell? ⟨wr.heap.size, 3, none⟩ = some (S (pdat xs k)) := hF1.cell 3; have g4 : W1.cell? ⟨wr.heap.size, 4, none⟩ = some (.int .i64 0) := hF1.cell 4; have g5 : W1.cell? ⟨wr.heap.size, 5, none⟩ = some (.slice none 0 0) := hF1.cell 5; have g6 : W1.cell? ⟨wr.heap.size, 6, none⟩ = some (.int .i64 0) := hF1.cell 6; have g7 : W1.cell? ⟨wr.heap.size, 7, none⟩ = some (.int .i64 0) := hF1.cell 7; have g8 : W1.cell? ⟨wr.heap.size, 8, none⟩ = some (.int .i64 0) := hF1.cell 8; have g9 : W1.cell? ⟨wr.heap.size, 9, none⟩ = some (.int .i64 0) := hF1.cell 9; have g10 : W1.cell? ⟨wr.heap.size, 10, none⟩ = some (.int .i64 0) := hF1.cell 10; have g11 : W1.cell? ⟨wr.heap.size, 11, none⟩ = some (.bool false) := hF1.cell 11)
      have f0 := hF1.free 0
      have f1 := hF1.free 1
      have f2 := hF1.free 2
      have f3 := hF1.free 3
      have f4 := hF1.free 4
      have f5 := hF1.free 5
      have f6 := hF1.free 6
      have f7 := hF1.free 7
      have f8 := hF1.free 8
      have f9 := hF1.free 9
      have f10 := hF1.free 10
      have f11 := hF1.free 11
      by_cases hkk : k < ks.length
      · obtain ⟨bk, ok, rfl, hbk, ck0⟩ := (hkw.below (hb1w.mono hb.size)).at k hkk
        obtain ⟨c, ec⟩ : ∃ c : Nat, c = ks[k].toNat := ⟨_, rfl⟩
        replace ck0 : W1.cell? ⟨bk, ok + k, none⟩ = some (.int .u8 (c : Int)) := by rw [ec]; exact ck0
        have e1 : pfl ks k = c % 2 := by unfold pfl; rw [dif_pos hkk, ec]
        have e2 : pset ks k = decide (1 < c % 4) := by unfold pset; rw [dif_pos hkk, ec]
        have E1 := Lib.hid e1
        have E2 := Lib.hid e2
        clear ec e1 e2
        by_cases h4 : 1 < c % 4
        · go_upto_region 17 with fail
          refine wp_cut (R := fun W => Blk W wr.heap.size 34 #[.int .i64 (pty ks k : Int), .int .i64 (pfl ks k : Int), .int .i64 0, S (pd xs ks k), .int .i64 0, .slice none 0 0, .int .i64 0, .int .i64 0, .int .i64 0, .int .i64 0, .int .i64 0, .bool false] ∧ Below wr.heap.size wr W) ⟨?_, bel12 (hb1w.setCell (p := ⟨wr.heap.size, 1, none⟩) (Nat.le_refl _) _) (Nat.le_refl _) _ _ _ _ _ _ _ _ _ _ _ _⟩ ?_
          · have q0 : pset ks k = true := by rw [E2.out]; simpa using h4
            have q1 : pty ks k = 4 := by unfold pty; rw [q0]; rfl
            have q2 : pd xs ks k = [] := by unfold pd; rw [q0]; rfl
            rw [q1, q2, E1.out]
            exact set12 (hF1.set 1 (.int .i64 ((c : Int) % 2))) _ _ _ _ _ _ _ _ _ _ _ _
          · clear g0 g1 g2 g3 g4 g5 g6 g7 g8 g9 g10 g11 f0 f1 f2 f3 f4 f5 f6 f7 f8 f9 f10 f11 hF1 hb1w E1 E2 h4 ck0 hkw
            rintro W2 ⟨hF2, hb2w⟩
            obtain ⟨ty, ety⟩ : ∃ ty, ty = pty ks k := ⟨_, rfl⟩
            obtain ⟨fl, efl⟩ : ∃ fl, fl = pfl ks k := ⟨_, rfl⟩
            obtain ⟨d, ed⟩ : ∃ d, d = pd xs ks k := ⟨_, rfl⟩
            have hpk := pk_of xs ks k
            have hps : panss xs ks (k + 1) = panss xs ks k ++ Pk.ans (pty ks k) (pfl ks k) (pd xs ks k) := panss_succ xs ks k
            rw [← ety, ← efl, ← ed] at hF2 hpk hps
            have HPS := Lib.hid hps
            have hdl := hpk.len
            have hpl := panss_len xs ks k
            have hpb := panss_bytes xs ks k
            clear ety efl ed hps
            have hC2 := hC.on hb2w
            have hrow2 := own_below hrow hb2w
            have hb2 : Below w.heap.size w W2 := hb.trans (hb2w.mono hb.size)
            have hz2 : n.B ≤ W2.heap.size := Nat.le_trans hz hb2w.size
            obtain ⟨aw, cw, rfl⟩ := own_form hrow
            rcases hpk.f with rfl | rfl
            · (have g0 : W2.cell? ⟨wr.heap.size, 0, none⟩ = some (.int .i64 (ty : Int)) := hF2.cell 0; have g1 : W2.cell? ⟨wr.heap.size, 1, none⟩ = some (.int .i64 0) := hF2.cell 1; have g2 : W2.cell? ⟨wr.heap.size, 2, none⟩ = some (.int .i64 0) := hF2.cell 2; have g3 : W2.cell? ⟨wr.heap.size, 3, none⟩ = some (S d) := hF2.cell 3; have g4 : W2.cell? ⟨wr.heap.size, 4, none⟩ = some (.int .i64 0) := hF2.cell 4; have g5 : W2.cell? ⟨wr.heap.size, 5, none⟩ = some (.slice none 0 0) := hF2.cell 5; have g6 : W2.cell? ⟨wr.heap.size, 6, none⟩ = some (.int .i64 0) := hF2.cell 6; have g7 : W2.cell? ⟨wr.heap.size, 7, none⟩ = some (.int .i64 0) := hF2.cell 7; have g8 : W2.cell? ⟨wr.heap.size, 8, none⟩ = some (.int .i64 0) := hF2.cell 8; have g9 : W2.cell? ⟨wr.heap.size, 9, none⟩ = some (.int .i64 0) := hF2.cell 9; have g10 : W2.cell? ⟨wr.heap.size, 10, none⟩ = some (.int .i64 0) := hF2.cell 10; have g11 : W2.cell? ⟨wr.heap.size, 11, none⟩ = some (.bool false) := hF2.cell 11)
              have hBy : ∀ (w1 : World) (g : Nat), Blk w1 g 34 #[.int .i64 (ty : Int), .int .i64 0, .int .i64 0, S d, .int .i64 0, .slice none 0 0, .int .i64 0, .int .i64 0, .int .i64 0, .int .i64 0, .int .i64 0, .bool false] → Calls Tryz.prog 25 #[.slice (some ⟨g, 0, none⟩) 1 1] w1 (OutC (frB ty 0 0 d) w1) := fun w1 g hg => bytes_pk hpk w1 hg
              go_wp2_with first
                | (at_builtin; go_must (refine wpList_appAt rfl _ _ 61 rfl w.heap.size 34 (.agg #[.int .i64 0, .int .i64 0, .int .i64 0, .string ByteArray.empty, .int .i64 0, .slice none 0 0, .int .i64 0, .int .i64 0, .int .i64 0, .int .i64 0, .int .i64 0, .bool false]) 12 120 Tryz.underlying61 (by kernel_rfl) rfl (by decide) _ _ _ rfl (hrow2.alloc _) _ _ 1 [.int .i64 (ty : Int), .int .i64 1, .int .i64 0, S d, .int .i64 0, .slice none 0 0, .int .i64 0, .int .i64 0, .int .i64 0, .int .i64 0, .int .i64 0, .bool false] rfl (Rd.lit W2 34 #[.int .i64 (ty : Int), .int .i64 1, .int .i64 0, S d, .int .i64 0, .slice none 0 0, .int .i64 0, .int .i64 0, .int .i64 0, .int .i64 0, .int .i64 0, .bool false] 12 1 rfl (by decide)) (by intro u hu; simp only [List.mem_cons, List.not_mem_nil, or_false] at hu; rcases hu with rfl | rfl | rfl | rfl | rfl | rfl | rfl | rfl | rfl | rfl | rfl | rfl <;> rfl) (by unfold maxLen; omega) (by omega) (by simp; omega) ?_; intro a7 c7 w7 hown7 hg7 hat7); have hC7 := (hC2.on ((Below.refl _ _).alloc (Nat.le_refl _) _)).but_frames (hrow2.alloc _) hg7; have hne7 : some wr.heap.size ≠ (Value.slice aw (panss xs ks k).length cw).ownBlock := (fun e => by have := (hrow.lt _ e.symm).2; omega); have hF7 := (hF2.alloc _).grow hg7 hne7; have hb7 : Below w.heap.size w w7 := Bl.grown (hb2.alloc hb2.size _) (hrow2.alloc _) hg7 (by simp; omega) (Nat.le_refl _); have hz7 : n.B ≤ w7.heap.size := (by have := hg7.size; simp at this; omega); (have q0 : w7.cell? ⟨wr.heap.size, 0, none⟩ = some (.int .i64 (ty : Int)) := hF7.cell 0; have q1 : w7.cell? ⟨wr.heap.size, 1, none⟩ = some (.int .i64 0) := hF7.cell 1; have q2 : w7.cell? ⟨wr.heap.size, 2, none⟩ = some (.int .i64 0) := hF7.cell 2; have q3 : w7.cell? ⟨wr.heap.size, 3, none⟩ = some (S d) := hF7.cell 3; have q4 : w7.cell? ⟨wr.heap.size, 4, none⟩ = some (.int .i64 0) := hF7.cell 4; have q5 : w7.cell? ⟨wr.heap.size, 5, none⟩ = some (.slice none 0 0) := hF7.cell 5; have q6 : w7.cell? ⟨wr.heap.size, 6, none⟩ = some (.int .i64 0) := hF7.cell 6; have q7 : w7.cell? ⟨wr.heap.size, 7, none⟩ = some (.int .i64 0) := hF7.cell 7; have q8 : w7.cell? ⟨wr.heap.size, 8, none⟩ = some (.int .i64 0) := hF7.cell 8; have q9 : w7.cell? ⟨wr.heap.size, 9, none⟩ = some (.int .i64 0) := hF7.cell 9; have q10 : w7.cell? ⟨wr.heap.size, 10, none⟩ = some (.int .i64 0) := hF7.cell 10; have q11 : w7.cell? ⟨wr.heap.size, 11, none⟩ = some (.bool false) := hF7.cell 11))
                | (go_at_call 25; go_must ((with_reducible refine (hBy _ _ (Blk.new _ _ _)).mono ?_); rintro r w9 ⟨vb, rfl, hrb, hb9⟩; have hbx : Below w7.heap.size w7 w9 := ((Below.refl _ _).alloc (Nat.le_refl _) _).trans (hb9.mono (by simp)); obtain ⟨hC9, hb9', hz9⟩ := cw_on hC7 hb7 hz7 hbx; have hrow9 := own_below hown7 hbx; have hTk := Take_pk hpk w9 hC9 rfl rfl rfl rfl rfl rfl (by show (flatF (panss xs ks k)).length ≤ _; omega) vb (own_by hrb)))
                | (go_at_call 23; go_must ((with_reducible refine hTk.mono ?_); rintro r w10 ⟨a10, c10, rfl, hG⟩; have hrow10 := hC9.frames_stay hrow9 hG; obtain ⟨F10, hC10, hb10, hz10⟩ := goes_on hC9 hb9' hB hz9 hG))
              go_roundw
              case rel =>
                refine ⟨k + 1, by omega, by omega, by go_num, ⟨F10, ?_⟩, hb10, hz10, ?_⟩
                · have e : qp xs ks (k + 1) = { qp xs ks k with bytes := (qp xs ks k).bytes ++ flatF (Pk.ans ty 0 d) } := by rw [qp, HPS.out, flatF, List.flatMap_append]
                  rw [e]
                  exact hC10
                · rw [HPS.out, wcls, List.flatMap_append, List.length_append]
                  exact hrow10
              case measure => simp [intOf]; omega
            · (have g0 : W2.cell? ⟨wr.heap.size, 0, none⟩ = some (.int .i64 (ty : Int)) := hF2.cell 0; have g1 : W2.cell? ⟨wr.heap.size, 1, none⟩ = some (.int .i64 1) := hF2.cell 1; have g2 : W2.cell? ⟨wr.heap.size, 2, none⟩ = some (.int .i64 0) := hF2.cell 2; have g3 : W2.cell? ⟨wr.heap.size, 3, none⟩ = some (S d) := hF2.cell 3; have g4 : W2.cell? ⟨wr.heap.size, 4, none⟩ = some (.int .i64 0) := hF2.cell 4; have g5 : W2.cell? ⟨wr.heap.size, 5, none⟩ = some (.slice none 0 0) := hF2.cell 5; have g6 : W2.cell? ⟨wr.heap.size, 6, none⟩ = some (.int .i64 0) := hF2.cell 6; have g7 : W2.cell? ⟨wr.heap.size, 7, none⟩ = some (.int .i64 0) := hF2.cell 7; have g8 : W2.cell? ⟨wr.heap.size, 8, none⟩ = some (.int .i64 0) := hF2.cell 8; have g9 : W2.cell? ⟨wr.heap.size, 9, none⟩ = some (.int .i64 0) := hF2.cell 9; have g10 : W2.cell? ⟨wr.heap.size, 10, none⟩ = some (.int .i64 0) := hF2.cell 10; have g11 : W2.cell? ⟨wr.heap.size, 11, none⟩ = some (.bool false) := hF2.cell 11)
              have hBy : ∀ (w1 : World) (g : Nat), Blk w1 g 34 #[.int .i64 (ty : Int), .int .i64 1, .int .i64 0, S d, .int .i64 0, .slice none 0 0, .int .i64 0, .int .i64 0, .int .i64 0, .int .i64 0, .int .i64 0, .bool false] → Calls Tryz.prog 25 #[.slice (some ⟨g, 0, none⟩) 1 1] w1 (OutC (frB ty 1 0 d) w1) := fun w1 g hg => bytes_pk hpk w1 hg
              go_wp2_with first
                | (go_at_call 25; go_must ((with_reducible refine (hBy _ _ (Blk.new _ _ _)).mono ?_); rintro r w9 ⟨vb, rfl, hrb, hb9⟩; have hbx : Below W2.heap.size W2 w9 := ((Below.refl _ _).alloc (Nat.le_refl _) _).trans (hb9.mono (by simp)); obtain ⟨hC9, hb9', hz9⟩ := cw_on hC2 hb2 hz2 hbx; have hrow9 := own_below hrow2 hbx; have hTk := Take_pk hpk w9 hC9 rfl rfl rfl rfl rfl rfl (by show (flatF (panss xs ks k)).length ≤ _; omega) vb (own_by hrb)))
                | (go_at_call 23; go_must ((with_reducible refine hTk.mono ?_); rintro r w10 ⟨a10, c10, rfl, hG⟩; have hrow10 := hC9.frames_stay hrow9 hG; obtain ⟨F10, hC10, hb10, hz10⟩ := goes_on hC9 hb9' hB hz9 hG))
              go_roundw
              case rel =>
                have hp1 : panss xs ks (k + 1) = panss xs ks k := by rw [HPS.out]; exact List.append_nil _
                refine ⟨k + 1, by omega, by omega, by go_num, ⟨F10, ?_⟩, hb10, hz10, ?_⟩
                · have e : qp xs ks (k + 1) = { qp xs ks k with bytes := (qp xs ks k).bytes ++ flatF (Pk.ans ty 1 d) } := by rw [qp, hp1]; exact (congrArg (fun b => ({ q22a bs22 with bytes := b } : Cq)) (List.append_nil _)).symm
                  rw [e]
                  exact hC10
                · rw [hp1]
                  exact hrow10
              case measure => simp [intOf]; omega
        · go_upto_region 17 with fail
          refine wp_cut (R := fun W => Blk W wr.heap.size 34 #[.int .i64 (pty ks k : Int), .int .i64 (pfl ks k : Int), .int .i64 0, S (pd xs ks k), .int .i64 0, .slice none 0 0, .int .i64 0, .int .i64 0, .int .i64 0, .int .i64 0, .int .i64 0, .bool false] ∧ Below wr.heap.size wr W) ⟨?_, hb1w.setCell (p := ⟨wr.heap.size, 1, none⟩) (Nat.le_refl _) _⟩ ?_
          · have q0 : pset ks k = false := by rw [E2.out]; simpa using h4
            have q1 : pty ks k = 6 := by unfold pty; rw [q0]; rfl
            have q2 : pd xs ks k = pdat xs k := by unfold pd; rw [q0]; rfl
            rw [q1, q2, E1.out]
            exact hF1.set 1 (.int .i64 ((c : Int) % 2))
          · clear g0 g1 g2 g3 g4 g5 g6 g7 g8 g9 g10 g11 f0 f1 f2 f3 f4 f5 f6 f7 f8 f9 f10 f11 hF1 hb1w E1 E2 h4 ck0 hkw
            rintro W2 ⟨hF2, hb2w⟩
            obtain ⟨ty, ety⟩ : ∃ ty, ty = pty ks k := ⟨_, rfl⟩
            obtain ⟨fl, efl⟩ : ∃ fl, fl = pfl ks k := ⟨_, rfl⟩
            obtain ⟨d, ed⟩ : ∃ d, d = pd xs ks k := ⟨_, rfl⟩
            have hpk := pk_of xs ks k
            have hps : panss xs ks (k + 1) = panss xs ks k ++ Pk.ans (pty ks k) (pfl ks k) (pd xs ks k) := panss_succ xs ks k
            rw [← ety, ← efl, ← ed] at hF2 hpk hps
            have HPS := Lib.hid hps
            have hdl := hpk.len
            have hpl := panss_len xs ks k
            have hpb := panss_bytes xs ks k
            clear ety efl ed hps
            have hC2 := hC.on hb2w
            have hrow2 := own_below hrow hb2w
            have hb2 : Below w.heap.size w W2 := hb.trans (hb2w.mono hb.size)
            have hz2 : n.B ≤ W2.heap.size := Nat.le_trans hz hb2w.size
            obtain ⟨aw, cw, rfl⟩ := own_form hrow
            rcases hpk.f with rfl | rfl
            · (have g0 : W2.cell? ⟨wr.heap.size, 0, none⟩ = some (.int .i64 (ty : Int)) := hF2.cell 0; have g1 : W2.cell? ⟨wr.heap.size, 1, none⟩ = some (.int .i64 0) := hF2.cell 1; have g2 : W2.cell? ⟨wr.heap.size, 2, none⟩ = some (.int .i64 0) := hF2.cell 2; have g3 : W2.cell? ⟨wr.heap.size, 3, none⟩ = some (S d) := hF2.cell 3; have g4 : W2.cell? ⟨wr.heap.size, 4, none⟩ = some (.int .i64 0) := hF2.cell 4; have g5 : W2.cell? ⟨wr.heap.size, 5, none⟩ = some (.slice none 0 0) := hF2.cell 5; have g6 : W2.cell? ⟨wr.heap.size, 6, none⟩ = some (.int .i64 0) := hF2.cell 6; have g7 : W2.cell? ⟨wr.heap.size, 7, none⟩ = some (.int .i64 0) := hF2.cell 7; have g8 : W2.cell? ⟨wr.heap.size, 8, none⟩ = some (.int .i64 0) := hF2.cell 8; have g9 : W2.cell? ⟨wr.heap.size, 9, none⟩ = some (.int .i64 0) := hF2.cell 9; have g10 : W2.cell? ⟨wr.heap.size, 10, none⟩ = some (.int .i64 0) := hF2.cell 10; have g11 : W2.cell? ⟨wr.heap.size, 11, none⟩ = some (.bool false) := hF2.cell 11)
              have hBy : ∀ (w1 : World) (g : Nat), Blk w1 g 34 #[.int .i64 (ty : Int), .int .i64 0, .int .i64 0, S d, .int .i64 0, .slice none 0 0, .int .i64 0, .int .i64 0, .int .i64 0, .int .i64 0, .int .i64 0, .bool false] → Calls Tryz.prog 25 #[.slice (some ⟨g, 0, none⟩) 1 1] w1 (OutC (frB ty 0 0 d) w1) := fun w1 g hg => bytes_pk hpk w1 hg
              go_wp2_with first
                | (at_builtin; go_must (refine wpList_appAt rfl _ _ 61 rfl w.heap.size 34 (.agg #[.int .i64 0, .int .i64 0, .int .i64 0, .string ByteArray.empty, .int .i64 0, .slice none 0 0, .int .i64 0, .int .i64 0, .int .i64 0, .int .i64 0, .int .i64 0, .bool false]) 12 120 Tryz.underlying61 (by kernel_rfl) rfl (by decide) _ _ _ rfl (hrow2.alloc _) _ _ 1 [.int .i64 (ty : Int), .int .i64 1, .int .i64 0, S d, .int .i64 0, .slice none 0 0, .int .i64 0, .int .i64 0, .int .i64 0, .int .i64 0, .int .i64 0, .bool false] rfl (Rd.lit W2 34 #[.int .i64 (ty : Int), .int .i64 1, .int .i64 0, S d, .int .i64 0, .slice none 0 0, .int .i64 0, .int .i64 0, .int .i64 0, .int .i64 0, .int .i64 0, .bool false] 12 1 rfl (by decide)) (by intro u hu; simp only [List.mem_cons, List.not_mem_nil, or_false] at hu; rcases hu with rfl | rfl | rfl | rfl | rfl | rfl | rfl | rfl | rfl | rfl | rfl | rfl <;> rfl) (by unfold maxLen; omega) (by omega) (by simp; omega) ?_; intro a7 c7 w7 hown7 hg7 hat7); have hC7 := (hC2.on ((Below.refl _ _).alloc (Nat.le_refl _) _)).but_frames (hrow2.alloc _) hg7; have hne7 : some wr.heap.size ≠ (Value.slice aw (panss xs ks k).length cw).ownBlock := (fun e => by have := (hrow.lt _ e.symm).2; omega); have hF7 := (hF2.alloc _).grow hg7 hne7; have hb7 : Below w.heap.size w w7 := Bl.grown (hb2.alloc hb2.size _) (hrow2.alloc _) hg7 (by simp; omega) (Nat.le_refl _); have hz7 : n.B ≤ w7.heap.size := (by have := hg7.size; simp at this; omega); (have q0 : w7.cell? ⟨wr.heap.size, 0, none⟩ = some (.int .i64 (ty : Int)) := hF7.cell 0; have q1 : w7.cell? ⟨wr.heap.size, 1, none⟩ = some (.int .i64 0) := hF7.cell 1; have q2 : w7.cell? ⟨wr.heap.size, 2, none⟩ = some (.int .i64 0) := hF7.cell 2; have q3 : w7.cell? ⟨wr.heap.size, 3, none⟩ = some (S d) := hF7.cell 3; have q4 : w7.cell? ⟨wr.heap.size, 4, none⟩ = some (.int .i64 0) := hF7.cell 4; have q5 : w7.cell? ⟨wr.heap.size, 5, none⟩ = some (.slice none 0 0) := hF7.cell 5; have q6 : w7.cell? ⟨wr.heap.size, 6, none⟩ = some (.int .i64 0) := hF7.cell 6; have q7 : w7.cell? ⟨wr.heap.size, 7, none⟩ = some (.int .i64 0) := hF7.cell 7; have q8 : w7.cell? ⟨wr.heap.size, 8, none⟩ = some (.int .i64 0) := hF7.cell 8; have q9 : w7.cell? ⟨wr.heap.size, 9, none⟩ = some (.int .i64 0) := hF7.cell 9; have q10 : w7.cell? ⟨wr.heap.size, 10, none⟩ = some (.int .i64 0) := hF7.cell 10; have q11 : w7.cell? ⟨wr.heap.size, 11, none⟩ = some (.bool false) := hF7.cell 11))
                | (go_at_call 25; go_must ((with_reducible refine (hBy _ _ (Blk.new _ _ _)).mono ?_); rintro r w9 ⟨vb, rfl, hrb, hb9⟩; have hbx : Below w7.heap.size w7 w9 := ((Below.refl _ _).alloc (Nat.le_refl _) _).trans (hb9.mono (by simp)); obtain ⟨hC9, hb9', hz9⟩ := cw_on hC7 hb7 hz7 hbx; have hrow9 := own_below hown7 hbx; have hTk := Take_pk hpk w9 hC9 rfl rfl rfl rfl rfl rfl (by show (flatF (panss xs ks k)).length ≤ _; omega) vb (own_by hrb)))
                | (go_at_call 23; go_must ((with_reducible refine hTk.mono ?_); rintro r w10 ⟨a10, c10, rfl, hG⟩; have hrow10 := hC9.frames_stay hrow9 hG; obtain ⟨F10, hC10, hb10, hz10⟩ := goes_on hC9 hb9' hB hz9 hG))
              go_roundw
              case rel =>
                refine ⟨k + 1, by omega, by omega, by go_num, ⟨F10, ?_⟩, hb10, hz10, ?_⟩
                · have e : qp xs ks (k + 1) = { qp xs ks k with bytes := (qp xs ks k).bytes ++ flatF (Pk.ans ty 0 d) } := by rw [qp, HPS.out, flatF, List.flatMap_append]
                  rw [e]
                  exact hC10
                · rw [HPS.out, wcls, List.flatMap_append, List.length_append]
                  exact hrow10
              case measure => simp [intOf]; omega
            · (have g0 : W2.cell? ⟨wr.heap.size, 0, none⟩ = some (.int .i64 (ty : Int)) := hF2.cell 0; have g1 : W2.cell? ⟨wr.heap.size, 1, none⟩ = some (.int .i64 1) := hF2.cell 1; have g2 : W2.cell? ⟨wr.heap.size, 2, none⟩ = some (.int .i64 0) := hF2.cell 2; have g3 : W2.cell? ⟨wr.heap.size, 3, none⟩ = some (S d) := hF2.cell 3; have g4 : W2.cell? ⟨wr.heap.size, 4, none⟩ = some (.int .i64 0) := hF2.cell 4; have g5 : W2.cell? ⟨wr.heap.size, 5, none⟩ = some (.slice none 0 0) := hF2.cell 5; have g6 : W2.cell? ⟨wr.heap.size, 6, none⟩ = some (.int .i64 0) := hF2.cell 6; have g7 : W2.cell? ⟨wr.heap.size, 7, none⟩ = some (.int .i64 0) := hF2.cell 7; have g8 : W2.cell? ⟨wr.heap.size, 8, none⟩ = some (.int .i64 0) := hF2.cell 8; have g9 : W2.cell? ⟨wr.heap.size, 9, none⟩ = some (.int .i64 0) := hF2.cell 9; have g10 : W2.cell? ⟨wr.heap.size, 10, none⟩ = some (.int .i64 0) := hF2.cell 10; have g11 : W2.cell? ⟨wr.heap.size, 11, none⟩ = some (.bool false) := hF2.cell 11)
              have hBy : ∀ (w1 : World) (g : Nat), Blk w1 g 34 #[.int .i64 (ty : Int), .int .i64 1, .int .i64 0, S d, .int .i64 0, .slice none 0 0, .int .i64 0, .int .i64 0, .int .i64 0, .int .i64 0, .int .i64 0, .bool false] → Calls Tryz.prog 25 #[.slice (some ⟨g, 0, none⟩) 1 1] w1 (OutC (frB ty 1 0 d) w1) := fun w1 g hg => bytes_pk hpk w1 hg
              go_wp2_with first
                | (go_at_call 25; go_must ((with_reducible refine (hBy _ _ (Blk.new _ _ _)).mono ?_); rintro r w9 ⟨vb, rfl, hrb, hb9⟩; have hbx : Below W2.heap.size W2 w9 := ((Below.refl _ _).alloc (Nat.le_refl _) _).trans (hb9.mono (by simp)); obtain ⟨hC9, hb9', hz9⟩ := cw_on hC2 hb2 hz2 hbx; have hrow9 := own_below hrow2 hbx; have hTk := Take_pk hpk w9 hC9 rfl rfl rfl rfl rfl rfl (by show (flatF (panss xs ks k)).length ≤ _; omega) vb (own_by hrb)))
                | (go_at_call 23; go_must ((with_reducible refine hTk.mono ?_); rintro r w10 ⟨a10, c10, rfl, hG⟩; have hrow10 := hC9.frames_stay hrow9 hG; obtain ⟨F10, hC10, hb10, hz10⟩ := goes_on hC9 hb9' hB hz9 hG))
              go_roundw
              case rel =>
                have hp1 : panss xs ks (k + 1) = panss xs ks k := by rw [HPS.out]; exact List.append_nil _
                refine ⟨k + 1, by omega, by omega, by go_num, ⟨F10, ?_⟩, hb10, hz10, ?_⟩
                · have e : qp xs ks (k + 1) = { qp xs ks k with bytes := (qp xs ks k).bytes ++ flatF (Pk.ans ty 1 d) } := by rw [qp, hp1]; exact (congrArg (fun b => ({ q22a bs22 with bytes := b } : Cq)) (List.append_nil _)).symm
                  rw [e]
                  exact hC10
                · rw [hp1]
                  exact hrow10
              case measure => simp [intOf]; omega
      · go_upto_region 17 with fail
        refine wp_cut (R := fun W => Blk W wr.heap.size 34 #[.int .i64 (pty ks k : Int), .int .i64 (pfl ks k : Int), .int .i64 0, S (pd xs ks k), .int .i64 0, .slice none 0 0, .int .i64 0, .int .i64 0, .int .i64 0, .int .i64 0, .int .i64 0, .bool false] ∧ Below wr.heap.size wr W) ⟨?_, hb1w⟩ ?_
        · have q0 : pset ks k = false := by unfold pset; rw [dif_neg hkk]
          have q1 : pty ks k = 6 := by unfold pty; rw [q0]; rfl
          have q2 : pd xs ks k = pdat xs k := by unfold pd; rw [q0]; rfl
          have q3 : pfl ks k = 0 := by unfold pfl; rw [dif_neg hkk]
          rw [q1, q2, q3]
          exact hF1
        · clear g0 g1 g2 g3 g4 g5 g6 g7 g8 g9 g10 g11 f0 f1 f2 f3 f4 f5 f6 f7 f8 f9 f10 f11 hF1 hb1w hkw
          rintro W2 ⟨hF2, hb2w⟩
          obtain ⟨ty, ety⟩ : ∃ ty, ty = pty ks k := ⟨_, rfl⟩
          obtain ⟨fl, efl⟩ : ∃ fl, fl = pfl ks k := ⟨_, rfl⟩
          obtain ⟨d, ed⟩ : ∃ d, d = pd xs ks k := ⟨_, rfl⟩
          have hpk := pk_of xs ks k
          have hps : panss xs ks (k + 1) = panss xs ks k ++ Pk.ans (pty ks k) (pfl ks k) (pd xs ks k) := panss_succ xs ks k
          rw [← ety, ← efl, ← ed] at hF2 hpk hps
          have HPS := Lib.hid hps
          have hdl := hpk.len
          have hpl := panss_len xs ks k
          have hpb := panss_bytes xs ks k
          clear ety efl ed hps
          have hC2 := hC.on hb2w
          have hrow2 := own_below hrow hb2w
          have hb2 : Below w.heap.size w W2 := hb.trans (hb2w.mono hb.size)
          have hz2 : n.B ≤ W2.heap.size := Nat.le_trans hz hb2w.size
          obtain ⟨aw, cw, rfl⟩ := own_form hrow
          rcases hpk.f with rfl | rfl
          · (have g0 : W2.cell? ⟨wr.heap.size, 0, none⟩ = some (.int .i64 (ty : Int)) := hF2.cell 0; have g1 : W2.cell? ⟨wr.heap.size, 1, none⟩ = some (.int .i64 0) := hF2.cell 1; have g2 : W2.cell? ⟨wr.heap.size, 2, none⟩ = some (.int .i64 0) := hF2.cell 2; have g3 : W2.cell? ⟨wr.heap.size, 3, none⟩ = some (S d) := hF2.cell 3; have g4 : W2.cell? ⟨wr.heap.size, 4, none⟩ = some (.int .i64 0) := hF2.cell 4; have g5 : W2.cell? ⟨wr.heap.size, 5, none⟩ = some (.slice none 0 0) := hF2.cell 5; have g6 : W2.cell? ⟨wr.heap.size, 6, none⟩ = some (.int .i64 0) := hF2.cell 6; have g7 : W2.cell? ⟨wr.heap.size, 7, none⟩ = some (.int .i64 0) := hF2.cell 7; have g8 : W2.cell? ⟨wr.heap.size, 8, none⟩ = some (.int .i64 0) := hF2.cell 8; have g9 : W2.cell? ⟨wr.heap.size, 9, none⟩ = some (.int .i64 0) := hF2.cell 9; have g10 : W2.cell? ⟨wr.heap.size, 10, none⟩ = some (.int .i64 0) := hF2.cell 10; have g11 : W2.cell? ⟨wr.heap.size, 11, none⟩ = some (.bool false) := hF2.cell 11)
            have hBy : ∀ (w1 : World) (g : Nat), Blk w1 g 34 #[.int .i64 (ty : Int), .int .i64 0, .int .i64 0, S d, .int .i64 0, .slice none 0 0, .int .i64 0, .int .i64 0, .int .i64 0, .int .i64 0, .int .i64 0, .bool false] → Calls Tryz.prog 25 #[.slice (some ⟨g, 0, none⟩) 1 1] w1 (OutC (frB ty 0 0 d) w1) := fun w1 g hg => bytes_pk hpk w1 hg
            go_wp2_with first
              | (at_builtin; go_must (refine wpList_appAt rfl _ _ 61 rfl w.heap.size 34 (.agg #[.int .i64 0, .int .i64 0, .int .i64 0, .string ByteArray.empty, .int .i64 0, .slice none 0 0, .int .i64 0, .int .i64 0, .int .i64 0, .int .i64 0, .int .i64 0, .bool false]) 12 120 Tryz.underlying61 (by kernel_rfl) rfl (by decide) _ _ _ rfl (hrow2.alloc _) _ _ 1 [.int .i64 (ty : Int), .int .i64 1, .int .i64 0, S d, .int .i64 0, .slice none 0 0, .int .i64 0, .int .i64 0, .int .i64 0, .int .i64 0, .int .i64 0, .bool false] rfl (Rd.lit W2 34 #[.int .i64 (ty : Int), .int .i64 1, .int .i64 0, S d, .int .i64 0, .slice none 0 0, .int .i64 0, .int .i64 0, .int .i64 0, .int .i64 0, .int .i64 0, .bool false] 12 1 rfl (by decide)) (by intro u hu; simp only [List.mem_cons, List.not_mem_nil, or_false] at hu; rcases hu with rfl | rfl | rfl | rfl | rfl | rfl | rfl | rfl | rfl | rfl | rfl | rfl <;> rfl) (by unfold maxLen; omega) (by omega) (by simp; omega) ?_; intro a7 c7 w7 hown7 hg7 hat7); have hC7 := (hC2.on ((Below.refl _ _).alloc (Nat.le_refl _) _)).but_frames (hrow2.alloc _) hg7; have hne7 : some wr.heap.size ≠ (Value.slice aw (panss xs ks k).length cw).ownBlock := (fun e => by have := (hrow.lt _ e.symm).2; omega); have hF7 := (hF2.alloc _).grow hg7 hne7; have hb7 : Below w.heap.size w w7 := Bl.grown (hb2.alloc hb2.size _) (hrow2.alloc _) hg7 (by simp; omega) (Nat.le_refl _); have hz7 : n.B ≤ w7.heap.size := (by have := hg7.size; simp at this; omega); (have q0 : w7.cell? ⟨wr.heap.size, 0, none⟩ = some (.int .i64 (ty : Int)) := hF7.cell 0; have q1 : w7.cell? ⟨wr.heap.size, 1, none⟩ = some (.int .i64 0) := hF7.cell 1; have q2 : w7.cell? ⟨wr.heap.size, 2, none⟩ = some (.int .i64 0) := hF7.cell 2; have q3 : w7.cell? ⟨wr.heap.size, 3, none⟩ = some (S d) := hF7.cell 3; have q4 : w7.cell? ⟨wr.heap.size, 4, none⟩ = some (.int .i64 0) := hF7.cell 4; have q5 : w7.cell? ⟨wr.heap.size, 5, none⟩ = some (.slice none 0 0) := hF7.cell 5; have q6 : w7.cell? ⟨wr.heap.size, 6, none⟩ = some (.int .i64 0) := hF7.cell 6; have q7 : w7.cell? ⟨wr.heap.size, 7, none⟩ = some (.int .i64 0) := hF7.cell 7; have q8 : w7.cell? ⟨wr.heap.size, 8, none⟩ = some (.int .i64 0) := hF7.cell 8; have q9 : w7.cell? ⟨wr.heap.size, 9, none⟩ = some (.int .i64 0) := hF7.cell 9; have q10 : w7.cell? ⟨wr.heap.size, 10, none⟩ = some (.int .i64 0) := hF7.cell 10; have q11 : w7.cell? ⟨wr.heap.size, 11, none⟩ = some (.bool false) := hF7.cell 11))
              | (go_at_call 25; go_must ((with_reducible refine (hBy _ _ (Blk.new _ _ _)).mono ?_); rintro r w9 ⟨vb, rfl, hrb, hb9⟩; have hbx : Below w7.heap.size w7 w9 := ((Below.refl _ _).alloc (Nat.le_refl _) _).trans (hb9.mono (by simp)); obtain ⟨hC9, hb9', hz9⟩ := cw_on hC7 hb7 hz7 hbx; have hrow9 := own_below hown7 hbx; have hTk := Take_pk hpk w9 hC9 rfl rfl rfl rfl rfl rfl (by show (flatF (panss xs ks k)).length ≤ _; omega) vb (own_by hrb)))
              | (go_at_call 23; go_must ((with_reducible refine hTk.mono ?_); rintro r w10 ⟨a10, c10, rfl, hG⟩; have hrow10 := hC9.frames_stay hrow9 hG; obtain ⟨F10, hC10, hb10, hz10⟩ := goes_on hC9 hb9' hB hz9 hG))
            go_roundw
            case rel =>
              refine ⟨k + 1, by omega, by omega, by go_num, ⟨F10, ?_⟩, hb10, hz10, ?_⟩
              · have e : qp xs ks (k + 1) = { qp xs ks k with bytes := (qp xs ks k).bytes ++ flatF (Pk.ans ty 0 d) } := by rw [qp, HPS.out, flatF, List.flatMap_append]
                rw [e]
                exact hC10
              · rw [HPS.out, wcls, List.flatMap_append, List.length_append]
                exact hrow10
            case measure => simp [intOf]; omega
          · (have g0 : W2.cell? ⟨wr.heap.size, 0, none⟩ = some (.int .i64 (ty : Int)) := hF2.cell 0; have g1 : W2.cell? ⟨wr.heap.size, 1, none⟩ = some (.int .i64 1) := hF2.cell 1; have g2 : W2.cell? ⟨wr.heap.size, 2, none⟩ = some (.int .i64 0) := hF2.cell 2; have g3 : W2.cell? ⟨wr.heap.size, 3, none⟩ = some (S d) := hF2.cell 3; have g4 : W2.cell? ⟨wr.heap.size, 4, none⟩ = some (.int .i64 0) := hF2.cell 4; have g5 : W2.cell? ⟨wr.heap.size, 5, none⟩ = some (.slice none 0 0) := hF2.cell 5; have g6 : W2.cell? ⟨wr.heap.size, 6, none⟩ = some (.int .i64 0) := hF2.cell 6; have g7 : W2.cell? ⟨wr.heap.size, 7, none⟩ = some (.int .i64 0) := hF2.cell 7; have g8 : W2.cell? ⟨wr.heap.size, 8, none⟩ = some (.int .i64 0) := hF2.cell 8; have g9 : W2.cell? ⟨wr.heap.size, 9, none⟩ = some (.int .i64 0) := hF2.cell 9; have g10 : W2.cell? ⟨wr.heap.size, 10, none⟩ = some (.int .i64 0) := hF2.cell 10; have g11 : W2.cell? ⟨wr.heap.size, 11, none⟩ = some (.bool false) := hF2.cell 11)
            have hBy : ∀ (w1 : World) (g : Nat), Blk w1 g 34 #[.int .i64 (ty : Int), .int .i64 1, .int .i64 0, S d, .int .i64 0, .slice none 0 0, .int .i64 0, .int .i64 0, .int .i64 0, .int .i64 0, .int .i64 0, .bool false] → Calls Tryz.prog 25 #[.slice (some ⟨g, 0, none⟩) 1 1] w1 (OutC (frB ty 1 0 d) w1) := fun w1 g hg => bytes_pk hpk w1 hg
            go_wp2_with first
              | (go_at_call 25; go_must ((with_reducible refine (hBy _ _ (Blk.new _ _ _)).mono ?_); rintro r w9 ⟨vb, rfl, hrb, hb9⟩; have hbx : Below W2.heap.size W2 w9 := ((Below.refl _ _).alloc (Nat.le_refl _) _).trans (hb9.mono (by simp)); obtain ⟨hC9, hb9', hz9⟩ := cw_on hC2 hb2 hz2 hbx; have hrow9 := own_below hrow2 hbx; have hTk := Take_pk hpk w9 hC9 rfl rfl rfl rfl rfl rfl (by show (flatF (panss xs ks k)).length ≤ _; omega) vb (own_by hrb)))
              | (go_at_call 23; go_must ((with_reducible refine hTk.mono ?_); rintro r w10 ⟨a10, c10, rfl, hG⟩; have hrow10 := hC9.frames_stay hrow9 hG; obtain ⟨F10, hC10, hb10, hz10⟩ := goes_on hC9 hb9' hB hz9 hG))
            go_roundw
            case rel =>
              have hp1 : panss xs ks (k + 1) = panss xs ks k := by rw [HPS.out]; exact List.append_nil _
              refine ⟨k + 1, by omega, by omega, by go_num, ⟨F10, ?_⟩, hb10, hz10, ?_⟩
              · have e : qp xs ks (k + 1) = { qp xs ks k with bytes := (qp xs ks k).bytes ++ flatF (Pk.ans ty 1 d) } := by rw [qp, hp1]; exact (congrArg (fun b => ({ q22a bs22 with bytes := b } : Cq)) (List.append_nil _)).symm
                rw [e]
                exact hC10
              · rw [hp1]
                exact hrow10
            case measure => simp [intOf]; omega
    · have hlt2 : ¬ k < xs.length ∨ (k < xs.length ∧ ¬ k < 50) := by omega
      clear hlt
      rcases hlt2 with h1 | ⟨h1, h2⟩
      · obtain ⟨wo, rfl⟩ : ∃ wo : World, wo = wr := ⟨_, rfl⟩
        go_upto_region 22 with first
          | (go_at_call 27; go_must ((with_reducible refine (Out_any _ hC).mono ?_); rintro r w8 ⟨v8, rfl, hr8, -, hG⟩; have hrow8 := hC.frames_stay hrow hG; obtain ⟨F8, hC8, hb8, hz8⟩ := goes_on hC hb hB hz hG; have hAl := All_of (panss xs ks k) (fun x hx => (panss_mem hx).1) v8 w8 (own_by hr8) (by have := panss_len xs ks k; omega)))
          | (go_at_call 29; go_must ((with_reducible refine hAl.mono ?_); rintro r w9 ⟨vo, its, rfl, hits, hrowI, hst, hb9⟩; have hrow9 := own_below hrow8 hb9; obtain ⟨ao, co, rfl⟩ := own_form hrowI; obtain ⟨aw, cw, rfl⟩ := own_form hrow9; obtain ⟨hC9, hb9', hz9⟩ := cw_on hC8 hb8 hz8 hb9; have hOv : Calls Tryz.prog 31 #[Ptr n.c] w9 (fun e w' => e = .returned (.bool false) ∧ w' = w9) := Over_any2 w9 hC9))
        have HITS := Lib.hid hits
        clear hits
        go_upto_region 24 with (go_at_call 31; go_must ((with_reducible refine hOv.mono ?_); rintro r w10 ⟨rfl, e10⟩; have e11 := e10.symm; subst e11))
        go_wp2
        have hpl := panss_len xs ks k
        go_loopw [13] (fun i wr => ∃ j, j ≤ (panss xs ks k).length ∧ i = .int .i64 (j : Int) ∧ Below w9.heap.size w9 wr) (fun i _ => (panss xs ks k).length - (intOf i).toNat)
        case atStart => exact ⟨0, Nat.zero_le _, rfl, Below.refl _ _⟩
        case round =>
          obtain ⟨j, hj, rfl, hbj⟩ := hrel
          by_cases hlt : j < (panss xs ks k).length
          · have hil : its.length = (panss xs ks k).length := by have := congrArg List.length HITS.out; simpa using this
            have hji : j < its.length := by omega
            have hrowJ : w9.ownsRow w8.heap.size 72 15 (.slice ao its.length co) its.length (itcells its) := by rw [hil]; exact hrowI
            clear hil
            obtain ⟨-, -, ty, d, ef⟩ := panss_mem (List.getElem_mem hlt)
            have hix : ((its[j]).f, (its[j]).x) = ((panss xs ks k)[j].2, ({} : Ft)) := by
              have h1 := List.getElem_of_eq HITS.out (i := j) (by simpa using hji)
              simpa using h1
            obtain ⟨gi, rfl, hci⟩ := its_at2 (own_below hrowJ hbj) j hji
            obtain ⟨gw, rfl, hcw⟩ := wcls_at (own_below hrow9 hbj) j hlt
            have hsj := hst its[j] (List.getElem_mem hji)
            obtain ⟨⟨f, x, vs⟩, ei⟩ : ∃ i, i = its[j] := ⟨_, rfl⟩
            rw [← ei] at hix hci hsj
            simp only [Prod.mk.injEq] at hix
            obtain ⟨rfl, rfl⟩ := hix
            rw [ef] at hci hsj
            replace hsj : w9.ownsRow w8.heap.size 31 2 vs 0 [] := hsj
            obtain ⟨sa, sc, rfl⟩ := own_form hsj
            have y0 : wr.cell? ⟨gi, j * 15, none⟩ = some (.int .i64 (ty : Int)) := hci 0 (by decide)
            have y1 : wr.cell? ⟨gi, j * 15 + 1, none⟩ = some (.int .i64 1) := hci 1 (by decide)
            have y2 : wr.cell? ⟨gi, j * 15 + 2, none⟩ = some (.int .i64 0) := hci 2 (by decide)
            have y3 : wr.cell? ⟨gi, j * 15 + 3, none⟩ = some (S d) := hci 3 (by decide)
            have y4 : wr.cell? ⟨gi, j * 15 + 4, none⟩ = some (.int .i64 0) := hci 4 (by decide)
            have y5 : wr.cell? ⟨gi, j * 15 + 5, none⟩ = some (.slice sa 0 sc) := hci 5 (by decide)
            have y6 : wr.cell? ⟨gi, j * 15 + 6, none⟩ = some (.int .i64 0) := hci 6 (by decide)
            have y7 : wr.cell? ⟨gi, j * 15 + 7, none⟩ = some (.int .i64 0) := hci 7 (by decide)
            have y8 : wr.cell? ⟨gi, j * 15 + 8, none⟩ = some (.int .i64 0) := hci 8 (by decide)
            have y9 : wr.cell? ⟨gi, j * 15 + 9, none⟩ = some (.int .i64 0) := hci 9 (by decide)
            have y10 : wr.cell? ⟨gi, j * 15 + 10, none⟩ = some (.int .i64 0) := hci 10 (by decide)
            have y11 : wr.cell? ⟨gi, j * 15 + 11, none⟩ = some (.bool false) := hci 11 (by decide)
            have z0 : wr.cell? ⟨gw, j * 12, none⟩ = some (.int .i64 (ty : Int)) := (hcw 0 (by decide)).trans (by rw [ef]; rfl)
            have z1 : wr.cell? ⟨gw, j * 12 + 1, none⟩ = some (.int .i64 1) := (hcw 1 (by decide)).trans (by rw [ef]; rfl)
            have z2 : wr.cell? ⟨gw, j * 12 + 2, none⟩ = some (.int .i64 0) := (hcw 2 (by decide)).trans (by rw [ef]; rfl)
            have z3 : wr.cell? ⟨gw, j * 12 + 3, none⟩ = some (S d) := (hcw 3 (by decide)).trans (by rw [ef]; rfl)
            have z4 : wr.cell? ⟨gw, j * 12 + 4, none⟩ = some (.int .i64 0) := (hcw 4 (by decide)).trans (by rw [ef]; rfl)
            have z5 : wr.cell? ⟨gw, j * 12 + 5, none⟩ = some (.slice none 0 0) := (hcw 5 (by decide)).trans (by rw [ef]; rfl)
            have z6 : wr.cell? ⟨gw, j * 12 + 6, none⟩ = some (.int .i64 0) := (hcw 6 (by decide)).trans (by rw [ef]; rfl)
            have z7 : wr.cell? ⟨gw, j * 12 + 7, none⟩ = some (.int .i64 0) := (hcw 7 (by decide)).trans (by rw [ef]; rfl)
            have z8 : wr.cell? ⟨gw, j * 12 + 8, none⟩ = some (.int .i64 0) := (hcw 8 (by decide)).trans (by rw [ef]; rfl)
            have z9 : wr.cell? ⟨gw, j * 12 + 9, none⟩ = some (.int .i64 0) := (hcw 9 (by decide)).trans (by rw [ef]; rfl)
            have z10 : wr.cell? ⟨gw, j * 12 + 10, none⟩ = some (.int .i64 0) := (hcw 10 (by decide)).trans (by rw [ef]; rfl)
            have z11 : wr.cell? ⟨gw, j * 12 + 11, none⟩ = some (.bool false) := (hcw 11 (by decide)).trans (by rw [ef]; rfl)
            have EF := Lib.hid ef
            clear hci hcw hsj ei ef
            go_upto_region 27 with fail
            go_region_with (go_at_call 32; (with_reducible refine (rSame_of ty 1 0 d 0 0 0 0 0 0 false _).mono ?_); rintro r w11 ⟨rfl, hb11⟩)
            all_goals (
              go_wp2
              go_roundw
              case rel => exact ⟨j + 1, by omega, by go_num, hbj.trans (((Below.refl _ _).drew.trans hb11).mono hbj.size)⟩
              case measure => simp [intOf]; omega)
          · obtain rfl : j = (panss xs ks k).length := by omega
            go_wp2
            go_ret
            exact ⟨rfl, hb9'.trans (hbj.mono hb9'.size)⟩
      · obtain ⟨wo, rfl⟩ : ∃ wo : World, wo = wr := ⟨_, rfl⟩
        go_upto_region 22 with first
          | (go_at_call 27; go_must ((with_reducible refine (Out_any _ hC).mono ?_); rintro r w8 ⟨v8, rfl, hr8, -, hG⟩; have hrow8 := hC.frames_stay hrow hG; obtain ⟨F8, hC8, hb8, hz8⟩ := goes_on hC hb hB hz hG; have hAl := All_of (panss xs ks k) (fun x hx => (panss_mem hx).1) v8 w8 (own_by hr8) (by have := panss_len xs ks k; omega)))
          | (go_at_call 29; go_must ((with_reducible refine hAl.mono ?_); rintro r w9 ⟨vo, its, rfl, hits, hrowI, hst, hb9⟩; have hrow9 := own_below hrow8 hb9; obtain ⟨ao, co, rfl⟩ := own_form hrowI; obtain ⟨aw, cw, rfl⟩ := own_form hrow9; obtain ⟨hC9, hb9', hz9⟩ := cw_on hC8 hb8 hz8 hb9; have hOv : Calls Tryz.prog 31 #[Ptr n.c] w9 (fun e w' => e = .returned (.bool false) ∧ w' = w9) := Over_any2 w9 hC9))
        have HITS := Lib.hid hits
        clear hits
        go_upto_region 24 with (go_at_call 31; go_must ((with_reducible refine hOv.mono ?_); rintro r w10 ⟨rfl, e10⟩; have e11 := e10.symm; subst e11))
        go_wp2
        have hpl := panss_len xs ks k
        go_loopw [13] (fun i wr => ∃ j, j ≤ (panss xs ks k).length ∧ i = .int .i64 (j : Int) ∧ Below w9.heap.size w9 wr) (fun i _ => (panss xs ks k).length - (intOf i).toNat)
        case atStart => exact ⟨0, Nat.zero_le _, rfl, Below.refl _ _⟩
        case round =>
          obtain ⟨j, hj, rfl, hbj⟩ := hrel
          by_cases hlt : j < (panss xs ks k).length
          · have hil : its.length = (panss xs ks k).length := by have := congrArg List.length HITS.out; simpa using this
            have hji : j < its.length := by omega
            have hrowJ : w9.ownsRow w8.heap.size 72 15 (.slice ao its.length co) its.length (itcells its) := by rw [hil]; exact hrowI
            clear hil
            obtain ⟨-, -, ty, d, ef⟩ := panss_mem (List.getElem_mem hlt)
            have hix : ((its[j]).f, (its[j]).x) = ((panss xs ks k)[j].2, ({} : Ft)) := by
              have h1 := List.getElem_of_eq HITS.out (i := j) (by simpa using hji)
              simpa using h1
            obtain ⟨gi, rfl, hci⟩ := its_at2 (own_below hrowJ hbj) j hji
            obtain ⟨gw, rfl, hcw⟩ := wcls_at (own_below hrow9 hbj) j hlt
            have hsj := hst its[j] (List.getElem_mem hji)
            obtain ⟨⟨f, x, vs⟩, ei⟩ : ∃ i, i = its[j] := ⟨_, rfl⟩
            rw [← ei] at hix hci hsj
            simp only [Prod.mk.injEq] at hix
            obtain ⟨rfl, rfl⟩ := hix
            rw [ef] at hci hsj
            replace hsj : w9.ownsRow w8.heap.size 31 2 vs 0 [] := hsj
            obtain ⟨sa, sc, rfl⟩ := own_form hsj
            have y0 : wr.cell? ⟨gi, j * 15, none⟩ = some (.int .i64 (ty : Int)) := hci 0 (by decide)
            have y1 : wr.cell? ⟨gi, j * 15 + 1, none⟩ = some (.int .i64 1) := hci 1 (by decide)
            have y2 : wr.cell? ⟨gi, j * 15 + 2, none⟩ = some (.int .i64 0) := hci 2 (by decide)
            have y3 : wr.cell? ⟨gi, j * 15 + 3, none⟩ = some (S d) := hci 3 (by decide)
            have y4 : wr.cell? ⟨gi, j * 15 + 4, none⟩ = some (.int .i64 0) := hci 4 (by decide)
            have y5 : wr.cell? ⟨gi, j * 15 + 5, none⟩ = some (.slice sa 0 sc) := hci 5 (by decide)
            have y6 : wr.cell? ⟨gi, j * 15 + 6, none⟩ = some (.int .i64 0) := hci 6 (by decide)
            have y7 : wr.cell? ⟨gi, j * 15 + 7, none⟩ = some (.int .i64 0) := hci 7 (by decide)
            have y8 : wr.cell? ⟨gi, j * 15 + 8, none⟩ = some (.int .i64 0) := hci 8 (by decide)
            have y9 : wr.cell? ⟨gi, j * 15 + 9, none⟩ = some (.int .i64 0) := hci 9 (by decide)
            have y10 : wr.cell? ⟨gi, j * 15 + 10, none⟩ = some (.int .i64 0) := hci 10 (by decide)
            have y11 : wr.cell? ⟨gi, j * 15 + 11, none⟩ = some (.bool false) := hci 11 (by decide)
            have z0 : wr.cell? ⟨gw, j * 12, none⟩ = some (.int .i64 (ty : Int)) := (hcw 0 (by decide)).trans (by rw [ef]; rfl)
            have z1 : wr.cell? ⟨gw, j * 12 + 1, none⟩ = some (.int .i64 1) := (hcw 1 (by decide)).trans (by rw [ef]; rfl)
            have z2 : wr.cell? ⟨gw, j * 12 + 2, none⟩ = some (.int .i64 0) := (hcw 2 (by decide)).trans (by rw [ef]; rfl)
            have z3 : wr.cell? ⟨gw, j * 12 + 3, none⟩ = some (S d) := (hcw 3 (by decide)).trans (by rw [ef]; rfl)
            have z4 : wr.cell? ⟨gw, j * 12 + 4, none⟩ = some (.int .i64 0) := (hcw 4 (by decide)).trans (by rw [ef]; rfl)
            have z5 : wr.cell? ⟨gw, j * 12 + 5, none⟩ = some (.slice none 0 0) := (hcw 5 (by decide)).trans (by rw [ef]; rfl)
            have z6 : wr.cell? ⟨gw, j * 12 + 6, none⟩ = some (.int .i64 0) := (hcw 6 (by decide)).trans (by rw [ef]; rfl)
            have z7 : wr.cell? ⟨gw, j * 12 + 7, none⟩ = some (.int .i64 0) := (hcw 7 (by decide)).trans (by rw [ef]; rfl)
            have z8 : wr.cell? ⟨gw, j * 12 + 8, none⟩ = some (.int .i64 0) := (hcw 8 (by decide)).trans (by rw [ef]; rfl)
            have z9 : wr.cell? ⟨gw, j * 12 + 9, none⟩ = some (.int .i64 0) := (hcw 9 (by decide)).trans (by rw [ef]; rfl)
            have z10 : wr.cell? ⟨gw, j * 12 + 10, none⟩ = some (.int .i64 0) := (hcw 10 (by decide)).trans (by rw [ef]; rfl)
            have z11 : wr.cell? ⟨gw, j * 12 + 11, none⟩ = some (.bool false) := (hcw 11 (by decide)).trans (by rw [ef]; rfl)
            have EF := Lib.hid ef
            clear hci hcw hsj ei ef
            go_upto_region 27 with fail
            go_region_with (go_at_call 32; (with_reducible refine (rSame_of ty 1 0 d 0 0 0 0 0 0 false _).mono ?_); rintro r w11 ⟨rfl, hb11⟩)
            all_goals (
              go_wp2
              go_roundw
              case rel => exact ⟨j + 1, by omega, by go_num, hbj.trans (((Below.refl _ _).drew.trans hb11).mono hbj.size)⟩
              case measure => simp [intOf]; omega)
          · obtain rfl : j = (panss xs ks k).length := by omega
            go_wp2
            go_ret
            exact ⟨rfl, hb9'.trans (hbj.mono hb9'.size)⟩
end Go.Proofs.YtlkfmhbmcicmfaaGreatDoor

namespace Go.Proofs.YtlkfmhbmcicmfaaGreatDoor
open Go Go.RowKit Go.Dr
theorem dp_root : True := by
  have h1 := @drains22_any
  have h2 := @pings22_any
  have h3 := @open_Ss
  have h4 := @open_Us
  have h5 := @open_B
  have h6 := @law_post
  have h7 := @wf_u8
  trivial
end Go.Proofs.YtlkfmhbmcicmfaaGreatDoor

