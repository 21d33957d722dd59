/- Parts of the proof of pt_root: the texts EncB. -/
import Derived.Test.YtkeeofhjdffhbaaGreatDoorT46
set_option linter.unusedSimpArgs false
set_option linter.unusedVariables false
set_option linter.unnecessarySimpa false
namespace Go.Proofs.YtkeeofhjdffhbaaGreatDoor
open Go Go.RowKit Go.Dr
theorem ne_kind {w : World} {base n g size : Nat} {v : Value} {xs : List Value} {ys : Array Value} (h : w.ownsRow base 5 size v n xs) (hF : Blk w g 41 ys) : some g ≠ v.ownBlock := fun e => by
 have a := kd_own h e
 rw [kd_blk hF] at a
 exact absurd a (by decide)
abbrev two8 : Array Value := #[S [58, 115, 116, 97, 116, 117, 115], S [50, 48, 48], .bool false, S [97], S [98], .bool false]
set_option maxRecDepth 100000 in
set_option maxHeartbeats 8000000 in
theorem rEncode_ab {eb sb : Nat} (w : World) (hE : Blk w eb 109 enc0) (hS : Blk w sb 41 two8) (hes : eb ≠ sb) :
    Calls Tryz.prog 12 #[Ptr eb, .slice (some ⟨sb, 0, none⟩) 2 2] w fun e w' => ∃ v, e = .returned v ∧ w'.ownsRow w.heap.size 5 1 v 6 (blkAb.map B8) ∧ But (fun k => k = eb) w w' := by
  have y1 : w.cell? ⟨eb, 1, none⟩ = some (.int .i64 4096) := hE.cell 1
  have y2 : w.cell? ⟨eb, 2, none⟩ = some (.int .i64 4096) := hE.cell 2
  have y3 : w.cell? ⟨eb, 3, none⟩ = some (.int .i64 4096) := hE.cell 3
  have f1 := hE.free 1
  have f2 := hE.free 2
  obtain ⟨W, eW⟩ : ∃ W, W = ((w.setCell ⟨eb, 1, none⟩ (.int .i64 4096)).setCell ⟨eb, 2, none⟩ (.int .i64 4096)).drew := ⟨_, rfl⟩
  have hEW : Blk W eb 109 enc0 := by rw [eW];exact ((hE.set 1 (.int .i64 4096)).set 2 (.int .i64 4096)).drew
  have hSW : Blk W sb 41 two8 := by rw [eW];exact ((hS.other (p := ⟨eb, 1, none⟩) hes.symm _).other (p := ⟨eb, 2, none⟩) hes.symm _).drew
  have hu : But (fun k => k = eb) w W := by rw [eW];exact (((But.refl (fun k => k = eb) w).setCell (p := ⟨eb, 1, none⟩) (.inl rfl) _).setCell (p := ⟨eb, 2, none⟩) (.inl rfl) _).drew
  have hel := hE.lt
  have hR1 := fun w => rFind_eight (eb := eb) (c0 := .int .i64 4096) (c1 := .int .i64 4096) (c2 := .int .i64 4096) (c3 := .int .i64 4096) w
  have eFi : findR [97] [98] (statF ++ []) 0 0 = (0, false) := by decide +kernel
  go_enter Tryz.func12, Tryz.ntmps12
  go_upto_region 3 with fail
  go_region
  go_upto_region 10 with fail
  rw [← eW]
  clear eW
  go_wp2
  refine wp_loop_rounds 3 ?_
  rw [rounds_succ]
  have s0 : W.cell? ⟨sb, 0, none⟩ = some (S [58, 115, 116, 97, 116, 117, 115]) := hSW.cell 0
  have s1 : W.cell? ⟨sb, 1, none⟩ = some (S [50, 48, 48]) := hSW.cell 1
  have s2 : W.cell? ⟨sb, 2, none⟩ = some (.bool false) := hSW.cell 2
  go_upto_region 14 with fail
  refine wp_cut (R := fun X => Blk X W.heap.size 41 stat8 ∧ Below W.heap.size W X) ⟨Blk.new _ _ _, (Below.refl _ _).alloc (Nat.le_refl _) _⟩ ?_
  rintro W1 ⟨hF1, hb1⟩
  have hE1 := hEW.on hb1
  go_cut [9, 10] (fun s9 s10 wx => s9 = .int .i64 8 ∧ s10 = .bool true ∧ Below W1.heap.size W1 wx)
  case first =>
    have k0 : W1.cell? ⟨W.heap.size, 0, none⟩ = some (S [58, 115, 116, 97, 116, 117, 115]) := hF1.cell 0
    have k1 : W1.cell? ⟨W.heap.size, 1, none⟩ = some (S [50, 48, 48]) := hF1.cell 1
    have k2 : W1.cell? ⟨W.heap.size, 2, none⟩ = some (.bool false) := hF1.cell 2
    have hFi := hR1 W1.drew hE1.drew
    go_region_with (go_at_call 43;go_must ((with_reducible refine hFi.mono ?_);rintro e w2 ⟨rfl, hb2⟩))
    all_goals (go_wp2;go_meet;exact ⟨rfl, rfl, (Below.refl _ _).drew.trans hb2⟩)
  case rest =>
    obtain ⟨rfl, rfl, hb2⟩ := hcut
    obtain ⟨W2, rfl⟩ : ∃ W2, W2 = wc := ⟨_, rfl⟩
    have hF2 := hF1.on hb2
    have hE2 := hE1.on hb2
    have hS2 := (hSW.on hb1).on hb2
    have hu2 := (hu.trans (But.of_below hb1)).trans (But.of_below (S := fun k => k = eb) hb2)
    have hz2 := hu2.size
    clear hF1 hE1 hb1 hb2 hu hEW hSW s0 s1 s2
    have q0 : W2.cell? ⟨W.heap.size, 0, none⟩ = some (S [58, 115, 116, 97, 116, 117, 115]) := hF2.cell 0
    have q2 : W2.cell? ⟨W.heap.size, 2, none⟩ = some (.bool false) := hF2.cell 2
    go_wp2_with first
      | (go_at_call 42;(with_reducible refine (rPutInt_eight _).mono ?_);rintro e w3 ⟨v3, rfl, hv3, hb3⟩;obtain ⟨a3, c3, rfl⟩ := own_form hv3)
      | (at_builtin;go_must (refine wpList_appRd rfl _ _ 26 rfl w.heap.size 5 (.int .u8 0) 1 1 Tryz.underlying26 (by kernel_rfl) rfl (by decide) _ _ _ rfl (World.ownsRow_nil _ _ _ _) _ _ _ _ rfl (Rd.own hv3) (by intro u hu;simp at hu;subst hu;rfl) (by decide) (by decide) (Nat.le_trans hz2 hb3.size) ?_);intro a4 c4 w4 hv4 hb4)
    rw [rounds_succ]
    have hE4 := (hE2.on hb3).below hb4 hel
    have hsl := hS.lt
    have hS4 := (hS2.on hb3).below hb4 hsl
    have hu4 : But (fun k => k = eb) w w4 := but_on (hu2.trans (But.of_below (S := fun k => k = eb) hb3)) hb4
    refine wp_cut (R := fun X => X.ownsRow w.heap.size 5 1 (.slice a4 1 c4) 1 [.int .u8 136] ∧ Blk X eb 109 enc0 ∧ Blk X sb 41 two8 ∧ But (fun k => k = eb) w X) ⟨hv4, hE4, hS4, hu4⟩ ?_
    clear hv4 hE4 hS4 hu4 hb4 hv3 hb3 q0 q2 hF2 hE2 hS2 hu2 hz2
    rintro X ⟨hv, hEX, hSX, hu⟩
    have s3 : X.cell? ⟨sb, 3, none⟩ = some (S [97]) := hSX.cell 3
    have s4 : X.cell? ⟨sb, 4, none⟩ = some (S [98]) := hSX.cell 4
    have s5 : X.cell? ⟨sb, 5, none⟩ = some (.bool false) := hSX.cell 5
    go_upto_region 14 with fail
    refine wp_cut (R := fun Y => Blk Y X.heap.size 41 abF ∧ Below X.heap.size X Y) ⟨Blk.new _ _ _, (Below.refl _ _).alloc (Nat.le_refl _) _⟩ ?_
    rintro X1 ⟨hF1, hb1⟩
    have hE1 := hEX.on hb1
    go_cut [9, 10] (fun s9 s10 wx => s9 = .int .i64 0 ∧ s10 = .bool false ∧ Below X1.heap.size X1 wx)
    case first =>
      have k0 : X1.cell? ⟨X.heap.size, 0, none⟩ = some (S [97]) := hF1.cell 0
      have k1 : X1.cell? ⟨X.heap.size, 1, none⟩ = some (S [98]) := hF1.cell 1
      have k2 : X1.cell? ⟨X.heap.size, 2, none⟩ = some (.bool false) := hF1.cell 2
      have hFi := refFind_any [] fAb X1.drew (hE1.drew.cell 4) (Rd.nil _ _ _) (by decide) hE1.lt
      rw [eFi] at hFi
      go_region_with (go_at_call 43;go_must (refine hFi.mono ?_);rintro e w2 ⟨rfl, hb2⟩)
      all_goals (go_wp2;go_meet;exact ⟨rfl, rfl, (Below.refl _ _).drew.trans hb2⟩)
    case rest =>
      obtain ⟨rfl, rfl, hb2⟩ := hcut
      obtain ⟨X2, rfl⟩ : ∃ X2, X2 = wc := ⟨_, rfl⟩
      have hF2 := hF1.on hb2
      have hE2 := hE1.on hb2
      have hv2 := own_below (own_below hv hb1) hb2
      have hu2 := (hu.trans (But.of_below hb1)).trans (But.of_below (S := fun k => k = eb) hb2)
      clear hF1 hE1 hb1 hb2 hu hEX hSX hv s3 s4 s5
      have q0 : X2.cell? ⟨X.heap.size, 0, none⟩ = some (S [97]) := hF2.cell 0
      have q1 : X2.cell? ⟨X.heap.size, 1, none⟩ = some (S [98]) := hF2.cell 1
      have q2 : X2.cell? ⟨X.heap.size, 2, none⟩ = some (.bool false) := hF2.cell 2
      have q3 : X2.cell? ⟨eb, 3, none⟩ = some (.int .i64 4096) := hE2.cell 3
      go_upto_region 18 with fail
      go_cut [12] (fun s12 wx => s12 = .bool true ∧ Below X2.heap.size X2 wx)
      case first =>
        go_region_held3 (fun w' => w'.cell? ⟨X.heap.size, 0, none⟩ = some (S [97]) ∧ w'.cell? ⟨X.heap.size, 1, none⟩ = some (S [98]) ∧ w'.cell? ⟨X.heap.size, 2, none⟩ = some (.bool false) ∧ w'.cell? ⟨eb, 3, none⟩ = some (.int .i64 4096))
          (first | go_keep)
          ((go_at_call 44;go_must ((with_reducible refine (rCost_ab _).mono ?_);rintro e w5 ⟨rfl, hb5⟩;replace hb5 : Below X2.heap.size X2 w5 := (Below.refl _ _).drew.trans hb5;have hF5 := hF2.on hb5;have x0 : w5.cell? ⟨X.heap.size, 0, none⟩ = some (S [97]) := hF5.cell 0;have x1 : w5.cell? ⟨X.heap.size, 1, none⟩ = some (S [98]) := hF5.cell 1;have x2 : w5.cell? ⟨X.heap.size, 2, none⟩ = some (.bool false) := hF5.cell 2;have x3 : w5.cell? ⟨eb, 3, none⟩ = some (.int .i64 4096) := (hE2.on hb5).cell 3)))
        all_goals (go_wp2;go_meet;exact ⟨rfl, hb5⟩)
      case rest =>
        obtain ⟨rfl, hb5⟩ := hcut
        obtain ⟨X5, rfl⟩ : ∃ X5, X5 = wc := ⟨_, rfl⟩
        have hF5 := hF2.on hb5
        have hE5 := hE2.on hb5
        have hv5 := own_below hv2 hb5
        have hu5 := hu2.trans (But.of_below (S := fun k => k = eb) hb5)
        have hz5 := hu5.size
        clear q0 q1 q2 q3 hF2 hE2 hv2 hu2 hb5
        have q0 : X5.cell? ⟨X.heap.size, 0, none⟩ = some (S [97]) := hF5.cell 0
        have q1 : X5.cell? ⟨X.heap.size, 1, none⟩ = some (S [98]) := hF5.cell 1
        have hP := rPutInt_small 64 6 0 (by decide) (by decide) (by decide)
        have hTa := rPutText_raw [97] (by decide) (by decide +kernel)
        have hTb := rPutText_raw [98] (by decide) (by decide +kernel)
        go_upto_region 24 with first
          | (go_at_call 42;go_must (refine (hP _).mono ?_);rintro e w6 ⟨v6, rfl, hr6, hb6⟩;obtain ⟨a6, c6, rfl⟩ := own_form hr6)
          | (at_builtin;go_must (refine wpList_plain rfl fun K hK => ?_;refine wp_appG _ _ 26 rfl w.heap.size 5 (.int .u8 0) 1 1 Tryz.underlying26 (by kernel_rfl) rfl (by decide) _ _ _ rfl (own_below hv5 hb6) _ _ _ _ rfl (Rd.own hr6) (by intro u hu;simp at hu;subst hu;rfl) (by decide) (by decide) (Nat.le_trans hz5 hb6.size) ?_);intro a7 c7 w7 hr7 hb7 hg7;refine hK _ _ ?_;have hF7 := (hF5.on hb6).grow hg7 (ne_kind (own_below hv5 hb6) (hF5.on hb6));have hE7 := (hE5.on hb6).below hb7 hel;have k0 : w7.cell? ⟨X.heap.size, 0, none⟩ = some (S [97]) := hF7.cell 0;have hu7 := but_on (hu5.trans (But.of_below (S := fun k => k = eb) hb6)) hb7)
        clear q0 q1 hP hr6 hb6 hF5 hE5 hv5 hu5 hz5
        have hz7 := hu7.size
        go_upto_region 26 with first
          | (go_at_call 45;go_must (refine (hTa _).mono ?_);rintro e w8 ⟨v8, rfl, hr8, hb8⟩;obtain ⟨a8, c8, rfl⟩ := own_form hr8)
          | (at_builtin;go_must (refine wpList_plain rfl fun K hK => ?_;refine wp_appG _ _ 26 rfl w.heap.size 5 (.int .u8 0) 1 1 Tryz.underlying26 (by kernel_rfl) rfl (by decide) _ _ _ rfl (own_below hr7 hb8) _ _ _ _ rfl (Rd.own hr8) (b8_one2 _) (by decide) (by decide) (Nat.le_trans hz7 hb8.size) ?_);intro a9 c9 w9 hr9 hb9 hg9;refine hK _ _ ?_;have hF9 := (hF7.on hb8).grow hg9 (ne_kind (own_below hr7 hb8) (hF7.on hb8));have hE9 := (hE7.on hb8).below hb9 hel;have k1 : w9.cell? ⟨X.heap.size, 1, none⟩ = some (S [98]) := hF9.cell 1;have hu9 := but_on (hu7.trans (But.of_below (S := fun k => k = eb) hb8)) hb9)
        clear k0 hTa hr8 hb8 hF7 hE7 hr7 hu7 hz7
        have hz9 := hu9.size
        go_upto_region 27 with first
          | (go_at_call 45;go_must (refine (hTb _).mono ?_);rintro e w10 ⟨v10, rfl, hr10, hb10⟩;obtain ⟨a10, c10, rfl⟩ := own_form hr10)
          | (at_builtin;go_must (refine wpList_plain rfl fun K hK => ?_;refine wp_appG _ _ 26 rfl w.heap.size 5 (.int .u8 0) 1 1 Tryz.underlying26 (by kernel_rfl) rfl (by decide) _ _ _ rfl (own_below hr9 hb10) _ _ _ _ rfl (Rd.own hr10) (b8_one2 _) (by decide) (by decide) (Nat.le_trans hz9 hb10.size) ?_);intro a11 c11 w11 hr11 hb11 hg11;refine hK _ _ ?_;have hF11 := (hF9.on hb10).grow hg11 (ne_kind (own_below hr9 hb10) (hF9.on hb10));have hE11 := (hE9.on hb10).below hb11 hel;have hu11 := but_on (hu9.trans (But.of_below (S := fun k => k = eb) hb10)) hb11)
        clear k1 hTb hr10 hb10 hF9 hE9 hr9 hu9 hz9
        have hr11' : w11.ownsRow w.heap.size 5 1 (.slice a11 6 c11) 6 (blkAb.map B8) := hr11
        have hAdd := rAdd_ab w11.drew hE11.drew
        have k0 : w11.cell? ⟨X.heap.size, 0, none⟩ = some (S [97]) := hF11.cell 0
        have k1 : w11.cell? ⟨X.heap.size, 1, none⟩ = some (S [98]) := hF11.cell 1
        have k2 : w11.cell? ⟨X.heap.size, 2, none⟩ = some (.bool false) := hF11.cell 2
        go_upto_region 28 with fail
        go_region_with (go_at_call 46;go_must ((with_reducible refine hAdd.mono ?_);rintro e w12 ⟨rfl, hb12⟩))
        all_goals
          (have hcut : But (fun k => k = eb) w11 w12 := (But.refl _ w11).drew.trans hb12
           go_wp2
           rw [rounds_succ]
           go_wp2
           go_ret
           exact ⟨_, rfl, own_same hr11' fun g hg => hcut.block g (own_lt hr11' hg).2 (by intro e;have := (own_lt hr11' hg).1;omega), hu11.trans hcut⟩)
end Go.Proofs.YtkeeofhjdffhbaaGreatDoor
