/- Parts of the proof of wr_root: the texts Law22u. -/
import Derived.Test.YtkeeofhjdffhbaaGreatDoorW31
set_option linter.unusedSimpArgs false
set_option linter.unusedVariables false
set_option linter.unnecessarySimpa false
namespace Go.Proofs.YtkeeofhjdffhbaaGreatDoor
open Go Go.RowKit Go.Dr
variable {n : Nm} {q q' : Cq}
set_option maxRecDepth 100000 in
set_option maxHeartbeats 16000000 in
theorem wrong22_u {va : Option Addr} {vn vc : Nat} (s : Int) (hk : Hid ((wrap64 s).tmod 10 = 0 ∨ (wrap64 s).tmod 10 = 1 ∨ (wrap64 s).tmod 10 = 2 ∨ (wrap64 s).tmod 10 = 3)) (w : World) (hvn : ¬ (65536 : Int) < (vn : Int)) : Calls Tryz.prog 5 #[.int .u8 s, .slice va vn vc] w fun e w' => e = .returned (.bool true) ∧ Below w.heap.size w w' := by
 go_enter Tryz.func5, Tryz.ntmps5
 go_upto_region 7 with first
  | (go_at_call 16;go_must ((with_reducible refine (awake22_any _).mono ?_);rintro r w1 ⟨rfl, hb1⟩))
  | (go_at_call 21;go_must ((with_reducible refine (getS 2 _).mono ?_);rintro r wa ⟨rfl, hba⟩))
 have hbA := hb1.trans (hba.mono hb1.size)
 refine wp_cut (R := fun X => Lists X wa.heap.size ∧ Below w.heap.size w X) ⟨⟨(Blk.new _ _ _).alloc _, bnew_at _ _ _ _ (by simp)⟩, (hbA.alloc hbA.size _).alloc (by have := hbA.size;simp;omega) _⟩ ?_
 clear hba hb1 hbA
 rintro X ⟨hL, hb⟩
 go_upto_region 9 with first
  | (go_at_call 18;go_must ((with_reducible refine (Limits_any _).mono ?_);rintro r w2 ⟨rfl, hb2⟩;replace hL := hL.on hb2;replace hb := hb.trans (hb2.mono hb.size)))
  | (go_at_call 17;go_must ((with_reducible refine (new22 _).mono ?_);rintro r w3 ⟨n, F, rfl, hnB, hC, hb3⟩;have hB : w.heap.size ≤ n.B := (by have := hb.size;omega);have hl : wa.heap.size + 1 < n.B := (by have := hL.lt;omega);replace hL := hL.on hb3;have hb := hb.trans (hb3.mono hb.size);have hz : n.B ≤ w3.heap.size := (by have := hb3.size;omega)))
 go_upto_region 12 with first
  | (go_at_call 31;go_must ((with_reducible refine (Hello_any _).mono ?_);rintro r w4 ⟨v4, rfl, hr4, hb4⟩;obtain ⟨l1, el1⟩ : ∃ l, l = helloB := ⟨_, rfl⟩;rw [← el1] at hr4;have hl1 : l1.length ≤ 100 := (by rw [el1];exact hello_len);have EL1 := Lib.hid el1;clear el1))
  | (go_at_call 21;(with_reducible refine (getS 1 _).mono ?_);rintro r w5 ⟨rfl, hb5⟩)
  | (go_at_call 21;go_must ((with_reducible refine (getS 3 _).mono ?_);rintro r w6 ⟨rfl, hb6⟩;have hb46 := hb5.trans (hb6.mono hb5.size);have hb4A := hb46.trans (((Below.refl w6.heap.size w6).alloc (Nat.le_refl _) (.cells #[.int .i64 1, .int .i64 5, .int .i64 1, S dS, .int .i64 0, .slice none 0 0, .int .i64 0, .int .i64 0, .int .i64 0, .int .i64 0, .int .i64 0, .bool false, .int .i64 1, .int .i64 5, .int .i64 3, S dS, .int .i64 0, .slice none 0 0, .int .i64 0, .int .i64 0, .int .i64 0, .int .i64 0, .int .i64 0, .bool false] 34)).mono hb46.size)))
  | (go_at_call 20;go_must ((with_reducible refine (Bytes_two _ (Blk.new _ _ _)).mono ?_);rintro r w7 ⟨v7, rfl, hr7, hb7⟩;have hb47 := hb4A.trans (hb7.mono hb4A.size);have hr47 := own_below hr4 hb47;obtain ⟨l2, el2⟩ : ∃ l, l = frB 1 5 1 dS ++ frB 1 5 3 dS := ⟨_, rfl⟩;rw [← el2] at hr7;have hl2 : l2.length ≤ 100 := (by rw [el2];exact two_len);have EL2 := Lib.hid el2;clear el2))
  | (at_builtin;go_must (refine wpList_appAt rfl _ _ 26 rfl w3.heap.size 5 (.int .u8 0) 1 1 Tryz.underlying26 (by kernel_rfl) rfl (by decide) _ _ _ rfl hr47 _ _ _ _ rfl (Rd.own hr7) (b8_one2 _) (by unfold maxLen;omega) (by omega) (Nat.le_trans hb4.size hb47.size) ?_;intro a8 c8 w8 hown8 hg8 hat8);have hb37 : Below w3.heap.size w3 w7 := hb4.trans (hb47.mono hb4.size);have hb38 : Below w3.heap.size w3 w8 := hb37.trans ((but_grow hg8).below (fun k hk => (hr47.lt k hk.symm).1) hb37.size);obtain ⟨hC, hL, hb, hz⟩ := on_all hC hL hb hz hb38;have hTk : Calls Tryz.prog 19 #[Ptr n.c, .slice a8 (l1.length + l2.length) c8] w8 _ := Take_three _ w8 hC (byThree hown8 EL1.out EL2.out))
  | (go_at_call 19;go_must ((with_reducible refine hTk.mono ?_);rintro r w9 ⟨v9, j9, rfl, -, hG⟩;obtain ⟨F9, hC, hL, hb, hz⟩ := goes_all hC hL hb hz hB hl hG;have hHd := Head_3 w9 hC))
 go_upto_region 13 with (go_at_call 22;go_must ((with_reducible refine hHd.mono ?_);rintro r w10 ⟨rfl, hG⟩;obtain ⟨F10, hC, hL, hb, hz⟩ := goes_all hC hL hb hz hB hl hG))
 go_upto_region 14 with (go_at_call 26;go_must ((with_reducible refine (Out_any _ hC).mono ?_);rintro r w11 ⟨v11, rfl, -, -, hG⟩;obtain ⟨F11, hC, hL, hb, hz⟩ := goes_all hC hL hb hz hB hl hG))
 refine wp_cut (R := fun X => (∃ F, Cw X n qwo F) ∧ Lists X wa.heap.size ∧ Below w.heap.size w X ∧ n.B ≤ X.heap.size) ⟨⟨_, hC⟩, hL, hb, hz⟩ ?_
 clear hC hL hb hz
 rintro X2 ⟨⟨F, hC⟩, hL, hb, hz⟩
 rcases hk.out with h1 | h1 | h1 | h1
 ·have z0 : X2.cell? ⟨wa.heap.size, 0, none⟩ = some (.int .i64 1) := hL.1.cell 0
  have z1 : X2.cell? ⟨wa.heap.size, 1, none⟩ = some (.int .i64 5) := hL.1.cell 1
  have z2 : X2.cell? ⟨wa.heap.size, 2, none⟩ = some (.int .i64 2) := hL.1.cell 2
  have z3 : X2.cell? ⟨wa.heap.size, 3, none⟩ = some (S dS) := hL.1.cell 3
  have z4 : X2.cell? ⟨wa.heap.size, 4, none⟩ = some (.int .i64 0) := hL.1.cell 4
  have z5 : X2.cell? ⟨wa.heap.size, 5, none⟩ = some (.slice none 0 0) := hL.1.cell 5
  have z6 : X2.cell? ⟨wa.heap.size, 6, none⟩ = some (.int .i64 0) := hL.1.cell 6
  have z7 : X2.cell? ⟨wa.heap.size, 7, none⟩ = some (.int .i64 0) := hL.1.cell 7
  have z8 : X2.cell? ⟨wa.heap.size, 8, none⟩ = some (.int .i64 0) := hL.1.cell 8
  have z9 : X2.cell? ⟨wa.heap.size, 9, none⟩ = some (.int .i64 0) := hL.1.cell 9
  have z10 : X2.cell? ⟨wa.heap.size, 10, none⟩ = some (.int .i64 0) := hL.1.cell 10
  have z11 : X2.cell? ⟨wa.heap.size, 11, none⟩ = some (.bool false) := hL.1.cell 11
  have hBy := fun (w1 : World) (hg : Blk w1 X2.heap.size 34 #[.int .i64 1, .int .i64 5, .int .i64 2, S dS, .int .i64 0, .slice none 0 0, .int .i64 0, .int .i64 0, .int .i64 0, .int .i64 0, .int .i64 0, .bool false]) => byW_0 w1 hg
  have hbA := (Below.refl X2.heap.size X2).alloc (Nat.le_refl _) (.cells #[.int .i64 1, .int .i64 5, .int .i64 2, S dS, .int .i64 0, .slice none 0 0, .int .i64 0, .int .i64 0, .int .i64 0, .int .i64 0, .int .i64 0, .bool false] 34)
  go_upto_region 15 with first
   | (go_at_call 20;go_must ((with_reducible refine (hBy _ (Blk.new _ _ _)).mono ?_);rintro r w12 ⟨v12, rfl, hr12, hb12⟩;obtain ⟨hC, hL, hb, hz⟩ := on_all hC hL hb hz (hbA.trans (hb12.mono hbA.size));have hTk := TakeW_0 w12 hC v12 (own_by hr12)))
   | (go_at_call 19;go_must ((with_reducible refine hTk.mono ?_);rintro r w13 ⟨v13, j13, rfl, hn13, hG⟩;rw [newsW_0] at hn13;obtain rfl : j13 = 1 := (by have h1 := hn13.1;have e : (overN 1).length = 10 := rfl;omega);obtain ⟨a13, c13, rfl⟩ := own_form hn13;obtain ⟨g13, rfl, hcell⟩ := row_cell hn13 (by decide);have k0 : w13.cell? ⟨g13, 0, none⟩ = some (.int .i64 5) := hcell 0 _ rfl;have k9 : w13.cell? ⟨g13, 9, none⟩ = some (.int .i64 1) := hcell 9 _ rfl;clear hcell;obtain ⟨F13, hC, hL, hb, hz⟩ := goes_all hC hL hb hz hB hl hG;have kc : w13.cell? ⟨wa.heap.size + 1, 0, none⟩ = some (.int .i64 1) := hL.2.cell 0))
  go_region
  go_upto_region 17 with fail
  refine wp_cut (R := fun X => (∃ F, Cw X n qz0 F) ∧ Lists X wa.heap.size ∧ Below w.heap.size w X ∧ n.B ≤ X.heap.size ∧ X.ownsRow n.B 84 10 (.slice (some ⟨g13, 0, none⟩) 1 c13) 1 (overN 1)) ⟨⟨_, by first | exact hC | exact hC.drew⟩, by first | exact hL | exact hL.drew, by first | exact hb | exact hb.drew, hz, by first | exact hn13 | exact own_dr hn13⟩ ?_
  clear hC hL hb hz hn13 k0 k9 kc hTk hHd hBy hbA z0 z1 z2 z3 z4 z5 z6 z7 z8 z9 z10 z11
  rintro X3 ⟨⟨F3, hC⟩, hL, hb, hz, hn⟩
  go_upto_region 20 with first
   | (go_at_call 26;go_must ((with_reducible refine (Out_at _ hC hn).mono ?_);rintro r w14 ⟨v14, rfl, hr14, hn14, hG⟩;rw [bytesW_0] at hr14;have hAl := All_of [(awayB 3 1, { ty := 7, last := 3, code := 1 })] (by intro x hx;obtain rfl : x = _ := List.mem_singleton.1 hx;exact ⟨rTk_Gow 3 1 (by decide) (by decide), by decide⟩) v14 w14 (by rw [show flatF [(awayB 3 1, { ty := 7, last := 3, code := 1 })] = awayB 3 1 from List.append_nil _];exact own_by hr14) (by decide);obtain ⟨F14, hC, hL, hb, hz⟩ := goes_all hC hL hb hz hB hl hG))
   | (go_at_call 25;go_must ((with_reducible refine hAl.mono ?_);rintro r w15 ⟨vo, its, rfl, hits, hrow, hsv, hb15⟩;obtain ⟨vs, rfl⟩ := its_one hits;have hsv : w15.ownsRow w14.heap.size 31 2 vs 0 [] := hsv _ (List.mem_of_getElem? (i := 1 - 1) rfl);obtain ⟨sa, sc, rfl⟩ := own_form hsv;replace hrow : w15.ownsRow w14.heap.size 74 15 vo 1 _ := hrow;obtain ⟨ao, co, rfl⟩ := own_form hrow;obtain ⟨go, rfl, hcell⟩ := row_cell hrow (by decide);have m0 : w15.cell? ⟨go, 0, none⟩ = some (.int .i64 7) := hcell 0 _ rfl;have m1 : w15.cell? ⟨go, 1, none⟩ = some (.int .i64 0) := hcell 1 _ rfl;have m2 : w15.cell? ⟨go, 2, none⟩ = some (.int .i64 0) := hcell 2 _ rfl;have m3 : w15.cell? ⟨go, 3, none⟩ = some (S []) := hcell 3 _ rfl;have m4 : w15.cell? ⟨go, 4, none⟩ = some (.int .i64 0) := hcell 4 _ rfl;have m5 : w15.cell? ⟨go, 5, none⟩ = some (.slice sa 0 sc) := hcell 5 _ rfl;have m6 : w15.cell? ⟨go, 6, none⟩ = some (.int .i64 1) := hcell 6 _ rfl;have m7 : w15.cell? ⟨go, 7, none⟩ = some (.int .i64 3) := hcell 7 _ rfl;have m8 : w15.cell? ⟨go, 8, none⟩ = some (.int .i64 0) := hcell 8 _ rfl;have m9 : w15.cell? ⟨go, 9, none⟩ = some (.int .i64 0) := hcell 9 _ rfl;have m10 : w15.cell? ⟨go, 10, none⟩ = some (.int .i64 0) := hcell 10 _ rfl;have m11 : w15.cell? ⟨go, 11, none⟩ = some (.bool false) := hcell 11 _ rfl;clear hcell;have hn15 := own_below hn14 hb15;obtain ⟨hC, hL, hb, hz⟩ := on_all hC hL hb hz hb15))
  have hb16 := (Below.refl w15.heap.size w15).alloc (Nat.le_refl _) (.cells #[.int .i64 7, .int .i64 0, .int .i64 0, S [], .int .i64 0, .slice sa 0 sc, .int .i64 1, .int .i64 3, .int .i64 0, .int .i64 0, .int .i64 0, .bool false] 34)
  go_upto_region 21 with fail
  obtain ⟨bf, ebf⟩ : ∃ bf, bf = w15.heap.size := ⟨_, rfl⟩
  refine wp_cut (R := fun X => (∃ F, Cw X n ({ qz0 with bytes := [] } : Cq) F) ∧ Lists X wa.heap.size ∧ Below w.heap.size w X ∧ n.B ≤ X.heap.size ∧ X.ownsRow n.B 84 10 (.slice (some ⟨g13, 0, none⟩) 1 c13) 1 (overN 1) ∧ Blk X w15.heap.size 34 #[.int .i64 7, .int .i64 0, .int .i64 0, S [], .int .i64 0, .slice sa 0 sc, .int .i64 1, .int .i64 3, .int .i64 0, .int .i64 0, .int .i64 0, .bool false]) ⟨⟨_, hC.on hb16⟩, hL.on hb16, hb.trans (hb16.mono hb.size), Nat.le_trans hz hb16.size, own_below hn15 hb16, Blk.new _ _ _⟩ ?_
  rw [← ebf]
  clear hC hL hb hz hn15 hb16 hits hrow hsv hn14 hr14 m0 m1 m2 m3 m4 m5 m6 m7 m8 m9 m10 m11 ebf hb15
  rintro X4 ⟨⟨F4, hC⟩, hL, hb, hz, hn, hF⟩
  go_upto_region 23 with fail
  have hTk := Take_over X4 hC rfl (.slice va vn vc)
  go_upto_region 24 with (go_at_call 19;go_must ((with_reducible refine hTk.mono ?_);rintro r w17 ⟨rfl, e17⟩;have e18 := e17.symm;subst e18))
  obtain ⟨g', eg'⟩ : ∃ g', g' = g13 := ⟨_, rfl⟩
  rw [← eg'] at hn ⊢
  clear eg'
  replace hC := hC.drew
  replace hL := hL.drew
  replace hb := hb.drew
  replace hF := hF.drew
  replace hn : X4.drew.ownsRow n.B 84 10 (.slice (some ⟨g', 0, none⟩) 1 c13) 1 (overN 1) := own_dr hn
  have k0 : X4.cell? ⟨g', 0, none⟩ = some (.int .i64 5) := news0 hn
  have kc : X4.cell? ⟨wa.heap.size + 1, 0, none⟩ = some (.int .i64 1) := hL.2.cell 0
  have f0 : X4.cell? ⟨bf, 0, none⟩ = some (.int .i64 7) := hF.cell 0
  have f6 : X4.cell? ⟨bf, 6, none⟩ = some (.int .i64 1) := hF.cell 6
  have f7 : X4.cell? ⟨bf, 7, none⟩ = some (.int .i64 3) := hF.cell 7
  have hOv : Calls Tryz.prog 32 #[Ptr n.c] X4.drew (fun e w' => e = .returned (.bool true) ∧ w' = X4.drew) := Over_any2 X4.drew hC
  have hLi := Live_none X4.drew hC rfl
  go_region_held3 (fun W => W.cell? ⟨g', 0, none⟩ = some (.int .i64 5) ∧ W.cell? ⟨wa.heap.size + 1, 0, none⟩ = some (.int .i64 1) ∧ W.cell? ⟨bf, 0, none⟩ = some (.int .i64 7) ∧ W.cell? ⟨bf, 6, none⟩ = some (.int .i64 1) ∧ W.cell? ⟨bf, 7, none⟩ = some (.int .i64 3))
   (first | go_keep)
   (first
    | (go_at_call 32;go_must ((with_reducible refine hOv.mono ?_);rintro r w18 ⟨rfl, e18⟩;subst e18))
    | (go_at_call 33;go_must ((with_reducible refine hLi.mono ?_);rintro r w19 ⟨rfl, hb19⟩;obtain ⟨hC, hL, hb, hz⟩ := on_all hC hL hb hz hb19;have hF := hF.on hb19;have hn := own_below hn hb19;have hHe := Head_out (st := .int .i64 200) (vl := .slice none 0 0) (e := .bool true) w19 hC 1 (by constructor <;> decide) (by intro p hp;cases hp);have k0 : w19.cell? ⟨g', 0, none⟩ = some (.int .i64 5) := news0 hn;have kc : w19.cell? ⟨wa.heap.size + 1, 0, none⟩ = some (.int .i64 1) := hL.2.cell 0;have f0 : w19.cell? ⟨bf, 0, none⟩ = some (.int .i64 7) := hF.cell 0;have f6 : w19.cell? ⟨bf, 6, none⟩ = some (.int .i64 1) := hF.cell 6;have f7 : w19.cell? ⟨bf, 7, none⟩ = some (.int .i64 3) := hF.cell 7))
    | (go_at_call 22;go_must ((with_reducible refine hHe.mono ?_);rintro r w20 ⟨rfl, hb20⟩;obtain ⟨hC, hL, hb, hz⟩ := on_all hC hL hb hz hb20;have hF := hF.on hb20;have hn := own_below hn hb20;have k0 : w20.cell? ⟨g', 0, none⟩ = some (.int .i64 5) := news0 hn;have kc : w20.cell? ⟨wa.heap.size + 1, 0, none⟩ = some (.int .i64 1) := hL.2.cell 0;have f0 : w20.cell? ⟨bf, 0, none⟩ = some (.int .i64 7) := hF.cell 0;have f6 : w20.cell? ⟨bf, 6, none⟩ = some (.int .i64 1) := hF.cell 6;have f7 : w20.cell? ⟨bf, 7, none⟩ = some (.int .i64 3) := hF.cell 7))
    | (go_at_call 26;go_must ((with_reducible refine (Out_at _ hC hn).mono ?_);rintro r w21 ⟨v21, rfl, hr21, hn, hG⟩;have hF := blk_stays hC hF hG;obtain ⟨F21, hC, hL, hb, hz⟩ := goes_all hC hL hb hz hB hl hG;replace hr21 : w21.ownsRow n.B 5 1 v21 0 [] := hr21;obtain ⟨a21, c21, rfl⟩ := own_form hr21;have k0 : w21.cell? ⟨g', 0, none⟩ = some (.int .i64 5) := news0 hn;have kc : w21.cell? ⟨wa.heap.size + 1, 0, none⟩ = some (.int .i64 1) := hL.2.cell 0;have f0 : w21.cell? ⟨bf, 0, none⟩ = some (.int .i64 7) := hF.cell 0;have f6 : w21.cell? ⟨bf, 6, none⟩ = some (.int .i64 1) := hF.cell 6;have f7 : w21.cell? ⟨bf, 7, none⟩ = some (.int .i64 3) := hF.cell 7)))
  all_goals (go_wp2;go_ret;exact ⟨rfl, hb⟩)
 ·have z0 : X2.cell? ⟨wa.heap.size, 12, none⟩ = some (.int .i64 0) := hL.1.cell 12
  have z1 : X2.cell? ⟨wa.heap.size, 13, none⟩ = some (.int .i64 0) := hL.1.cell 13
  have z2 : X2.cell? ⟨wa.heap.size, 14, none⟩ = some (.int .i64 5) := hL.1.cell 14
  have z3 : X2.cell? ⟨wa.heap.size, 15, none⟩ = some (S [120]) := hL.1.cell 15
  have z4 : X2.cell? ⟨wa.heap.size, 16, none⟩ = some (.int .i64 0) := hL.1.cell 16
  have z5 : X2.cell? ⟨wa.heap.size, 17, none⟩ = some (.slice none 0 0) := hL.1.cell 17
  have z6 : X2.cell? ⟨wa.heap.size, 18, none⟩ = some (.int .i64 0) := hL.1.cell 18
  have z7 : X2.cell? ⟨wa.heap.size, 19, none⟩ = some (.int .i64 0) := hL.1.cell 19
  have z8 : X2.cell? ⟨wa.heap.size, 20, none⟩ = some (.int .i64 0) := hL.1.cell 20
  have z9 : X2.cell? ⟨wa.heap.size, 21, none⟩ = some (.int .i64 0) := hL.1.cell 21
  have z10 : X2.cell? ⟨wa.heap.size, 22, none⟩ = some (.int .i64 0) := hL.1.cell 22
  have z11 : X2.cell? ⟨wa.heap.size, 23, none⟩ = some (.bool false) := hL.1.cell 23
  have hBy := fun (w1 : World) (hg : Blk w1 X2.heap.size 34 #[.int .i64 0, .int .i64 0, .int .i64 5, S [120], .int .i64 0, .slice none 0 0, .int .i64 0, .int .i64 0, .int .i64 0, .int .i64 0, .int .i64 0, .bool false]) => byW_1 w1 hg
  have hbA := (Below.refl X2.heap.size X2).alloc (Nat.le_refl _) (.cells #[.int .i64 0, .int .i64 0, .int .i64 5, S [120], .int .i64 0, .slice none 0 0, .int .i64 0, .int .i64 0, .int .i64 0, .int .i64 0, .int .i64 0, .bool false] 34)
  go_upto_region 15 with first
   | (go_at_call 20;go_must ((with_reducible refine (hBy _ (Blk.new _ _ _)).mono ?_);rintro r w12 ⟨v12, rfl, hr12, hb12⟩;obtain ⟨hC, hL, hb, hz⟩ := on_all hC hL hb hz (hbA.trans (hb12.mono hbA.size));have hTk := TakeW_1 w12 hC v12 (own_by hr12)))
   | (go_at_call 19;go_must ((with_reducible refine hTk.mono ?_);rintro r w13 ⟨v13, j13, rfl, hn13, hG⟩;rw [newsW_1] at hn13;obtain rfl : j13 = 1 := (by have h1 := hn13.1;have e : (overN 1).length = 10 := rfl;omega);obtain ⟨a13, c13, rfl⟩ := own_form hn13;obtain ⟨g13, rfl, hcell⟩ := row_cell hn13 (by decide);have k0 : w13.cell? ⟨g13, 0, none⟩ = some (.int .i64 5) := hcell 0 _ rfl;have k9 : w13.cell? ⟨g13, 9, none⟩ = some (.int .i64 1) := hcell 9 _ rfl;clear hcell;obtain ⟨F13, hC, hL, hb, hz⟩ := goes_all hC hL hb hz hB hl hG;have kc : w13.cell? ⟨wa.heap.size + 1, 1, none⟩ = some (.int .i64 1) := hL.2.cell 1))
  go_region
  go_upto_region 17 with fail
  refine wp_cut (R := fun X => (∃ F, Cw X n qz1 F) ∧ Lists X wa.heap.size ∧ Below w.heap.size w X ∧ n.B ≤ X.heap.size ∧ X.ownsRow n.B 84 10 (.slice (some ⟨g13, 0, none⟩) 1 c13) 1 (overN 1)) ⟨⟨_, by first | exact hC | exact hC.drew⟩, by first | exact hL | exact hL.drew, by first | exact hb | exact hb.drew, hz, by first | exact hn13 | exact own_dr hn13⟩ ?_
  clear hC hL hb hz hn13 k0 k9 kc hTk hHd hBy hbA z0 z1 z2 z3 z4 z5 z6 z7 z8 z9 z10 z11
  rintro X3 ⟨⟨F3, hC⟩, hL, hb, hz, hn⟩
  go_upto_region 20 with first
   | (go_at_call 26;go_must ((with_reducible refine (Out_at _ hC hn).mono ?_);rintro r w14 ⟨v14, rfl, hr14, hn14, hG⟩;rw [bytesW_1] at hr14;have hAl := All_of [(awayB 3 1, { ty := 7, last := 3, code := 1 })] (by intro x hx;obtain rfl : x = _ := List.mem_singleton.1 hx;exact ⟨rTk_Gow 3 1 (by decide) (by decide), by decide⟩) v14 w14 (by rw [show flatF [(awayB 3 1, { ty := 7, last := 3, code := 1 })] = awayB 3 1 from List.append_nil _];exact own_by hr14) (by decide);obtain ⟨F14, hC, hL, hb, hz⟩ := goes_all hC hL hb hz hB hl hG))
   | (go_at_call 25;go_must ((with_reducible refine hAl.mono ?_);rintro r w15 ⟨vo, its, rfl, hits, hrow, hsv, hb15⟩;obtain ⟨vs, rfl⟩ := its_one hits;have hsv : w15.ownsRow w14.heap.size 31 2 vs 0 [] := hsv _ (List.mem_of_getElem? (i := 1 - 1) rfl);obtain ⟨sa, sc, rfl⟩ := own_form hsv;replace hrow : w15.ownsRow w14.heap.size 74 15 vo 1 _ := hrow;obtain ⟨ao, co, rfl⟩ := own_form hrow;obtain ⟨go, rfl, hcell⟩ := row_cell hrow (by decide);have m0 : w15.cell? ⟨go, 0, none⟩ = some (.int .i64 7) := hcell 0 _ rfl;have m1 : w15.cell? ⟨go, 1, none⟩ = some (.int .i64 0) := hcell 1 _ rfl;have m2 : w15.cell? ⟨go, 2, none⟩ = some (.int .i64 0) := hcell 2 _ rfl;have m3 : w15.cell? ⟨go, 3, none⟩ = some (S []) := hcell 3 _ rfl;have m4 : w15.cell? ⟨go, 4, none⟩ = some (.int .i64 0) := hcell 4 _ rfl;have m5 : w15.cell? ⟨go, 5, none⟩ = some (.slice sa 0 sc) := hcell 5 _ rfl;have m6 : w15.cell? ⟨go, 6, none⟩ = some (.int .i64 1) := hcell 6 _ rfl;have m7 : w15.cell? ⟨go, 7, none⟩ = some (.int .i64 3) := hcell 7 _ rfl;have m8 : w15.cell? ⟨go, 8, none⟩ = some (.int .i64 0) := hcell 8 _ rfl;have m9 : w15.cell? ⟨go, 9, none⟩ = some (.int .i64 0) := hcell 9 _ rfl;have m10 : w15.cell? ⟨go, 10, none⟩ = some (.int .i64 0) := hcell 10 _ rfl;have m11 : w15.cell? ⟨go, 11, none⟩ = some (.bool false) := hcell 11 _ rfl;clear hcell;have hn15 := own_below hn14 hb15;obtain ⟨hC, hL, hb, hz⟩ := on_all hC hL hb hz hb15))
  have hb16 := (Below.refl w15.heap.size w15).alloc (Nat.le_refl _) (.cells #[.int .i64 7, .int .i64 0, .int .i64 0, S [], .int .i64 0, .slice sa 0 sc, .int .i64 1, .int .i64 3, .int .i64 0, .int .i64 0, .int .i64 0, .bool false] 34)
  go_upto_region 21 with fail
  obtain ⟨bf, ebf⟩ : ∃ bf, bf = w15.heap.size := ⟨_, rfl⟩
  refine wp_cut (R := fun X => (∃ F, Cw X n ({ qz1 with bytes := [] } : Cq) F) ∧ Lists X wa.heap.size ∧ Below w.heap.size w X ∧ n.B ≤ X.heap.size ∧ X.ownsRow n.B 84 10 (.slice (some ⟨g13, 0, none⟩) 1 c13) 1 (overN 1) ∧ Blk X w15.heap.size 34 #[.int .i64 7, .int .i64 0, .int .i64 0, S [], .int .i64 0, .slice sa 0 sc, .int .i64 1, .int .i64 3, .int .i64 0, .int .i64 0, .int .i64 0, .bool false]) ⟨⟨_, hC.on hb16⟩, hL.on hb16, hb.trans (hb16.mono hb.size), Nat.le_trans hz hb16.size, own_below hn15 hb16, Blk.new _ _ _⟩ ?_
  rw [← ebf]
  clear hC hL hb hz hn15 hb16 hits hrow hsv hn14 hr14 m0 m1 m2 m3 m4 m5 m6 m7 m8 m9 m10 m11 ebf hb15
  rintro X4 ⟨⟨F4, hC⟩, hL, hb, hz, hn, hF⟩
  go_upto_region 23 with fail
  have hTk := Take_over X4 hC rfl (.slice va vn vc)
  go_upto_region 24 with (go_at_call 19;go_must ((with_reducible refine hTk.mono ?_);rintro r w17 ⟨rfl, e17⟩;have e18 := e17.symm;subst e18))
  obtain ⟨g', eg'⟩ : ∃ g', g' = g13 := ⟨_, rfl⟩
  rw [← eg'] at hn ⊢
  clear eg'
  replace hC := hC.drew
  replace hL := hL.drew
  replace hb := hb.drew
  replace hF := hF.drew
  replace hn : X4.drew.ownsRow n.B 84 10 (.slice (some ⟨g', 0, none⟩) 1 c13) 1 (overN 1) := own_dr hn
  have k0 : X4.cell? ⟨g', 0, none⟩ = some (.int .i64 5) := news0 hn
  have kc : X4.cell? ⟨wa.heap.size + 1, 1, none⟩ = some (.int .i64 1) := hL.2.cell 1
  have f0 : X4.cell? ⟨bf, 0, none⟩ = some (.int .i64 7) := hF.cell 0
  have f6 : X4.cell? ⟨bf, 6, none⟩ = some (.int .i64 1) := hF.cell 6
  have f7 : X4.cell? ⟨bf, 7, none⟩ = some (.int .i64 3) := hF.cell 7
  have hOv : Calls Tryz.prog 32 #[Ptr n.c] X4.drew (fun e w' => e = .returned (.bool true) ∧ w' = X4.drew) := Over_any2 X4.drew hC
  have hLi := Live_none X4.drew hC rfl
  go_region_held3 (fun W => W.cell? ⟨g', 0, none⟩ = some (.int .i64 5) ∧ W.cell? ⟨wa.heap.size + 1, 1, none⟩ = some (.int .i64 1) ∧ W.cell? ⟨bf, 0, none⟩ = some (.int .i64 7) ∧ W.cell? ⟨bf, 6, none⟩ = some (.int .i64 1) ∧ W.cell? ⟨bf, 7, none⟩ = some (.int .i64 3))
   (first | go_keep)
   (first
    | (go_at_call 32;go_must ((with_reducible refine hOv.mono ?_);rintro r w18 ⟨rfl, e18⟩;subst e18))
    | (go_at_call 33;go_must ((with_reducible refine hLi.mono ?_);rintro r w19 ⟨rfl, hb19⟩;obtain ⟨hC, hL, hb, hz⟩ := on_all hC hL hb hz hb19;have hF := hF.on hb19;have hn := own_below hn hb19;have hHe := Head_out (st := .int .i64 200) (vl := .slice none 0 0) (e := .bool true) w19 hC 1 (by constructor <;> decide) (by intro p hp;cases hp);have k0 : w19.cell? ⟨g', 0, none⟩ = some (.int .i64 5) := news0 hn;have kc : w19.cell? ⟨wa.heap.size + 1, 1, none⟩ = some (.int .i64 1) := hL.2.cell 1;have f0 : w19.cell? ⟨bf, 0, none⟩ = some (.int .i64 7) := hF.cell 0;have f6 : w19.cell? ⟨bf, 6, none⟩ = some (.int .i64 1) := hF.cell 6;have f7 : w19.cell? ⟨bf, 7, none⟩ = some (.int .i64 3) := hF.cell 7))
    | (go_at_call 22;go_must ((with_reducible refine hHe.mono ?_);rintro r w20 ⟨rfl, hb20⟩;obtain ⟨hC, hL, hb, hz⟩ := on_all hC hL hb hz hb20;have hF := hF.on hb20;have hn := own_below hn hb20;have k0 : w20.cell? ⟨g', 0, none⟩ = some (.int .i64 5) := news0 hn;have kc : w20.cell? ⟨wa.heap.size + 1, 1, none⟩ = some (.int .i64 1) := hL.2.cell 1;have f0 : w20.cell? ⟨bf, 0, none⟩ = some (.int .i64 7) := hF.cell 0;have f6 : w20.cell? ⟨bf, 6, none⟩ = some (.int .i64 1) := hF.cell 6;have f7 : w20.cell? ⟨bf, 7, none⟩ = some (.int .i64 3) := hF.cell 7))
    | (go_at_call 26;go_must ((with_reducible refine (Out_at _ hC hn).mono ?_);rintro r w21 ⟨v21, rfl, hr21, hn, hG⟩;have hF := blk_stays hC hF hG;obtain ⟨F21, hC, hL, hb, hz⟩ := goes_all hC hL hb hz hB hl hG;replace hr21 : w21.ownsRow n.B 5 1 v21 0 [] := hr21;obtain ⟨a21, c21, rfl⟩ := own_form hr21;have k0 : w21.cell? ⟨g', 0, none⟩ = some (.int .i64 5) := news0 hn;have kc : w21.cell? ⟨wa.heap.size + 1, 1, none⟩ = some (.int .i64 1) := hL.2.cell 1;have f0 : w21.cell? ⟨bf, 0, none⟩ = some (.int .i64 7) := hF.cell 0;have f6 : w21.cell? ⟨bf, 6, none⟩ = some (.int .i64 1) := hF.cell 6;have f7 : w21.cell? ⟨bf, 7, none⟩ = some (.int .i64 3) := hF.cell 7)))
  all_goals (go_wp2;go_ret;exact ⟨rfl, hb⟩)
 ·have z0 : X2.cell? ⟨wa.heap.size, 24, none⟩ = some (.int .i64 3) := hL.1.cell 24
  have z1 : X2.cell? ⟨wa.heap.size, 25, none⟩ = some (.int .i64 0) := hL.1.cell 25
  have z2 : X2.cell? ⟨wa.heap.size, 26, none⟩ = some (.int .i64 7) := hL.1.cell 26
  have z3 : X2.cell? ⟨wa.heap.size, 27, none⟩ = some (S []) := hL.1.cell 27
  have z4 : X2.cell? ⟨wa.heap.size, 28, none⟩ = some (.int .i64 0) := hL.1.cell 28
  have z5 : X2.cell? ⟨wa.heap.size, 29, none⟩ = some (.slice none 0 0) := hL.1.cell 29
  have z6 : X2.cell? ⟨wa.heap.size, 30, none⟩ = some (.int .i64 0) := hL.1.cell 30
  have z7 : X2.cell? ⟨wa.heap.size, 31, none⟩ = some (.int .i64 0) := hL.1.cell 31
  have z8 : X2.cell? ⟨wa.heap.size, 32, none⟩ = some (.int .i64 0) := hL.1.cell 32
  have z9 : X2.cell? ⟨wa.heap.size, 33, none⟩ = some (.int .i64 0) := hL.1.cell 33
  have z10 : X2.cell? ⟨wa.heap.size, 34, none⟩ = some (.int .i64 0) := hL.1.cell 34
  have z11 : X2.cell? ⟨wa.heap.size, 35, none⟩ = some (.bool false) := hL.1.cell 35
  have hBy := fun (w1 : World) (hg : Blk w1 X2.heap.size 34 #[.int .i64 3, .int .i64 0, .int .i64 7, S [], .int .i64 0, .slice none 0 0, .int .i64 0, .int .i64 0, .int .i64 0, .int .i64 0, .int .i64 0, .bool false]) => byW_2 w1 hg
  have hbA := (Below.refl X2.heap.size X2).alloc (Nat.le_refl _) (.cells #[.int .i64 3, .int .i64 0, .int .i64 7, S [], .int .i64 0, .slice none 0 0, .int .i64 0, .int .i64 0, .int .i64 0, .int .i64 0, .int .i64 0, .bool false] 34)
  go_upto_region 15 with first
   | (go_at_call 20;go_must ((with_reducible refine (hBy _ (Blk.new _ _ _)).mono ?_);rintro r w12 ⟨v12, rfl, hr12, hb12⟩;obtain ⟨hC, hL, hb, hz⟩ := on_all hC hL hb hz (hbA.trans (hb12.mono hbA.size));have hTk := TakeW_2 w12 hC v12 (own_by hr12)))
   | (go_at_call 19;go_must ((with_reducible refine hTk.mono ?_);rintro r w13 ⟨v13, j13, rfl, hn13, hG⟩;rw [newsW_2] at hn13;obtain rfl : j13 = 1 := (by have h1 := hn13.1;have e : (overN 1).length = 10 := rfl;omega);obtain ⟨a13, c13, rfl⟩ := own_form hn13;obtain ⟨g13, rfl, hcell⟩ := row_cell hn13 (by decide);have k0 : w13.cell? ⟨g13, 0, none⟩ = some (.int .i64 5) := hcell 0 _ rfl;have k9 : w13.cell? ⟨g13, 9, none⟩ = some (.int .i64 1) := hcell 9 _ rfl;clear hcell;obtain ⟨F13, hC, hL, hb, hz⟩ := goes_all hC hL hb hz hB hl hG;have kc : w13.cell? ⟨wa.heap.size + 1, 2, none⟩ = some (.int .i64 1) := hL.2.cell 2))
  go_region
  go_upto_region 17 with fail
  refine wp_cut (R := fun X => (∃ F, Cw X n qz2 F) ∧ Lists X wa.heap.size ∧ Below w.heap.size w X ∧ n.B ≤ X.heap.size ∧ X.ownsRow n.B 84 10 (.slice (some ⟨g13, 0, none⟩) 1 c13) 1 (overN 1)) ⟨⟨_, by first | exact hC | exact hC.drew⟩, by first | exact hL | exact hL.drew, by first | exact hb | exact hb.drew, hz, by first | exact hn13 | exact own_dr hn13⟩ ?_
  clear hC hL hb hz hn13 k0 k9 kc hTk hHd hBy hbA z0 z1 z2 z3 z4 z5 z6 z7 z8 z9 z10 z11
  rintro X3 ⟨⟨F3, hC⟩, hL, hb, hz, hn⟩
  go_upto_region 20 with first
   | (go_at_call 26;go_must ((with_reducible refine (Out_at _ hC hn).mono ?_);rintro r w14 ⟨v14, rfl, hr14, hn14, hG⟩;rw [bytesW_2] at hr14;have hAl := All_of [(awayB 3 1, { ty := 7, last := 3, code := 1 })] (by intro x hx;obtain rfl : x = _ := List.mem_singleton.1 hx;exact ⟨rTk_Gow 3 1 (by decide) (by decide), by decide⟩) v14 w14 (by rw [show flatF [(awayB 3 1, { ty := 7, last := 3, code := 1 })] = awayB 3 1 from List.append_nil _];exact own_by hr14) (by decide);obtain ⟨F14, hC, hL, hb, hz⟩ := goes_all hC hL hb hz hB hl hG))
   | (go_at_call 25;go_must ((with_reducible refine hAl.mono ?_);rintro r w15 ⟨vo, its, rfl, hits, hrow, hsv, hb15⟩;obtain ⟨vs, rfl⟩ := its_one hits;have hsv : w15.ownsRow w14.heap.size 31 2 vs 0 [] := hsv _ (List.mem_of_getElem? (i := 1 - 1) rfl);obtain ⟨sa, sc, rfl⟩ := own_form hsv;replace hrow : w15.ownsRow w14.heap.size 74 15 vo 1 _ := hrow;obtain ⟨ao, co, rfl⟩ := own_form hrow;obtain ⟨go, rfl, hcell⟩ := row_cell hrow (by decide);have m0 : w15.cell? ⟨go, 0, none⟩ = some (.int .i64 7) := hcell 0 _ rfl;have m1 : w15.cell? ⟨go, 1, none⟩ = some (.int .i64 0) := hcell 1 _ rfl;have m2 : w15.cell? ⟨go, 2, none⟩ = some (.int .i64 0) := hcell 2 _ rfl;have m3 : w15.cell? ⟨go, 3, none⟩ = some (S []) := hcell 3 _ rfl;have m4 : w15.cell? ⟨go, 4, none⟩ = some (.int .i64 0) := hcell 4 _ rfl;have m5 : w15.cell? ⟨go, 5, none⟩ = some (.slice sa 0 sc) := hcell 5 _ rfl;have m6 : w15.cell? ⟨go, 6, none⟩ = some (.int .i64 1) := hcell 6 _ rfl;have m7 : w15.cell? ⟨go, 7, none⟩ = some (.int .i64 3) := hcell 7 _ rfl;have m8 : w15.cell? ⟨go, 8, none⟩ = some (.int .i64 0) := hcell 8 _ rfl;have m9 : w15.cell? ⟨go, 9, none⟩ = some (.int .i64 0) := hcell 9 _ rfl;have m10 : w15.cell? ⟨go, 10, none⟩ = some (.int .i64 0) := hcell 10 _ rfl;have m11 : w15.cell? ⟨go, 11, none⟩ = some (.bool false) := hcell 11 _ rfl;clear hcell;have hn15 := own_below hn14 hb15;obtain ⟨hC, hL, hb, hz⟩ := on_all hC hL hb hz hb15))
  have hb16 := (Below.refl w15.heap.size w15).alloc (Nat.le_refl _) (.cells #[.int .i64 7, .int .i64 0, .int .i64 0, S [], .int .i64 0, .slice sa 0 sc, .int .i64 1, .int .i64 3, .int .i64 0, .int .i64 0, .int .i64 0, .bool false] 34)
  go_upto_region 21 with fail
  obtain ⟨bf, ebf⟩ : ∃ bf, bf = w15.heap.size := ⟨_, rfl⟩
  refine wp_cut (R := fun X => (∃ F, Cw X n ({ qz2 with bytes := [] } : Cq) F) ∧ Lists X wa.heap.size ∧ Below w.heap.size w X ∧ n.B ≤ X.heap.size ∧ X.ownsRow n.B 84 10 (.slice (some ⟨g13, 0, none⟩) 1 c13) 1 (overN 1) ∧ Blk X w15.heap.size 34 #[.int .i64 7, .int .i64 0, .int .i64 0, S [], .int .i64 0, .slice sa 0 sc, .int .i64 1, .int .i64 3, .int .i64 0, .int .i64 0, .int .i64 0, .bool false]) ⟨⟨_, hC.on hb16⟩, hL.on hb16, hb.trans (hb16.mono hb.size), Nat.le_trans hz hb16.size, own_below hn15 hb16, Blk.new _ _ _⟩ ?_
  rw [← ebf]
  clear hC hL hb hz hn15 hb16 hits hrow hsv hn14 hr14 m0 m1 m2 m3 m4 m5 m6 m7 m8 m9 m10 m11 ebf hb15
  rintro X4 ⟨⟨F4, hC⟩, hL, hb, hz, hn, hF⟩
  go_upto_region 23 with fail
  have hTk := Take_over X4 hC rfl (.slice va vn vc)
  go_upto_region 24 with (go_at_call 19;go_must ((with_reducible refine hTk.mono ?_);rintro r w17 ⟨rfl, e17⟩;have e18 := e17.symm;subst e18))
  obtain ⟨g', eg'⟩ : ∃ g', g' = g13 := ⟨_, rfl⟩
  rw [← eg'] at hn ⊢
  clear eg'
  replace hC := hC.drew
  replace hL := hL.drew
  replace hb := hb.drew
  replace hF := hF.drew
  replace hn : X4.drew.ownsRow n.B 84 10 (.slice (some ⟨g', 0, none⟩) 1 c13) 1 (overN 1) := own_dr hn
  have k0 : X4.cell? ⟨g', 0, none⟩ = some (.int .i64 5) := news0 hn
  have kc : X4.cell? ⟨wa.heap.size + 1, 2, none⟩ = some (.int .i64 1) := hL.2.cell 2
  have f0 : X4.cell? ⟨bf, 0, none⟩ = some (.int .i64 7) := hF.cell 0
  have f6 : X4.cell? ⟨bf, 6, none⟩ = some (.int .i64 1) := hF.cell 6
  have f7 : X4.cell? ⟨bf, 7, none⟩ = some (.int .i64 3) := hF.cell 7
  have hOv : Calls Tryz.prog 32 #[Ptr n.c] X4.drew (fun e w' => e = .returned (.bool true) ∧ w' = X4.drew) := Over_any2 X4.drew hC
  have hLi := Live_none X4.drew hC rfl
  go_region_held3 (fun W => W.cell? ⟨g', 0, none⟩ = some (.int .i64 5) ∧ W.cell? ⟨wa.heap.size + 1, 2, none⟩ = some (.int .i64 1) ∧ W.cell? ⟨bf, 0, none⟩ = some (.int .i64 7) ∧ W.cell? ⟨bf, 6, none⟩ = some (.int .i64 1) ∧ W.cell? ⟨bf, 7, none⟩ = some (.int .i64 3))
   (first | go_keep)
   (first
    | (go_at_call 32;go_must ((with_reducible refine hOv.mono ?_);rintro r w18 ⟨rfl, e18⟩;subst e18))
    | (go_at_call 33;go_must ((with_reducible refine hLi.mono ?_);rintro r w19 ⟨rfl, hb19⟩;obtain ⟨hC, hL, hb, hz⟩ := on_all hC hL hb hz hb19;have hF := hF.on hb19;have hn := own_below hn hb19;have hHe := Head_out (st := .int .i64 200) (vl := .slice none 0 0) (e := .bool true) w19 hC 1 (by constructor <;> decide) (by intro p hp;cases hp);have k0 : w19.cell? ⟨g', 0, none⟩ = some (.int .i64 5) := news0 hn;have kc : w19.cell? ⟨wa.heap.size + 1, 2, none⟩ = some (.int .i64 1) := hL.2.cell 2;have f0 : w19.cell? ⟨bf, 0, none⟩ = some (.int .i64 7) := hF.cell 0;have f6 : w19.cell? ⟨bf, 6, none⟩ = some (.int .i64 1) := hF.cell 6;have f7 : w19.cell? ⟨bf, 7, none⟩ = some (.int .i64 3) := hF.cell 7))
    | (go_at_call 22;go_must ((with_reducible refine hHe.mono ?_);rintro r w20 ⟨rfl, hb20⟩;obtain ⟨hC, hL, hb, hz⟩ := on_all hC hL hb hz hb20;have hF := hF.on hb20;have hn := own_below hn hb20;have k0 : w20.cell? ⟨g', 0, none⟩ = some (.int .i64 5) := news0 hn;have kc : w20.cell? ⟨wa.heap.size + 1, 2, none⟩ = some (.int .i64 1) := hL.2.cell 2;have f0 : w20.cell? ⟨bf, 0, none⟩ = some (.int .i64 7) := hF.cell 0;have f6 : w20.cell? ⟨bf, 6, none⟩ = some (.int .i64 1) := hF.cell 6;have f7 : w20.cell? ⟨bf, 7, none⟩ = some (.int .i64 3) := hF.cell 7))
    | (go_at_call 26;go_must ((with_reducible refine (Out_at _ hC hn).mono ?_);rintro r w21 ⟨v21, rfl, hr21, hn, hG⟩;have hF := blk_stays hC hF hG;obtain ⟨F21, hC, hL, hb, hz⟩ := goes_all hC hL hb hz hB hl hG;replace hr21 : w21.ownsRow n.B 5 1 v21 0 [] := hr21;obtain ⟨a21, c21, rfl⟩ := own_form hr21;have k0 : w21.cell? ⟨g', 0, none⟩ = some (.int .i64 5) := news0 hn;have kc : w21.cell? ⟨wa.heap.size + 1, 2, none⟩ = some (.int .i64 1) := hL.2.cell 2;have f0 : w21.cell? ⟨bf, 0, none⟩ = some (.int .i64 7) := hF.cell 0;have f6 : w21.cell? ⟨bf, 6, none⟩ = some (.int .i64 1) := hF.cell 6;have f7 : w21.cell? ⟨bf, 7, none⟩ = some (.int .i64 3) := hF.cell 7)))
  all_goals (go_wp2;go_ret;exact ⟨rfl, hb⟩)
 ·have z0 : X2.cell? ⟨wa.heap.size, 36, none⟩ = some (.int .i64 8) := hL.1.cell 36
  have z1 : X2.cell? ⟨wa.heap.size, 37, none⟩ = some (.int .i64 0) := hL.1.cell 37
  have z2 : X2.cell? ⟨wa.heap.size, 38, none⟩ = some (.int .i64 9) := hL.1.cell 38
  have z3 : X2.cell? ⟨wa.heap.size, 39, none⟩ = some (S []) := hL.1.cell 39
  have z4 : X2.cell? ⟨wa.heap.size, 40, none⟩ = some (.int .i64 0) := hL.1.cell 40
  have z5 : X2.cell? ⟨wa.heap.size, 41, none⟩ = some (.slice none 0 0) := hL.1.cell 41
  have z6 : X2.cell? ⟨wa.heap.size, 42, none⟩ = some (.int .i64 0) := hL.1.cell 42
  have z7 : X2.cell? ⟨wa.heap.size, 43, none⟩ = some (.int .i64 0) := hL.1.cell 43
  have z8 : X2.cell? ⟨wa.heap.size, 44, none⟩ = some (.int .i64 1) := hL.1.cell 44
  have z9 : X2.cell? ⟨wa.heap.size, 45, none⟩ = some (.int .i64 0) := hL.1.cell 45
  have z10 : X2.cell? ⟨wa.heap.size, 46, none⟩ = some (.int .i64 0) := hL.1.cell 46
  have z11 : X2.cell? ⟨wa.heap.size, 47, none⟩ = some (.bool false) := hL.1.cell 47
  have hBy := fun (w1 : World) (hg : Blk w1 X2.heap.size 34 #[.int .i64 8, .int .i64 0, .int .i64 9, S [], .int .i64 0, .slice none 0 0, .int .i64 0, .int .i64 0, .int .i64 1, .int .i64 0, .int .i64 0, .bool false]) => byW_3 w1 hg
  have hbA := (Below.refl X2.heap.size X2).alloc (Nat.le_refl _) (.cells #[.int .i64 8, .int .i64 0, .int .i64 9, S [], .int .i64 0, .slice none 0 0, .int .i64 0, .int .i64 0, .int .i64 1, .int .i64 0, .int .i64 0, .bool false] 34)
  go_upto_region 15 with first
   | (go_at_call 20;go_must ((with_reducible refine (hBy _ (Blk.new _ _ _)).mono ?_);rintro r w12 ⟨v12, rfl, hr12, hb12⟩;obtain ⟨hC, hL, hb, hz⟩ := on_all hC hL hb hz (hbA.trans (hb12.mono hbA.size));have hTk := TakeW_3 w12 hC v12 (own_by hr12)))
   | (go_at_call 19;go_must ((with_reducible refine hTk.mono ?_);rintro r w13 ⟨v13, j13, rfl, hn13, hG⟩;rw [newsW_3] at hn13;obtain rfl : j13 = 1 := (by have h1 := hn13.1;have e : (overN 1).length = 10 := rfl;omega);obtain ⟨a13, c13, rfl⟩ := own_form hn13;obtain ⟨g13, rfl, hcell⟩ := row_cell hn13 (by decide);have k0 : w13.cell? ⟨g13, 0, none⟩ = some (.int .i64 5) := hcell 0 _ rfl;have k9 : w13.cell? ⟨g13, 9, none⟩ = some (.int .i64 1) := hcell 9 _ rfl;clear hcell;obtain ⟨F13, hC, hL, hb, hz⟩ := goes_all hC hL hb hz hB hl hG;have kc : w13.cell? ⟨wa.heap.size + 1, 3, none⟩ = some (.int .i64 1) := hL.2.cell 3))
  go_region
  go_upto_region 17 with fail
  refine wp_cut (R := fun X => (∃ F, Cw X n qz3 F) ∧ Lists X wa.heap.size ∧ Below w.heap.size w X ∧ n.B ≤ X.heap.size ∧ X.ownsRow n.B 84 10 (.slice (some ⟨g13, 0, none⟩) 1 c13) 1 (overN 1)) ⟨⟨_, by first | exact hC | exact hC.drew⟩, by first | exact hL | exact hL.drew, by first | exact hb | exact hb.drew, hz, by first | exact hn13 | exact own_dr hn13⟩ ?_
  clear hC hL hb hz hn13 k0 k9 kc hTk hHd hBy hbA z0 z1 z2 z3 z4 z5 z6 z7 z8 z9 z10 z11
  rintro X3 ⟨⟨F3, hC⟩, hL, hb, hz, hn⟩
  go_upto_region 20 with first
   | (go_at_call 26;go_must ((with_reducible refine (Out_at _ hC hn).mono ?_);rintro r w14 ⟨v14, rfl, hr14, hn14, hG⟩;rw [bytesW_3] at hr14;have hAl := All_of [(awayB 3 1, { ty := 7, last := 3, code := 1 })] (by intro x hx;obtain rfl : x = _ := List.mem_singleton.1 hx;exact ⟨rTk_Gow 3 1 (by decide) (by decide), by decide⟩) v14 w14 (by rw [show flatF [(awayB 3 1, { ty := 7, last := 3, code := 1 })] = awayB 3 1 from List.append_nil _];exact own_by hr14) (by decide);obtain ⟨F14, hC, hL, hb, hz⟩ := goes_all hC hL hb hz hB hl hG))
   | (go_at_call 25;go_must ((with_reducible refine hAl.mono ?_);rintro r w15 ⟨vo, its, rfl, hits, hrow, hsv, hb15⟩;obtain ⟨vs, rfl⟩ := its_one hits;have hsv : w15.ownsRow w14.heap.size 31 2 vs 0 [] := hsv _ (List.mem_of_getElem? (i := 1 - 1) rfl);obtain ⟨sa, sc, rfl⟩ := own_form hsv;replace hrow : w15.ownsRow w14.heap.size 74 15 vo 1 _ := hrow;obtain ⟨ao, co, rfl⟩ := own_form hrow;obtain ⟨go, rfl, hcell⟩ := row_cell hrow (by decide);have m0 : w15.cell? ⟨go, 0, none⟩ = some (.int .i64 7) := hcell 0 _ rfl;have m1 : w15.cell? ⟨go, 1, none⟩ = some (.int .i64 0) := hcell 1 _ rfl;have m2 : w15.cell? ⟨go, 2, none⟩ = some (.int .i64 0) := hcell 2 _ rfl;have m3 : w15.cell? ⟨go, 3, none⟩ = some (S []) := hcell 3 _ rfl;have m4 : w15.cell? ⟨go, 4, none⟩ = some (.int .i64 0) := hcell 4 _ rfl;have m5 : w15.cell? ⟨go, 5, none⟩ = some (.slice sa 0 sc) := hcell 5 _ rfl;have m6 : w15.cell? ⟨go, 6, none⟩ = some (.int .i64 1) := hcell 6 _ rfl;have m7 : w15.cell? ⟨go, 7, none⟩ = some (.int .i64 3) := hcell 7 _ rfl;have m8 : w15.cell? ⟨go, 8, none⟩ = some (.int .i64 0) := hcell 8 _ rfl;have m9 : w15.cell? ⟨go, 9, none⟩ = some (.int .i64 0) := hcell 9 _ rfl;have m10 : w15.cell? ⟨go, 10, none⟩ = some (.int .i64 0) := hcell 10 _ rfl;have m11 : w15.cell? ⟨go, 11, none⟩ = some (.bool false) := hcell 11 _ rfl;clear hcell;have hn15 := own_below hn14 hb15;obtain ⟨hC, hL, hb, hz⟩ := on_all hC hL hb hz hb15))
  have hb16 := (Below.refl w15.heap.size w15).alloc (Nat.le_refl _) (.cells #[.int .i64 7, .int .i64 0, .int .i64 0, S [], .int .i64 0, .slice sa 0 sc, .int .i64 1, .int .i64 3, .int .i64 0, .int .i64 0, .int .i64 0, .bool false] 34)
  go_upto_region 21 with fail
  obtain ⟨bf, ebf⟩ : ∃ bf, bf = w15.heap.size := ⟨_, rfl⟩
  refine wp_cut (R := fun X => (∃ F, Cw X n ({ qz3 with bytes := [] } : Cq) F) ∧ Lists X wa.heap.size ∧ Below w.heap.size w X ∧ n.B ≤ X.heap.size ∧ X.ownsRow n.B 84 10 (.slice (some ⟨g13, 0, none⟩) 1 c13) 1 (overN 1) ∧ Blk X w15.heap.size 34 #[.int .i64 7, .int .i64 0, .int .i64 0, S [], .int .i64 0, .slice sa 0 sc, .int .i64 1, .int .i64 3, .int .i64 0, .int .i64 0, .int .i64 0, .bool false]) ⟨⟨_, hC.on hb16⟩, hL.on hb16, hb.trans (hb16.mono hb.size), Nat.le_trans hz hb16.size, own_below hn15 hb16, Blk.new _ _ _⟩ ?_
  rw [← ebf]
  clear hC hL hb hz hn15 hb16 hits hrow hsv hn14 hr14 m0 m1 m2 m3 m4 m5 m6 m7 m8 m9 m10 m11 ebf hb15
  rintro X4 ⟨⟨F4, hC⟩, hL, hb, hz, hn, hF⟩
  go_upto_region 23 with fail
  have hTk := Take_over X4 hC rfl (.slice va vn vc)
  go_upto_region 24 with (go_at_call 19;go_must ((with_reducible refine hTk.mono ?_);rintro r w17 ⟨rfl, e17⟩;have e18 := e17.symm;subst e18))
  obtain ⟨g', eg'⟩ : ∃ g', g' = g13 := ⟨_, rfl⟩
  rw [← eg'] at hn ⊢
  clear eg'
  replace hC := hC.drew
  replace hL := hL.drew
  replace hb := hb.drew
  replace hF := hF.drew
  replace hn : X4.drew.ownsRow n.B 84 10 (.slice (some ⟨g', 0, none⟩) 1 c13) 1 (overN 1) := own_dr hn
  have k0 : X4.cell? ⟨g', 0, none⟩ = some (.int .i64 5) := news0 hn
  have kc : X4.cell? ⟨wa.heap.size + 1, 3, none⟩ = some (.int .i64 1) := hL.2.cell 3
  have f0 : X4.cell? ⟨bf, 0, none⟩ = some (.int .i64 7) := hF.cell 0
  have f6 : X4.cell? ⟨bf, 6, none⟩ = some (.int .i64 1) := hF.cell 6
  have f7 : X4.cell? ⟨bf, 7, none⟩ = some (.int .i64 3) := hF.cell 7
  have hOv : Calls Tryz.prog 32 #[Ptr n.c] X4.drew (fun e w' => e = .returned (.bool true) ∧ w' = X4.drew) := Over_any2 X4.drew hC
  have hLi := Live_none X4.drew hC rfl
  go_region_held3 (fun W => W.cell? ⟨g', 0, none⟩ = some (.int .i64 5) ∧ W.cell? ⟨wa.heap.size + 1, 3, none⟩ = some (.int .i64 1) ∧ W.cell? ⟨bf, 0, none⟩ = some (.int .i64 7) ∧ W.cell? ⟨bf, 6, none⟩ = some (.int .i64 1) ∧ W.cell? ⟨bf, 7, none⟩ = some (.int .i64 3))
   (first | go_keep)
   (first
    | (go_at_call 32;go_must ((with_reducible refine hOv.mono ?_);rintro r w18 ⟨rfl, e18⟩;subst e18))
    | (go_at_call 33;go_must ((with_reducible refine hLi.mono ?_);rintro r w19 ⟨rfl, hb19⟩;obtain ⟨hC, hL, hb, hz⟩ := on_all hC hL hb hz hb19;have hF := hF.on hb19;have hn := own_below hn hb19;have hHe := Head_out (st := .int .i64 200) (vl := .slice none 0 0) (e := .bool true) w19 hC 1 (by constructor <;> decide) (by intro p hp;cases hp);have k0 : w19.cell? ⟨g', 0, none⟩ = some (.int .i64 5) := news0 hn;have kc : w19.cell? ⟨wa.heap.size + 1, 3, none⟩ = some (.int .i64 1) := hL.2.cell 3;have f0 : w19.cell? ⟨bf, 0, none⟩ = some (.int .i64 7) := hF.cell 0;have f6 : w19.cell? ⟨bf, 6, none⟩ = some (.int .i64 1) := hF.cell 6;have f7 : w19.cell? ⟨bf, 7, none⟩ = some (.int .i64 3) := hF.cell 7))
    | (go_at_call 22;go_must ((with_reducible refine hHe.mono ?_);rintro r w20 ⟨rfl, hb20⟩;obtain ⟨hC, hL, hb, hz⟩ := on_all hC hL hb hz hb20;have hF := hF.on hb20;have hn := own_below hn hb20;have k0 : w20.cell? ⟨g', 0, none⟩ = some (.int .i64 5) := news0 hn;have kc : w20.cell? ⟨wa.heap.size + 1, 3, none⟩ = some (.int .i64 1) := hL.2.cell 3;have f0 : w20.cell? ⟨bf, 0, none⟩ = some (.int .i64 7) := hF.cell 0;have f6 : w20.cell? ⟨bf, 6, none⟩ = some (.int .i64 1) := hF.cell 6;have f7 : w20.cell? ⟨bf, 7, none⟩ = some (.int .i64 3) := hF.cell 7))
    | (go_at_call 26;go_must ((with_reducible refine (Out_at _ hC hn).mono ?_);rintro r w21 ⟨v21, rfl, hr21, hn, hG⟩;have hF := blk_stays hC hF hG;obtain ⟨F21, hC, hL, hb, hz⟩ := goes_all hC hL hb hz hB hl hG;replace hr21 : w21.ownsRow n.B 5 1 v21 0 [] := hr21;obtain ⟨a21, c21, rfl⟩ := own_form hr21;have k0 : w21.cell? ⟨g', 0, none⟩ = some (.int .i64 5) := news0 hn;have kc : w21.cell? ⟨wa.heap.size + 1, 3, none⟩ = some (.int .i64 1) := hL.2.cell 3;have f0 : w21.cell? ⟨bf, 0, none⟩ = some (.int .i64 7) := hF.cell 0;have f6 : w21.cell? ⟨bf, 6, none⟩ = some (.int .i64 1) := hF.cell 6;have f7 : w21.cell? ⟨bf, 7, none⟩ = some (.int .i64 3) := hF.cell 7)))
  all_goals (go_wp2;go_ret;exact ⟨rfl, hb⟩)
end Go.Proofs.YtkeeofhjdffhbaaGreatDoor
