/- Parts of the proof of wr_root: the texts Law22z Law22w Open9 Cwr. -/
import Derived.Test.YtkeeofhjdffhbaaGreatDoorW32
import Derived.Test.YtkeeofhjdffhbaaGreatDoorW33
set_option linter.unusedSimpArgs false
set_option linter.unusedVariables false
set_option linter.unnecessarySimpa false
namespace Go.Proofs.YtkeeofhjdffhbaaGreatDoor
open Go Go.RowKit Go.Dr
variable {n : Nm} {q q' : Cq}
set_option maxRecDepth 100000 in
set_option maxHeartbeats 16000000 in
theorem wrong22_z {va : Option Addr} {vn vc : Nat} (s : Int) (hk : Hid ((wrap64 s).tmod 10 = 8 ∨ (wrap64 s).tmod 10 = 9)) (w : World) (hvn : ¬ (65536 : Int) < (vn : Int)) : Calls Tryz.prog 5 #[.int .u8 s, .slice va vn vc] w fun e w' => e = .returned (.bool true) ∧ Below w.heap.size w w' := by
 go_enter Tryz.func5, Tryz.ntmps5
 go_upto_region 7 with first
  | (go_at_call 16;go_must ((with_reducible refine (awake22_any _).mono ?_);rintro r w1 ⟨rfl, hb1⟩))
  | (go_at_call 21;go_must ((with_reducible refine (getS 2 _).mono ?_);rintro r wa ⟨rfl, hba⟩))
 have hbA := hb1.trans (hba.mono hb1.size)
 refine wp_cut (R := fun X => Lists X wa.heap.size ∧ Below w.heap.size w X) ⟨⟨(Blk.new _ _ _).alloc _, bnew_at _ _ _ _ (by simp)⟩, (hbA.alloc hbA.size _).alloc (by have := hbA.size;simp;omega) _⟩ ?_
 clear hba hb1 hbA
 rintro X ⟨hL, hb⟩
 go_upto_region 9 with first
  | (go_at_call 18;go_must ((with_reducible refine (Limits_any _).mono ?_);rintro r w2 ⟨rfl, hb2⟩;replace hL := hL.on hb2;replace hb := hb.trans (hb2.mono hb.size)))
  | (go_at_call 17;go_must ((with_reducible refine (new22 _).mono ?_);rintro r w3 ⟨n, F, rfl, hnB, hC, hb3⟩;have hB : w.heap.size ≤ n.B := (by have := hb.size;omega);have hl : wa.heap.size + 1 < n.B := (by have := hL.lt;omega);replace hL := hL.on hb3;have hb := hb.trans (hb3.mono hb.size);have hz : n.B ≤ w3.heap.size := (by have := hb3.size;omega)))
 go_upto_region 12 with first
  | (go_at_call 31;go_must ((with_reducible refine (Hello_any _).mono ?_);rintro r w4 ⟨v4, rfl, hr4, hb4⟩;obtain ⟨l1, el1⟩ : ∃ l, l = helloB := ⟨_, rfl⟩;rw [← el1] at hr4;have hl1 : l1.length ≤ 100 := (by rw [el1];exact hello_len);have EL1 := Lib.hid el1;clear el1))
  | (go_at_call 21;(with_reducible refine (getS 1 _).mono ?_);rintro r w5 ⟨rfl, hb5⟩)
  | (go_at_call 21;go_must ((with_reducible refine (getS 3 _).mono ?_);rintro r w6 ⟨rfl, hb6⟩;have hb46 := hb5.trans (hb6.mono hb5.size);have hb4A := hb46.trans (((Below.refl w6.heap.size w6).alloc (Nat.le_refl _) (.cells #[.int .i64 1, .int .i64 5, .int .i64 1, S dS, .int .i64 0, .slice none 0 0, .int .i64 0, .int .i64 0, .int .i64 0, .int .i64 0, .int .i64 0, .bool false, .int .i64 1, .int .i64 5, .int .i64 3, S dS, .int .i64 0, .slice none 0 0, .int .i64 0, .int .i64 0, .int .i64 0, .int .i64 0, .int .i64 0, .bool false] 34)).mono hb46.size)))
  | (go_at_call 20;go_must ((with_reducible refine (Bytes_two _ (Blk.new _ _ _)).mono ?_);rintro r w7 ⟨v7, rfl, hr7, hb7⟩;have hb47 := hb4A.trans (hb7.mono hb4A.size);have hr47 := own_below hr4 hb47;obtain ⟨l2, el2⟩ : ∃ l, l = frB 1 5 1 dS ++ frB 1 5 3 dS := ⟨_, rfl⟩;rw [← el2] at hr7;have hl2 : l2.length ≤ 100 := (by rw [el2];exact two_len);have EL2 := Lib.hid el2;clear el2))
  | (at_builtin;go_must (refine wpList_appAt rfl _ _ 26 rfl w3.heap.size 5 (.int .u8 0) 1 1 Tryz.underlying26 (by kernel_rfl) rfl (by decide) _ _ _ rfl hr47 _ _ _ _ rfl (Rd.own hr7) (b8_one2 _) (by unfold maxLen;omega) (by omega) (Nat.le_trans hb4.size hb47.size) ?_;intro a8 c8 w8 hown8 hg8 hat8);have hb37 : Below w3.heap.size w3 w7 := hb4.trans (hb47.mono hb4.size);have hb38 : Below w3.heap.size w3 w8 := hb37.trans ((but_grow hg8).below (fun k hk => (hr47.lt k hk.symm).1) hb37.size);obtain ⟨hC, hL, hb, hz⟩ := on_all hC hL hb hz hb38;have hTk : Calls Tryz.prog 19 #[Ptr n.c, .slice a8 (l1.length + l2.length) c8] w8 _ := Take_three _ w8 hC (byThree hown8 EL1.out EL2.out))
  | (go_at_call 19;go_must ((with_reducible refine hTk.mono ?_);rintro r w9 ⟨v9, j9, rfl, -, hG⟩;obtain ⟨F9, hC, hL, hb, hz⟩ := goes_all hC hL hb hz hB hl hG;have hHd := Head_3 w9 hC))
 go_upto_region 13 with (go_at_call 22;go_must ((with_reducible refine hHd.mono ?_);rintro r w10 ⟨rfl, hG⟩;obtain ⟨F10, hC, hL, hb, hz⟩ := goes_all hC hL hb hz hB hl hG))
 go_upto_region 14 with (go_at_call 26;go_must ((with_reducible refine (Out_any _ hC).mono ?_);rintro r w11 ⟨v11, rfl, -, -, hG⟩;obtain ⟨F11, hC, hL, hb, hz⟩ := goes_all hC hL hb hz hB hl hG))
 refine wp_cut (R := fun X => (∃ F, Cw X n qwo F) ∧ Lists X wa.heap.size ∧ Below w.heap.size w X ∧ n.B ≤ X.heap.size) ⟨⟨_, hC⟩, hL, hb, hz⟩ ?_
 clear hC hL hb hz
 rintro X2 ⟨⟨F, hC⟩, hL, hb, hz⟩
 rcases hk.out with h1 | h1
 ·have z0 : X2.cell? ⟨wa.heap.size, 96, none⟩ = some (.int .i64 0) := hL.1.cell 96
  have z1 : X2.cell? ⟨wa.heap.size, 97, none⟩ = some (.int .i64 0) := hL.1.cell 97
  have z2 : X2.cell? ⟨wa.heap.size, 98, none⟩ = some (.int .i64 1) := hL.1.cell 98
  have z3 : X2.cell? ⟨wa.heap.size, 99, none⟩ = some (S [120]) := hL.1.cell 99
  have z4 : X2.cell? ⟨wa.heap.size, 100, none⟩ = some (.int .i64 0) := hL.1.cell 100
  have z5 : X2.cell? ⟨wa.heap.size, 101, none⟩ = some (.slice none 0 0) := hL.1.cell 101
  have z6 : X2.cell? ⟨wa.heap.size, 102, none⟩ = some (.int .i64 0) := hL.1.cell 102
  have z7 : X2.cell? ⟨wa.heap.size, 103, none⟩ = some (.int .i64 0) := hL.1.cell 103
  have z8 : X2.cell? ⟨wa.heap.size, 104, none⟩ = some (.int .i64 0) := hL.1.cell 104
  have z9 : X2.cell? ⟨wa.heap.size, 105, none⟩ = some (.int .i64 0) := hL.1.cell 105
  have z10 : X2.cell? ⟨wa.heap.size, 106, none⟩ = some (.int .i64 0) := hL.1.cell 106
  have z11 : X2.cell? ⟨wa.heap.size, 107, none⟩ = some (.bool false) := hL.1.cell 107
  have hBy := fun (w1 : World) (hg : Blk w1 X2.heap.size 34 #[.int .i64 0, .int .i64 0, .int .i64 1, S [120], .int .i64 0, .slice none 0 0, .int .i64 0, .int .i64 0, .int .i64 0, .int .i64 0, .int .i64 0, .bool false]) => byW_8 w1 hg
  have hbA := (Below.refl X2.heap.size X2).alloc (Nat.le_refl _) (.cells #[.int .i64 0, .int .i64 0, .int .i64 1, S [120], .int .i64 0, .slice none 0 0, .int .i64 0, .int .i64 0, .int .i64 0, .int .i64 0, .int .i64 0, .bool false] 34)
  go_upto_region 15 with first
   | (go_at_call 20;go_must ((with_reducible refine (hBy _ (Blk.new _ _ _)).mono ?_);rintro r w12 ⟨v12, rfl, hr12, hb12⟩;obtain ⟨hC, hL, hb, hz⟩ := on_all hC hL hb hz (hbA.trans (hb12.mono hbA.size));have hTk := TakeW_8 w12 hC v12 (own_by hr12)))
   | (go_at_call 19;go_must ((with_reducible refine hTk.mono ?_);rintro r w13 ⟨v13, j13, rfl, hn13, hG⟩;rw [newsW_8] at hn13;obtain rfl : j13 = 1 := (by have h1 := hn13.1;have e : (dropN 1 5).length = 10 := rfl;omega);obtain ⟨a13, c13, rfl⟩ := own_form hn13;obtain ⟨g13, rfl, hcell⟩ := row_cell hn13 (by decide);have k0 : w13.cell? ⟨g13, 0, none⟩ = some (.int .i64 4) := hcell 0 _ rfl;have k9 : w13.cell? ⟨g13, 9, none⟩ = some (.int .i64 5) := hcell 9 _ rfl;clear hcell;obtain ⟨F13, hC, hL, hb, hz⟩ := goes_all hC hL hb hz hB hl hG;have kc : w13.cell? ⟨wa.heap.size + 1, 8, none⟩ = some (.int .i64 5) := hL.2.cell 8))
  go_region
  go_upto_region 17 with fail
  refine wp_cut (R := fun X => (∃ F, Cw X n qz8 F) ∧ Lists X wa.heap.size ∧ Below w.heap.size w X ∧ n.B ≤ X.heap.size ∧ X.ownsRow n.B 84 10 (.slice (some ⟨g13, 0, none⟩) 1 c13) 1 (dropN 1 5)) ⟨⟨_, by first | exact hC | exact hC.drew⟩, by first | exact hL | exact hL.drew, by first | exact hb | exact hb.drew, hz, by first | exact hn13 | exact own_dr hn13⟩ ?_
  clear hC hL hb hz hn13 k0 k9 kc hTk hHd hBy hbA z0 z1 z2 z3 z4 z5 z6 z7 z8 z9 z10 z11
  rintro X3 ⟨⟨F3, hC⟩, hL, hb, hz, hn⟩
  go_upto_region 20 with first
   | (go_at_call 26;go_must ((with_reducible refine (Out_at _ hC hn).mono ?_);rintro r w14 ⟨v14, rfl, hr14, hn14, hG⟩;rw [bytesW_8] at hr14;have hAl := All_of [(frB 8 0 0 (beP 1 4), { ty := 8, st := 0, inc := 1 }), (frB 3 0 1 (beP 5 4), { ty := 3, st := 1, code := 5 })] (by intro x hx;rcases List.mem_cons.1 hx with rfl | hx;exact ⟨rTk_Win 0 1 (by decide) (by decide) (by decide), by decide⟩;obtain rfl : x = _ := List.mem_singleton.1 hx;exact ⟨rTk_Rst 1 5 (by decide) (by decide) (by decide), by decide⟩) v14 w14 (by rw [show flatF [(frB 8 0 0 (beP 1 4), { ty := 8, st := 0, inc := 1 }), (frB 3 0 1 (beP 5 4), { ty := 3, st := 1, code := 5 })] = frB 8 0 0 (beP ([120] : Bytes).length 4) ++ frB 3 0 1 (beP 5 4) from by simp [flatF]];exact own_by hr14) (by decide);obtain ⟨F14, hC, hL, hb, hz⟩ := goes_all hC hL hb hz hB hl hG))
   | (go_at_call 25;go_must ((with_reducible refine hAl.mono ?_);rintro r w15 ⟨vo, its, rfl, hits, hrow, hsv, hb15⟩;obtain ⟨vs0, vs, rfl⟩ := its_two hits;have hsv : w15.ownsRow w14.heap.size 31 2 vs 0 [] := hsv _ (List.mem_of_getElem? (i := 2 - 1) rfl);obtain ⟨sa, sc, rfl⟩ := own_form hsv;replace hrow : w15.ownsRow w14.heap.size 74 15 vo 2 _ := hrow;obtain ⟨ao, co, rfl⟩ := own_form hrow;obtain ⟨go, rfl, hcell⟩ := row_cell hrow (by decide);have m0 : w15.cell? ⟨go, 15, none⟩ = some (.int .i64 3) := hcell 15 _ rfl;have m1 : w15.cell? ⟨go, 16, none⟩ = some (.int .i64 0) := hcell 16 _ rfl;have m2 : w15.cell? ⟨go, 17, none⟩ = some (.int .i64 1) := hcell 17 _ rfl;have m3 : w15.cell? ⟨go, 18, none⟩ = some (S []) := hcell 18 _ rfl;have m4 : w15.cell? ⟨go, 19, none⟩ = some (.int .i64 0) := hcell 19 _ rfl;have m5 : w15.cell? ⟨go, 20, none⟩ = some (.slice sa 0 sc) := hcell 20 _ rfl;have m6 : w15.cell? ⟨go, 21, none⟩ = some (.int .i64 5) := hcell 21 _ rfl;have m7 : w15.cell? ⟨go, 22, none⟩ = some (.int .i64 0) := hcell 22 _ rfl;have m8 : w15.cell? ⟨go, 23, none⟩ = some (.int .i64 0) := hcell 23 _ rfl;have m9 : w15.cell? ⟨go, 24, none⟩ = some (.int .i64 0) := hcell 24 _ rfl;have m10 : w15.cell? ⟨go, 25, none⟩ = some (.int .i64 0) := hcell 25 _ rfl;have m11 : w15.cell? ⟨go, 26, none⟩ = some (.bool false) := hcell 26 _ rfl;clear hcell;have hn15 := own_below hn14 hb15;obtain ⟨hC, hL, hb, hz⟩ := on_all hC hL hb hz hb15))
  have hb16 := (Below.refl w15.heap.size w15).alloc (Nat.le_refl _) (.cells #[.int .i64 3, .int .i64 0, .int .i64 1, S [], .int .i64 0, .slice sa 0 sc, .int .i64 5, .int .i64 0, .int .i64 0, .int .i64 0, .int .i64 0, .bool false] 34)
  go_upto_region 21 with fail
  obtain ⟨bf, ebf⟩ : ∃ bf, bf = w15.heap.size := ⟨_, rfl⟩
  refine wp_cut (R := fun X => (∃ F, Cw X n ({ qz8 with bytes := [] } : Cq) F) ∧ Lists X wa.heap.size ∧ Below w.heap.size w X ∧ n.B ≤ X.heap.size ∧ X.ownsRow n.B 84 10 (.slice (some ⟨g13, 0, none⟩) 1 c13) 1 (dropN 1 5) ∧ Blk X w15.heap.size 34 #[.int .i64 3, .int .i64 0, .int .i64 1, S [], .int .i64 0, .slice sa 0 sc, .int .i64 5, .int .i64 0, .int .i64 0, .int .i64 0, .int .i64 0, .bool false]) ⟨⟨_, hC.on hb16⟩, hL.on hb16, hb.trans (hb16.mono hb.size), Nat.le_trans hz hb16.size, own_below hn15 hb16, Blk.new _ _ _⟩ ?_
  rw [← ebf]
  clear hC hL hb hz hn15 hb16 hits hrow hsv hn14 hr14 m0 m1 m2 m3 m4 m5 m6 m7 m8 m9 m10 m11 ebf hb15
  rintro X4 ⟨⟨F4, hC⟩, hL, hb, hz, hn, hF⟩
  go_upto_region 22 with fail
  obtain ⟨g', eg'⟩ : ∃ g', g' = g13 := ⟨_, rfl⟩
  rw [← eg'] at hn ⊢
  clear eg'
  replace hC := hC.drew
  replace hL := hL.drew
  replace hb := hb.drew
  replace hF := hF.drew
  replace hn : X4.drew.ownsRow n.B 84 10 (.slice (some ⟨g', 0, none⟩) 1 c13) 1 (dropN 1 5) := own_dr hn
  have k0 : X4.cell? ⟨g', 0, none⟩ = some (.int .i64 4) := news0 hn
  have kc : X4.cell? ⟨wa.heap.size + 1, 8, none⟩ = some (.int .i64 5) := hL.2.cell 8
  have f0 : X4.cell? ⟨bf, 0, none⟩ = some (.int .i64 3) := hF.cell 0
  have f2 : X4.cell? ⟨bf, 2, none⟩ = some (.int .i64 1) := hF.cell 2
  have f6 : X4.cell? ⟨bf, 6, none⟩ = some (.int .i64 5) := hF.cell 6
  have hOv : Calls Tryz.prog 32 #[Ptr n.c] X4.drew (fun e w' => e = .returned (.bool false) ∧ w' = X4.drew) := Over_any2 X4.drew hC
  have hSt : Calls Tryz.prog 29 #[Ptr n.c, .int .i64 1] X4.drew (fun e w' => e = .returned (.int .i64 5) ∧ w' = X4.drew) := State_how X4.drew hC 1 5 (by decide +kernel) (by decide +kernel) (by decide) (by decide +kernel) (by decide) (by decide +kernel)
  go_region_held3 (fun W => W.cell? ⟨g', 0, none⟩ = some (.int .i64 4) ∧ W.cell? ⟨wa.heap.size + 1, 8, none⟩ = some (.int .i64 5) ∧ W.cell? ⟨bf, 0, none⟩ = some (.int .i64 3) ∧ W.cell? ⟨bf, 2, none⟩ = some (.int .i64 1) ∧ W.cell? ⟨bf, 6, none⟩ = some (.int .i64 5))
   (first | go_keep)
   (first
    | (go_at_call 32;go_must ((with_reducible refine hOv.mono ?_);rintro r w18 ⟨rfl, e18⟩;subst e18))
    | (go_at_call 29;go_must ((with_reducible refine hSt.mono ?_);rintro r w19 ⟨rfl, e19⟩;subst e19)))
  all_goals (go_wp2;go_ret;exact ⟨rfl, hb⟩)
 ·have z0 : X2.cell? ⟨wa.heap.size, 108, none⟩ = some (.int .i64 1) := hL.1.cell 108
  have z1 : X2.cell? ⟨wa.heap.size, 109, none⟩ = some (.int .i64 4) := hL.1.cell 109
  have z2 : X2.cell? ⟨wa.heap.size, 110, none⟩ = some (.int .i64 1) := hL.1.cell 110
  have z3 : X2.cell? ⟨wa.heap.size, 111, none⟩ = some (S [130]) := hL.1.cell 111
  have z4 : X2.cell? ⟨wa.heap.size, 112, none⟩ = some (.int .i64 0) := hL.1.cell 112
  have z5 : X2.cell? ⟨wa.heap.size, 113, none⟩ = some (.slice none 0 0) := hL.1.cell 113
  have z6 : X2.cell? ⟨wa.heap.size, 114, none⟩ = some (.int .i64 0) := hL.1.cell 114
  have z7 : X2.cell? ⟨wa.heap.size, 115, none⟩ = some (.int .i64 0) := hL.1.cell 115
  have z8 : X2.cell? ⟨wa.heap.size, 116, none⟩ = some (.int .i64 0) := hL.1.cell 116
  have z9 : X2.cell? ⟨wa.heap.size, 117, none⟩ = some (.int .i64 0) := hL.1.cell 117
  have z10 : X2.cell? ⟨wa.heap.size, 118, none⟩ = some (.int .i64 0) := hL.1.cell 118
  have z11 : X2.cell? ⟨wa.heap.size, 119, none⟩ = some (.bool false) := hL.1.cell 119
  have hBy := fun (w1 : World) (hg : Blk w1 X2.heap.size 34 #[.int .i64 1, .int .i64 4, .int .i64 1, S [130], .int .i64 0, .slice none 0 0, .int .i64 0, .int .i64 0, .int .i64 0, .int .i64 0, .int .i64 0, .bool false]) => byW_9 w1 hg
  have hbA := (Below.refl X2.heap.size X2).alloc (Nat.le_refl _) (.cells #[.int .i64 1, .int .i64 4, .int .i64 1, S [130], .int .i64 0, .slice none 0 0, .int .i64 0, .int .i64 0, .int .i64 0, .int .i64 0, .int .i64 0, .bool false] 34)
  go_upto_region 15 with first
   | (go_at_call 20;go_must ((with_reducible refine (hBy _ (Blk.new _ _ _)).mono ?_);rintro r w12 ⟨v12, rfl, hr12, hb12⟩;obtain ⟨hC, hL, hb, hz⟩ := on_all hC hL hb hz (hbA.trans (hb12.mono hbA.size));have hTk := TakeW_9 w12 hC v12 (own_by hr12)))
   | (go_at_call 19;go_must ((with_reducible refine hTk.mono ?_);rintro r w13 ⟨v13, j13, rfl, hn13, hG⟩;rw [newsW_9] at hn13;obtain rfl : j13 = 1 := (by have h1 := hn13.1;have e : (dropN 1 5).length = 10 := rfl;omega);obtain ⟨a13, c13, rfl⟩ := own_form hn13;obtain ⟨g13, rfl, hcell⟩ := row_cell hn13 (by decide);have k0 : w13.cell? ⟨g13, 0, none⟩ = some (.int .i64 4) := hcell 0 _ rfl;have k9 : w13.cell? ⟨g13, 9, none⟩ = some (.int .i64 5) := hcell 9 _ rfl;clear hcell;obtain ⟨F13, hC, hL, hb, hz⟩ := goes_all hC hL hb hz hB hl hG;have kc : w13.cell? ⟨wa.heap.size + 1, 9, none⟩ = some (.int .i64 5) := hL.2.cell 9))
  go_region
  go_upto_region 17 with fail
  refine wp_cut (R := fun X => (∃ F, Cw X n qz9 F) ∧ Lists X wa.heap.size ∧ Below w.heap.size w X ∧ n.B ≤ X.heap.size ∧ X.ownsRow n.B 84 10 (.slice (some ⟨g13, 0, none⟩) 1 c13) 1 (dropN 1 5)) ⟨⟨_, by first | exact hC | exact hC.drew⟩, by first | exact hL | exact hL.drew, by first | exact hb | exact hb.drew, hz, by first | exact hn13 | exact own_dr hn13⟩ ?_
  clear hC hL hb hz hn13 k0 k9 kc hTk hHd hBy hbA z0 z1 z2 z3 z4 z5 z6 z7 z8 z9 z10 z11
  rintro X3 ⟨⟨F3, hC⟩, hL, hb, hz, hn⟩
  go_upto_region 20 with first
   | (go_at_call 26;go_must ((with_reducible refine (Out_at _ hC hn).mono ?_);rintro r w14 ⟨v14, rfl, hr14, hn14, hG⟩;rw [bytesW_9] at hr14;have hAl := All_of [(frB 3 0 1 (beP 5 4), { ty := 3, st := 1, code := 5 })] (by intro x hx;obtain rfl : x = _ := List.mem_singleton.1 hx;exact ⟨rTk_Rst 1 5 (by decide) (by decide) (by decide), by decide⟩) v14 w14 (by rw [show flatF [(frB 3 0 1 (beP 5 4), { ty := 3, st := 1, code := 5 })] = frB 3 0 1 (beP 5 4) from List.append_nil _];exact own_by hr14) (by decide);obtain ⟨F14, hC, hL, hb, hz⟩ := goes_all hC hL hb hz hB hl hG))
   | (go_at_call 25;go_must ((with_reducible refine hAl.mono ?_);rintro r w15 ⟨vo, its, rfl, hits, hrow, hsv, hb15⟩;obtain ⟨vs, rfl⟩ := its_one hits;have hsv : w15.ownsRow w14.heap.size 31 2 vs 0 [] := hsv _ (List.mem_of_getElem? (i := 1 - 1) rfl);obtain ⟨sa, sc, rfl⟩ := own_form hsv;replace hrow : w15.ownsRow w14.heap.size 74 15 vo 1 _ := hrow;obtain ⟨ao, co, rfl⟩ := own_form hrow;obtain ⟨go, rfl, hcell⟩ := row_cell hrow (by decide);have m0 : w15.cell? ⟨go, 0, none⟩ = some (.int .i64 3) := hcell 0 _ rfl;have m1 : w15.cell? ⟨go, 1, none⟩ = some (.int .i64 0) := hcell 1 _ rfl;have m2 : w15.cell? ⟨go, 2, none⟩ = some (.int .i64 1) := hcell 2 _ rfl;have m3 : w15.cell? ⟨go, 3, none⟩ = some (S []) := hcell 3 _ rfl;have m4 : w15.cell? ⟨go, 4, none⟩ = some (.int .i64 0) := hcell 4 _ rfl;have m5 : w15.cell? ⟨go, 5, none⟩ = some (.slice sa 0 sc) := hcell 5 _ rfl;have m6 : w15.cell? ⟨go, 6, none⟩ = some (.int .i64 5) := hcell 6 _ rfl;have m7 : w15.cell? ⟨go, 7, none⟩ = some (.int .i64 0) := hcell 7 _ rfl;have m8 : w15.cell? ⟨go, 8, none⟩ = some (.int .i64 0) := hcell 8 _ rfl;have m9 : w15.cell? ⟨go, 9, none⟩ = some (.int .i64 0) := hcell 9 _ rfl;have m10 : w15.cell? ⟨go, 10, none⟩ = some (.int .i64 0) := hcell 10 _ rfl;have m11 : w15.cell? ⟨go, 11, none⟩ = some (.bool false) := hcell 11 _ rfl;clear hcell;have hn15 := own_below hn14 hb15;obtain ⟨hC, hL, hb, hz⟩ := on_all hC hL hb hz hb15))
  have hb16 := (Below.refl w15.heap.size w15).alloc (Nat.le_refl _) (.cells #[.int .i64 3, .int .i64 0, .int .i64 1, S [], .int .i64 0, .slice sa 0 sc, .int .i64 5, .int .i64 0, .int .i64 0, .int .i64 0, .int .i64 0, .bool false] 34)
  go_upto_region 21 with fail
  obtain ⟨bf, ebf⟩ : ∃ bf, bf = w15.heap.size := ⟨_, rfl⟩
  refine wp_cut (R := fun X => (∃ F, Cw X n ({ qz9 with bytes := [] } : Cq) F) ∧ Lists X wa.heap.size ∧ Below w.heap.size w X ∧ n.B ≤ X.heap.size ∧ X.ownsRow n.B 84 10 (.slice (some ⟨g13, 0, none⟩) 1 c13) 1 (dropN 1 5) ∧ Blk X w15.heap.size 34 #[.int .i64 3, .int .i64 0, .int .i64 1, S [], .int .i64 0, .slice sa 0 sc, .int .i64 5, .int .i64 0, .int .i64 0, .int .i64 0, .int .i64 0, .bool false]) ⟨⟨_, hC.on hb16⟩, hL.on hb16, hb.trans (hb16.mono hb.size), Nat.le_trans hz hb16.size, own_below hn15 hb16, Blk.new _ _ _⟩ ?_
  rw [← ebf]
  clear hC hL hb hz hn15 hb16 hits hrow hsv hn14 hr14 m0 m1 m2 m3 m4 m5 m6 m7 m8 m9 m10 m11 ebf hb15
  rintro X4 ⟨⟨F4, hC⟩, hL, hb, hz, hn, hF⟩
  go_upto_region 22 with fail
  obtain ⟨g', eg'⟩ : ∃ g', g' = g13 := ⟨_, rfl⟩
  rw [← eg'] at hn ⊢
  clear eg'
  replace hC := hC.drew
  replace hL := hL.drew
  replace hb := hb.drew
  replace hF := hF.drew
  replace hn : X4.drew.ownsRow n.B 84 10 (.slice (some ⟨g', 0, none⟩) 1 c13) 1 (dropN 1 5) := own_dr hn
  have k0 : X4.cell? ⟨g', 0, none⟩ = some (.int .i64 4) := news0 hn
  have kc : X4.cell? ⟨wa.heap.size + 1, 9, none⟩ = some (.int .i64 5) := hL.2.cell 9
  have f0 : X4.cell? ⟨bf, 0, none⟩ = some (.int .i64 3) := hF.cell 0
  have f2 : X4.cell? ⟨bf, 2, none⟩ = some (.int .i64 1) := hF.cell 2
  have f6 : X4.cell? ⟨bf, 6, none⟩ = some (.int .i64 5) := hF.cell 6
  have hOv : Calls Tryz.prog 32 #[Ptr n.c] X4.drew (fun e w' => e = .returned (.bool false) ∧ w' = X4.drew) := Over_any2 X4.drew hC
  have hSt : Calls Tryz.prog 29 #[Ptr n.c, .int .i64 1] X4.drew (fun e w' => e = .returned (.int .i64 5) ∧ w' = X4.drew) := State_how X4.drew hC 1 5 (by decide +kernel) (by decide +kernel) (by decide) (by decide +kernel) (by decide) (by decide +kernel)
  go_region_held3 (fun W => W.cell? ⟨g', 0, none⟩ = some (.int .i64 4) ∧ W.cell? ⟨wa.heap.size + 1, 9, none⟩ = some (.int .i64 5) ∧ W.cell? ⟨bf, 0, none⟩ = some (.int .i64 3) ∧ W.cell? ⟨bf, 2, none⟩ = some (.int .i64 1) ∧ W.cell? ⟨bf, 6, none⟩ = some (.int .i64 5))
   (first | go_keep)
   (first
    | (go_at_call 32;go_must ((with_reducible refine hOv.mono ?_);rintro r w18 ⟨rfl, e18⟩;subst e18))
    | (go_at_call 29;go_must ((with_reducible refine hSt.mono ?_);rintro r w19 ⟨rfl, e19⟩;subst e19)))
  all_goals (go_wp2;go_ret;exact ⟨rfl, hb⟩)
end Go.Proofs.YtkeeofhjdffhbaaGreatDoor
namespace Go.Proofs.YtkeeofhjdffhbaaGreatDoor
open Go Go.RowKit Go.Dr
theorem mod_ten (s : Int) (h0 : 0 ≤ s) (h1 : s < 256) (k : Int) (h : s % 10 = k) : (wrap64 s).tmod 10 = k := by
 have e : wrap64 s = s := by unfold wrap64;omega
 rw [e, Int.tmod_eq_emod_of_nonneg h0, h]
set_option maxRecDepth 100000 in
set_option maxHeartbeats 4000000 in
theorem wrong22_far {va : Option Addr} {vn vc : Nat} (s : Int) (w : World) (hvn : (65536 : Int) < (vn : Int)) : Calls Tryz.prog 5 #[.int .u8 s, .slice va vn vc] w fun e w' => e = .returned (.bool true) ∧ Below w.heap.size w w' := by
 go_enter Tryz.func5, Tryz.ntmps5
 go_wp2_with (go_at_call 16;go_must ((with_reducible refine (awake22_any _).mono ?_);rintro r w1 ⟨rfl, hb1⟩))
 go_ret
 exact ⟨rfl, hb1⟩
theorem wrong22_any {va : Option Addr} {vn vc : Nat} (s : Int) (h0 : 0 ≤ s) (h1 : s < 256) (w : World) : Calls Tryz.prog 5 #[.int .u8 s, .slice va vn vc] w fun e w' => e = .returned (.bool true) ∧ Below w.heap.size w w' := by
 by_cases hvn : (65536 : Int) < (vn : Int)
 ·exact wrong22_far s w hvn
 rcases (show s % 10 = 0 ∨ s % 10 = 1 ∨ s % 10 = 2 ∨ s % 10 = 3 ∨ s % 10 = 4 ∨ s % 10 = 5 ∨ s % 10 = 6 ∨ s % 10 = 7 ∨ s % 10 = 8 ∨ s % 10 = 9 by omega) with h | h | h | h | h | h | h | h | h | h
 ·exact wrong22_u s (Lib.hid (.inl (mod_ten s h0 h1 0 h))) w hvn
 ·exact wrong22_u s (Lib.hid (.inr (.inl (mod_ten s h0 h1 1 h)))) w hvn
 ·exact wrong22_u s (Lib.hid (.inr (.inr (.inl (mod_ten s h0 h1 2 h))))) w hvn
 ·exact wrong22_u s (Lib.hid (.inr (.inr (.inr ((mod_ten s h0 h1 3 h)))))) w hvn
 ·exact wrong22_v s (Lib.hid (.inl (mod_ten s h0 h1 4 h))) w hvn
 ·exact wrong22_v s (Lib.hid (.inr (.inl (mod_ten s h0 h1 5 h)))) w hvn
 ·exact wrong22_v s (Lib.hid (.inr (.inr (.inl (mod_ten s h0 h1 6 h))))) w hvn
 ·exact wrong22_v s (Lib.hid (.inr (.inr (.inr ((mod_ten s h0 h1 7 h)))))) w hvn
 ·exact wrong22_z s (Lib.hid (.inl (mod_ten s h0 h1 8 h))) w hvn
 ·exact wrong22_z s (Lib.hid (.inr ((mod_ten s h0 h1 9 h)))) w hvn
theorem wrong22_law (s : Int) (h0 : 0 ≤ s) (h1 : s ≤ 255) (v : Value) (l : Bytes) (w : World) (h : By w.heap.size w v l) : Calls Tryz.prog 5 #[.int .u8 s, v] w fun e w' => e = .returned (.bool true) ∧ Below w.heap.size w w' := by
 obtain ⟨a, c, rfl, -, -⟩ := h.form
 exact wrong22_any s h0 (by omega) w
end Go.Proofs.YtkeeofhjdffhbaaGreatDoor
namespace Go.Dr
open Go.RowKit Go.ChangeShapes Go.WideShapes Go.Deep Go.Joins
section
variable {H : Type} {enc : TypeId × Value → H} {P : Program} {w : World} {base : Nat} {spare : Nat → Bool} {held : Bool}
theorem flat_B8 (l : Bytes) : l.flatMap (fun n => [B8 n]) = l.map B8 := by
 induction l with
 | nil => rfl
 | cons a l ih => rw [List.flatMap_cons, ih];rfl
theorem open_Us {r : Reach} {b0 : Nat} {t e : TypeId} {v : Value} {d : DataW H} {ps : List MemPlace} (ht : P.underlying t = some (.slice e)) (he : P.underlying e = some (.int .u8)) (hC : P.cellsOf e = 1)
  (hval : Value.okWide P w r b0 t v) (hd : DataW.Trod enc P w base spare held t v d ps) (hw : (d.weights P t).all (· ≤ reachBytes) = true) :
  ∃ l : Bytes, Rd w.heap.size w 1 v l.length (l.map B8) := by
 obtain ⟨a, len, cap, rfl⟩ := okWide_slice ht hval
 obtain ⟨fuel, hf⟩ := hd
 obtain ⟨v, l, hv, h1, -, -⟩ := open_seq (α := UInt8) (hs0 := by decide) 1 (fun n => [B8 n]) (fun _ => True) hC (fun _ => rfl) (fun m cs' y hy _ => by
  obtain ⟨n, rfl, -, hwf⟩ := DataW.trod_int he hy
  have := wf_u8 hwf
  refine ⟨UInt8.ofNat n.toNat, ?_, trivial⟩
  show _ = [Value.int .u8 (((UInt8.ofNat n.toNat).toNat : Nat) : Int)]
  rw [show (UInt8.ofNat n.toNat).toNat = n.toNat by simp;omega, Int.toNat_of_nonneg this.1]) ht hf hw
 simp only [Value.cells, List.cons.injEq, and_true] at hv
 subst hv
 rw [flat_B8] at h1
 exact ⟨l, h1⟩
end
end Go.Dr
namespace Go.Proofs.YtkeeofhjdffhbaaGreatDoor
open Go Go.RowKit Go.Dr
theorem wr_root : True := by
 have h1 := @wrong22_law
 have h4 := @open_Us
 have h6 := @law_post
 have h7 := @wf_u8
 trivial
end Go.Proofs.YtkeeofhjdffhbaaGreatDoor
