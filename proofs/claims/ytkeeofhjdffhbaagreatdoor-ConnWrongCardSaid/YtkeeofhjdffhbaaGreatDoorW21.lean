/- Parts of the proof of wr_root: the texts Cnb5 Put3. -/
import Derived.Test.YtkeeofhjdffhbaaGreatDoorW20
set_option linter.unusedSimpArgs false
set_option linter.unusedVariables false
set_option linter.unnecessarySimpa false
namespace Go.Proofs.YtkeeofhjdffhbaaGreatDoor
open Go Go.RowKit Go.Dr
variable {w w' : World} {n : Nm} {m : Mm} {q q' : Cq}
set_option maxRecDepth 100000 in
set_option maxHeartbeats 8000000 in
theorem Answering_2 (w : World) (hx : Cx w n m q) (i : Int) (hi : I64 i) {s : Sp} (hm : (i, s) ∈ q.live) (hst : s.st = 2) : Calls Tryz.prog 59 #[Ptr n.c, .int .i64 i] w fun r w' => r = .returned (.tuple #[Ptr (m.sb i), .bool true]) ∧ Below w.heap.size w w' := by
 have y9 : w.cell? ⟨n.c, 9, none⟩ = some (.map (some n.lm)) := hx.blk.cell 9
 have hk := (hx.live.inn hi (List.mem_map.2 ⟨_, hm, rfl⟩)).1
 have y6 : w.cell? ⟨m.sb i, 6, none⟩ = some (.int .i64 2) := by rw [← hst];exact (hx.side _ hm).cell 6
 go_enter Tryz.func59, Tryz.ntmps59
 go_wp2
 go_region
 all_goals go_wp2
 all_goals go_ret2
 all_goals exact ⟨rfl, (Below.refl _ _).drew⟩
set_option maxRecDepth 100000 in
set_option maxHeartbeats 8000000 in
theorem Head_ok {F : Nat → Prop} (w : World) (h : Cw w n q F) (i : Nat) (hi : i < 2147483648) {a c : List (Int × Sp)} {s : Sp} (hq : q.live = a ++ ((i : Int), s) :: c) (hst : s.st = 2) (hhd : s.headed = false) (htl : q.told = 4096) (hle : q.least = 4096) (hfr : q.frames = 16384) (hbl : q.bytes.length ≤ 1000000) :
  Calls Tryz.prog 22 #[Ptr n.c, .int .i64 (i : Int), .int .i64 200, .slice none 0 0, .bool true] w fun r w' => r = .returned (.int .i64 0) ∧ Goes w n F w' { q with bytes := q.bytes ++ frB 1 5 i [136], live := a ++ c, off := sans q.off i, over := q.over || (q.drained && (a ++ c).isEmpty) } := by
 have g0 := GoesF.refl h
 obtain ⟨m, hx, rfl⟩ := h
 have hi64 : I64 (i : Int) := by constructor <;> omega
 have y9 : w.cell? ⟨n.c, 9, none⟩ = some (.map (some n.lm)) := hx.blk.cell 9
 have hm : ((i : Int), s) ∈ q.live := by rw [hq];simp
 have hk := (hx.live.inn hi64 (List.mem_map.2 ⟨_, hm, rfl⟩)).1
 have hS := hx.side _ hm
 have y6 : w.cell? ⟨m.sb i, 6, none⟩ = some (.int .i64 2) := by rw [← hst];exact hS.cell 6
 have y3 : w.cell? ⟨m.sb i, 3, none⟩ = some (.bool false) := by rw [← hhd];exact hS.cell 3
 have hAn := Answering_2 w hx i hi64 hm hst
 go_enter Tryz.func22, Tryz.ntmps22
 go_upto_region 10 with first
  | (go_at_call 59;go_must ((with_reducible refine hAn.mono ?_);rintro r w1 ⟨rfl, hb1⟩;have hx1 := hx.on hb1;have z3 : w1.cell? ⟨m.sb i, 3, none⟩ = some (.bool false) := (by rw [← hhd];exact (hx1.side _ hm).cell 3)))
  | (go_at_call 60;go_must ((with_reducible refine (Answer_200 _).mono ?_);rintro r w2 ⟨B, v, rfl, hB2, hrow, hb2⟩;have hx2 := hx1.on hb2;have x3 : w2.cell? ⟨m.sb i, 3, none⟩ = some (.bool false) := (by rw [← hhd];exact (hx2.side _ hm).cell 3);have v3 := (hx2.side _ hm).free 3))
 have hS2 := hx2.side _ hm
 obtain ⟨hx3, k3⟩ := hx2.goesS hq { s with headed := true } ((But.refl (fun g => g = m.sb i) _).setCell (p := ⟨m.sb i, 3, none⟩) (.inl rfl) (.bool true)) (hS2.set 3 _) rfl
 have hb02 := hb1.trans (hb2.mono hb1.size)
 have g3 := (g0.on hb02).comp k3
 have hsl : m.sb i < w1.heap.size := (hx1.side _ hm).lt
 have hel : n.e < w1.heap.size := hx1.enc.lt
 have hrow3 := own_same (w' := w2.setCell ⟨m.sb i, 3, none⟩ (.bool true)) hrow (fun g hg => Below.heap_setCell _ _ _ _ (fun e => by have := (hrow.lt g hg.symm).1;simp only [] at e;omega))
 obtain ⟨q3, eq3⟩ : ∃ q3 : Cq, q3 = { q with live := a ++ ((i : Int), { s with headed := true }) :: c } := ⟨_, rfl⟩
 rw [← eq3] at hx3 g3
 refine wp_cut (R := fun W => Cx W n m q3 ∧ GoesF w n (Foot n m q) W q3 (Foot n m q3) ∧ W.ownsRow B 41 3 v 1 (fcells [fStat])) ⟨hx3, g3, hrow3⟩ ?_
 have heB : n.e < B := by omega
 clear hx3 g3 hrow3 k3 hx2 x3 v3 hS2 hb02 hsl hel hrow hB2 hb2 hb1 hx1 z3
 rintro W ⟨hx3, g3, hrow3⟩
 have y6 : W.cell? ⟨n.c, 6, none⟩ = some (Ptr n.e) := hx3.blk.cell 6
 have henc := hx3.enc
 rw [show q3.told = 4096 by rw [eq3];exact htl, show q3.least = 4096 by rw [eq3];exact hle] at henc
 have hte : n.t2 ≠ n.e := fun e1 => by
  obtain ⟨-, -, -, -, k1, k2, -⟩ := hx3.kinds
  rw [e1] at k2
  omega
 have hEn := Encode_stat W henc (hx3.t2.cell 0) hte hrow3 heB
 go_upto_region 14 with (go_at_call 61;go_must ((with_reducible refine hEn.mono ?_);rintro r w4 ⟨x, rfl, hx4r, hE4, hb4⟩))
 obtain ⟨xa, xc, rfl⟩ := own_form hx4r
 have hz4 := hb4.size
 have hx4 : Cx w4 n m { q3 with told := 4096, least := 4096 } := hx3.upE hb4 (fun g hg => by rw [hg];exact kd_blk hx3.enc) 4096 4096 hE4
 rw [show ({ q3 with told := 4096, least := 4096 } : Cq) = q3 by rw [eq3];simp only [Cq.mk.injEq, true_and];exact ⟨htl.symm, hle.symm⟩] at hx4
 have g4 : GoesF w n (Foot n m q) w4 q3 (Foot n m q3) := g3.comp ⟨⟨m, hx4, rfl⟩, hb4.more (fun g hg => by rw [hg];exact Foot.e), fun g hg => .inl hg⟩
 have hbA : Below w4.heap.size w4 (w4.alloc (.cells #[.int .i64 1, .int .i64 1, .int .i64 (i : Int), S [], .int .i64 0, .slice none 0 0, .int .i64 0, .int .i64 0, .int .i64 0, .int .i64 0, .int .i64 0, .bool false] 34)) := (Below.refl _ _).alloc (Nat.le_refl _) _
 refine wp_cut (R := fun W => Blk W w4.heap.size 34 #[.int .i64 1, .int .i64 1, .int .i64 (i : Int), S [], .int .i64 0, .slice none 0 0, .int .i64 0, .int .i64 0, .int .i64 0, .int .i64 0, .int .i64 0, .bool false] ∧ Cx W n m q3 ∧ GoesF w n (Foot n m q) W q3 (Foot n m q3) ∧ By W.heap.size W (.slice xa 1 xc) [136]) ⟨Blk.new _ _ _, hx4.on hbA, g4.on hbA, own_by (own_below hx4r hbA)⟩ ?_
 have hfl4 : ∀ g, Foot n m q3 g → g < w4.heap.size := fun g hg => hx4.foot_lt hg
 have hz04 := g4.b.size
 clear hx4 g4 hbA hx4r hz4 hb4 hE4 hEn henc hte y6 hx3 g3 hrow3 heB W
 rintro W ⟨hF, hx5, g5, hx5r⟩
 have hby := hx5r.text (P := Tryz.prog) 26 9 5 Tryz.underlying26 Tryz.underlying5 Tryz.underlying9
 have y8 : W.cell? ⟨n.c, 8, none⟩ = some (.int .i64 16384) := by rw [show (Value.int .i64 16384) = .int .i64 q3.frames by rw [eq3];show _ = Value.int .i64 q.frames;rw [hfr]];exact hx5.blk.cell 8
 have u1 : W.cell? ⟨w4.heap.size, 1, none⟩ = some (.int .i64 1) := hF.cell 1
 have u3 : W.cell? ⟨w4.heap.size, 3, none⟩ = some (S []) := hF.cell 3
 have s1 := hF.free 1
 have s3 := hF.free 3
 have b14 : bits .or .i64 1 4 = 5 := by decide
 refine wp_loop_rounds 1 ?_
 rw [rounds_succ]
 go_upto_region 21 with fail
 have hF6 := (hF.set 3 (S [136])).set 1 (.int .i64 5)
 have hx6 : Cx ((W.setCell ⟨w4.heap.size, 3, none⟩ (S [136])).setCell ⟨w4.heap.size, 1, none⟩ (.int .i64 5)) n m q3 := hx5.keep (fun g hg => by
  have := hfl4 g hg
  rw [Below.heap_setCell _ _ _ _ (fun e => by simp only [] at e;omega), Below.heap_setCell _ _ _ _ (fun e => by simp only [] at e;omega)])
 have g6 : GoesF w n (Foot n m q) ((W.setCell ⟨w4.heap.size, 3, none⟩ (S [136])).setCell ⟨w4.heap.size, 1, none⟩ (.int .i64 5)) q3 (Foot n m q3) := ⟨⟨m, hx6, rfl⟩, (g5.b.setCell (p := ⟨w4.heap.size, 3, none⟩) (.inr hz04) _).setCell (p := ⟨w4.heap.size, 1, none⟩) (.inr hz04) _, g5.s⟩
 refine wp_cut (R := fun W => Blk W w4.heap.size 34 #[.int .i64 1, .int .i64 5, .int .i64 (i : Int), S [136], .int .i64 0, .slice none 0 0, .int .i64 0, .int .i64 0, .int .i64 0, .int .i64 0, .int .i64 0, .bool false] ∧ GoesF w n (Foot n m q) W q3 (Foot n m q3)) ⟨hF6, g6⟩ ?_
 clear hF6 hx6 g6 hF hx5 g5 hx5r hby y8 u1 u3 s1 s3 W
 rintro W ⟨hF, g6⟩
 (have u0 : W.cell? ⟨w4.heap.size, 0, none⟩ = some (.int .i64 1) := hF.cell 0;have u1 : W.cell? ⟨w4.heap.size, 1, none⟩ = some (.int .i64 5) := hF.cell 1;have u2 : W.cell? ⟨w4.heap.size, 2, none⟩ = some (.int .i64 (i : Int)) := hF.cell 2;have u3 : W.cell? ⟨w4.heap.size, 3, none⟩ = some (S [136]) := hF.cell 3;have u4 : W.cell? ⟨w4.heap.size, 4, none⟩ = some (.int .i64 0) := hF.cell 4;have u5 : W.cell? ⟨w4.heap.size, 5, none⟩ = some (.slice none 0 0) := hF.cell 5;have u6 : W.cell? ⟨w4.heap.size, 6, none⟩ = some (.int .i64 0) := hF.cell 6;have u7 : W.cell? ⟨w4.heap.size, 7, none⟩ = some (.int .i64 0) := hF.cell 7;have u8 : W.cell? ⟨w4.heap.size, 8, none⟩ = some (.int .i64 0) := hF.cell 8;have u9 : W.cell? ⟨w4.heap.size, 9, none⟩ = some (.int .i64 0) := hF.cell 9;have u10 : W.cell? ⟨w4.heap.size, 10, none⟩ = some (.int .i64 0) := hF.cell 10;have u11 : W.cell? ⟨w4.heap.size, 11, none⟩ = some (.bool false) := hF.cell 11)
 have hWr := Write_any (c0 := .int .i64 1) (c1 := .int .i64 5) (c2 := .int .i64 (i : Int)) (c3 := S [136]) (c4 := .int .i64 0) (c5 := .slice none 0 0) (c6 := .int .i64 0) (c7 := .int .i64 0) (c8 := .int .i64 0) (c9 := .int .i64 0) (c10 := .int .i64 0) (c11 := .bool false) W g6.h (frB 1 5 i [136]) (fun w1 _ => pPut_Hdr 5 i [136] (by decide) (by decide) (by decide) hi (by decide) w1) (by rw [frB_length, eq3];simp;omega)
 have hsm : ((i : Int), ({ s with headed := true } : Sp)) ∈ q3.live := by rw [eq3];simp
 go_wp2_with first
  | (go_at_call 57;go_must ((with_reducible refine hWr.mono ?_);rintro r w7 ⟨rfl, hg7⟩;obtain ⟨F7, g7⟩ := g6.step hg7;have hWt := Went_done w7 g7.h i 1 (.inr rfl) hi64 hsm hst))
  | (go_at_call 62;go_must ((with_reducible refine hWt.mono ?_);rintro r w8 ⟨rfl, hg8⟩;obtain ⟨F8, g8⟩ := g7.step hg8))
 go_ret
 refine ⟨rfl, ?_⟩
 have hnd := hx.ids
 rw [hq] at hnd
 have hnd3 : ((a ++ ((i : Int), ({ s with headed := true } : Sp)) :: c).map (·.1)).Nodup := by simpa using hnd
 have esn : sans q3.live i = a ++ c := by rw [eq3];exact sans_mid hnd3
 have g9 := g8.goes
 rw [show ({ q3 with bytes := q3.bytes ++ frB 1 5 i [136] } : Cq).live = q3.live from rfl, esn] at g9
 rw [eq3] at g9
 exact g9
end Go.Proofs.YtkeeofhjdffhbaaGreatDoor
namespace Go.Proofs.YtkeeofhjdffhbaaGreatDoor
open Go.RowKit Go.Dr
set_option maxRecDepth 100000 in
set_option maxHeartbeats 4000000 in
theorem ranges_Set0 (w : World) : Calls Tryz.prog 73 #[.agg #[.int .i64 4, .int .i64 0, .int .i64 0, S [], .int .i64 0, .slice none 0 0, .int .i64 0, .int .i64 0, .int .i64 0, .int .i64 0, .int .i64 0, .bool false]] w fun e w' => e = .returned (.bool true) ∧ Below w.heap.size w w' := by
 have hF : Blk (w.alloc (.cells #[.int .i64 4, .int .i64 0, .int .i64 0, S [], .int .i64 0, .slice none 0 0, .int .i64 0, .int .i64 0, .int .i64 0, .int .i64 0, .int .i64 0, .bool false] 34)) w.heap.size 34 #[.int .i64 4, .int .i64 0, .int .i64 0, S [], .int .i64 0, .slice none 0 0, .int .i64 0, .int .i64 0, .int .i64 0, .int .i64 0, .int .i64 0, .bool false] := Blk.new _ _ _
 (have g0 : (w.alloc (.cells #[.int .i64 4, .int .i64 0, .int .i64 0, S [], .int .i64 0, .slice none 0 0, .int .i64 0, .int .i64 0, .int .i64 0, .int .i64 0, .int .i64 0, .bool false] 34)).cell? ⟨w.heap.size, 0, none⟩ = some (.int .i64 4) := hF.cell 0;have g1 : (w.alloc (.cells #[.int .i64 4, .int .i64 0, .int .i64 0, S [], .int .i64 0, .slice none 0 0, .int .i64 0, .int .i64 0, .int .i64 0, .int .i64 0, .int .i64 0, .bool false] 34)).cell? ⟨w.heap.size, 1, none⟩ = some (.int .i64 0) := hF.cell 1;have g2 : (w.alloc (.cells #[.int .i64 4, .int .i64 0, .int .i64 0, S [], .int .i64 0, .slice none 0 0, .int .i64 0, .int .i64 0, .int .i64 0, .int .i64 0, .int .i64 0, .bool false] 34)).cell? ⟨w.heap.size, 2, none⟩ = some (.int .i64 0) := hF.cell 2;have g3 : (w.alloc (.cells #[.int .i64 4, .int .i64 0, .int .i64 0, S [], .int .i64 0, .slice none 0 0, .int .i64 0, .int .i64 0, .int .i64 0, .int .i64 0, .int .i64 0, .bool false] 34)).cell? ⟨w.heap.size, 3, none⟩ = some (S []) := hF.cell 3;have g4 : (w.alloc (.cells #[.int .i64 4, .int .i64 0, .int .i64 0, S [], .int .i64 0, .slice none 0 0, .int .i64 0, .int .i64 0, .int .i64 0, .int .i64 0, .int .i64 0, .bool false] 34)).cell? ⟨w.heap.size, 4, none⟩ = some (.int .i64 0) := hF.cell 4;have g5 : (w.alloc (.cells #[.int .i64 4, .int .i64 0, .int .i64 0, S [], .int .i64 0, .slice none 0 0, .int .i64 0, .int .i64 0, .int .i64 0, .int .i64 0, .int .i64 0, .bool false] 34)).cell? ⟨w.heap.size, 5, none⟩ = some (.slice none 0 0) := hF.cell 5;have g6 : (w.alloc (.cells #[.int .i64 4, .int .i64 0, .int .i64 0, S [], .int .i64 0, .slice none 0 0, .int .i64 0, .int .i64 0, .int .i64 0, .int .i64 0, .int .i64 0, .bool false] 34)).cell? ⟨w.heap.size, 6, none⟩ = some (.int .i64 0) := hF.cell 6;have g7 : (w.alloc (.cells #[.int .i64 4, .int .i64 0, .int .i64 0, S [], .int .i64 0, .slice none 0 0, .int .i64 0, .int .i64 0, .int .i64 0, .int .i64 0, .int .i64 0, .bool false] 34)).cell? ⟨w.heap.size, 7, none⟩ = some (.int .i64 0) := hF.cell 7;have g8 : (w.alloc (.cells #[.int .i64 4, .int .i64 0, .int .i64 0, S [], .int .i64 0, .slice none 0 0, .int .i64 0, .int .i64 0, .int .i64 0, .int .i64 0, .int .i64 0, .bool false] 34)).cell? ⟨w.heap.size, 8, none⟩ = some (.int .i64 0) := hF.cell 8;have g9 : (w.alloc (.cells #[.int .i64 4, .int .i64 0, .int .i64 0, S [], .int .i64 0, .slice none 0 0, .int .i64 0, .int .i64 0, .int .i64 0, .int .i64 0, .int .i64 0, .bool false] 34)).cell? ⟨w.heap.size, 9, none⟩ = some (.int .i64 0) := hF.cell 9;have g10 : (w.alloc (.cells #[.int .i64 4, .int .i64 0, .int .i64 0, S [], .int .i64 0, .slice none 0 0, .int .i64 0, .int .i64 0, .int .i64 0, .int .i64 0, .int .i64 0, .bool false] 34)).cell? ⟨w.heap.size, 10, none⟩ = some (.int .i64 0) := hF.cell 10;have g11 : (w.alloc (.cells #[.int .i64 4, .int .i64 0, .int .i64 0, S [], .int .i64 0, .slice none 0 0, .int .i64 0, .int .i64 0, .int .i64 0, .int .i64 0, .int .i64 0, .bool false] 34)).cell? ⟨w.heap.size, 11, none⟩ = some (.bool false) := hF.cell 11)
 go_enter Tryz.func73, Tryz.ntmps73
 go_wp2
 go_loopw [3] (fun x wr => x = .int .i64 0 ∧ wr = w.alloc (.cells #[.int .i64 4, .int .i64 0, .int .i64 0, S [], .int .i64 0, .slice none 0 0, .int .i64 0, .int .i64 0, .int .i64 0, .int .i64 0, .int .i64 0, .bool false] 34)) (fun _ _ => 0)
 case atStart => exact ⟨rfl, rfl⟩
 case round =>
  obtain ⟨rfl, rfl⟩ := hrel
  go_wp2
  go_ret
  exact ⟨rfl, (Below.refl _ _).alloc (Nat.le_refl _) _⟩
set_option maxRecDepth 100000 in
theorem has_Set0_0 (w : World) : Calls Tryz.prog 74 #[.int .i64 4, .int .i64 0, .int .i64 0, .int .i64 8] w fun e w' => e = .returned (.bool false) ∧ w' = w := by
 go_enter Tryz.func74, Tryz.ntmps74
 go_wp2
 go_ret
 exact ⟨rfl, rfl⟩
set_option maxRecDepth 100000 in
theorem has_Set0_1 (w : World) : Calls Tryz.prog 74 #[.int .i64 4, .int .i64 0, .int .i64 1, .int .i64 8] w fun e w' => e = .returned (.bool false) ∧ w' = w := by
 go_enter Tryz.func74, Tryz.ntmps74
 go_wp2
 go_ret
 exact ⟨rfl, rfl⟩
set_option maxRecDepth 100000 in
theorem has_Set0_2 (w : World) : Calls Tryz.prog 74 #[.int .i64 4, .int .i64 0, .int .i64 1, .int .i64 32] w fun e w' => e = .returned (.bool false) ∧ w' = w := by
 go_enter Tryz.func74, Tryz.ntmps74
 go_wp2
 go_ret
 exact ⟨rfl, rfl⟩
set_option maxRecDepth 100000 in
set_option maxHeartbeats 4000000 in
theorem may_Set0 (w : World) : Calls Tryz.prog 36 #[.agg #[.int .i64 4, .int .i64 0, .int .i64 0, S [], .int .i64 0, .slice none 0 0, .int .i64 0, .int .i64 0, .int .i64 0, .int .i64 0, .int .i64 0, .bool false]] w fun e w' => e = .returned (.bool true) ∧ Below w.heap.size w w' := by
 have hF : Blk (w.alloc (.cells #[.int .i64 4, .int .i64 0, .int .i64 0, S [], .int .i64 0, .slice none 0 0, .int .i64 0, .int .i64 0, .int .i64 0, .int .i64 0, .int .i64 0, .bool false] 34)) w.heap.size 34 #[.int .i64 4, .int .i64 0, .int .i64 0, S [], .int .i64 0, .slice none 0 0, .int .i64 0, .int .i64 0, .int .i64 0, .int .i64 0, .int .i64 0, .bool false] := Blk.new _ _ _
 (have g0 : (w.alloc (.cells #[.int .i64 4, .int .i64 0, .int .i64 0, S [], .int .i64 0, .slice none 0 0, .int .i64 0, .int .i64 0, .int .i64 0, .int .i64 0, .int .i64 0, .bool false] 34)).cell? ⟨w.heap.size, 0, none⟩ = some (.int .i64 4) := hF.cell 0;have g1 : (w.alloc (.cells #[.int .i64 4, .int .i64 0, .int .i64 0, S [], .int .i64 0, .slice none 0 0, .int .i64 0, .int .i64 0, .int .i64 0, .int .i64 0, .int .i64 0, .bool false] 34)).cell? ⟨w.heap.size, 1, none⟩ = some (.int .i64 0) := hF.cell 1;have g2 : (w.alloc (.cells #[.int .i64 4, .int .i64 0, .int .i64 0, S [], .int .i64 0, .slice none 0 0, .int .i64 0, .int .i64 0, .int .i64 0, .int .i64 0, .int .i64 0, .bool false] 34)).cell? ⟨w.heap.size, 2, none⟩ = some (.int .i64 0) := hF.cell 2;have g3 : (w.alloc (.cells #[.int .i64 4, .int .i64 0, .int .i64 0, S [], .int .i64 0, .slice none 0 0, .int .i64 0, .int .i64 0, .int .i64 0, .int .i64 0, .int .i64 0, .bool false] 34)).cell? ⟨w.heap.size, 3, none⟩ = some (S []) := hF.cell 3;have g4 : (w.alloc (.cells #[.int .i64 4, .int .i64 0, .int .i64 0, S [], .int .i64 0, .slice none 0 0, .int .i64 0, .int .i64 0, .int .i64 0, .int .i64 0, .int .i64 0, .bool false] 34)).cell? ⟨w.heap.size, 4, none⟩ = some (.int .i64 0) := hF.cell 4;have g5 : (w.alloc (.cells #[.int .i64 4, .int .i64 0, .int .i64 0, S [], .int .i64 0, .slice none 0 0, .int .i64 0, .int .i64 0, .int .i64 0, .int .i64 0, .int .i64 0, .bool false] 34)).cell? ⟨w.heap.size, 5, none⟩ = some (.slice none 0 0) := hF.cell 5;have g6 : (w.alloc (.cells #[.int .i64 4, .int .i64 0, .int .i64 0, S [], .int .i64 0, .slice none 0 0, .int .i64 0, .int .i64 0, .int .i64 0, .int .i64 0, .int .i64 0, .bool false] 34)).cell? ⟨w.heap.size, 6, none⟩ = some (.int .i64 0) := hF.cell 6;have g7 : (w.alloc (.cells #[.int .i64 4, .int .i64 0, .int .i64 0, S [], .int .i64 0, .slice none 0 0, .int .i64 0, .int .i64 0, .int .i64 0, .int .i64 0, .int .i64 0, .bool false] 34)).cell? ⟨w.heap.size, 7, none⟩ = some (.int .i64 0) := hF.cell 7;have g8 : (w.alloc (.cells #[.int .i64 4, .int .i64 0, .int .i64 0, S [], .int .i64 0, .slice none 0 0, .int .i64 0, .int .i64 0, .int .i64 0, .int .i64 0, .int .i64 0, .bool false] 34)).cell? ⟨w.heap.size, 8, none⟩ = some (.int .i64 0) := hF.cell 8;have g9 : (w.alloc (.cells #[.int .i64 4, .int .i64 0, .int .i64 0, S [], .int .i64 0, .slice none 0 0, .int .i64 0, .int .i64 0, .int .i64 0, .int .i64 0, .int .i64 0, .bool false] 34)).cell? ⟨w.heap.size, 9, none⟩ = some (.int .i64 0) := hF.cell 9;have g10 : (w.alloc (.cells #[.int .i64 4, .int .i64 0, .int .i64 0, S [], .int .i64 0, .slice none 0 0, .int .i64 0, .int .i64 0, .int .i64 0, .int .i64 0, .int .i64 0, .bool false] 34)).cell? ⟨w.heap.size, 10, none⟩ = some (.int .i64 0) := hF.cell 10;have g11 : (w.alloc (.cells #[.int .i64 4, .int .i64 0, .int .i64 0, S [], .int .i64 0, .slice none 0 0, .int .i64 0, .int .i64 0, .int .i64 0, .int .i64 0, .int .i64 0, .bool false] 34)).cell? ⟨w.heap.size, 11, none⟩ = some (.bool false) := hF.cell 11)
 go_enter Tryz.func36, Tryz.ntmps36
 go_wp2_with first
  | (go_at_call 73;refine (ranges_Set0 _).mono ?_;rintro e w1 ⟨rfl, hb1⟩;have hF1 := hF.on hb1;have hbx := ((Below.refl w.heap.size w).alloc (Nat.le_refl _) (.cells #[.int .i64 4, .int .i64 0, .int .i64 0, S [], .int .i64 0, .slice none 0 0, .int .i64 0, .int .i64 0, .int .i64 0, .int .i64 0, .int .i64 0, .bool false] 34)).trans (hb1.mono (by simp));clear hb1;(have q0 : w1.cell? ⟨w.heap.size, 0, none⟩ = some (.int .i64 4) := hF1.cell 0;have q1 : w1.cell? ⟨w.heap.size, 1, none⟩ = some (.int .i64 0) := hF1.cell 1;have q2 : w1.cell? ⟨w.heap.size, 2, none⟩ = some (.int .i64 0) := hF1.cell 2;have q3 : w1.cell? ⟨w.heap.size, 3, none⟩ = some (S []) := hF1.cell 3;have q4 : w1.cell? ⟨w.heap.size, 4, none⟩ = some (.int .i64 0) := hF1.cell 4;have q5 : w1.cell? ⟨w.heap.size, 5, none⟩ = some (.slice none 0 0) := hF1.cell 5;have q6 : w1.cell? ⟨w.heap.size, 6, none⟩ = some (.int .i64 0) := hF1.cell 6;have q7 : w1.cell? ⟨w.heap.size, 7, none⟩ = some (.int .i64 0) := hF1.cell 7;have q8 : w1.cell? ⟨w.heap.size, 8, none⟩ = some (.int .i64 0) := hF1.cell 8;have q9 : w1.cell? ⟨w.heap.size, 9, none⟩ = some (.int .i64 0) := hF1.cell 9;have q10 : w1.cell? ⟨w.heap.size, 10, none⟩ = some (.int .i64 0) := hF1.cell 10;have q11 : w1.cell? ⟨w.heap.size, 11, none⟩ = some (.bool false) := hF1.cell 11))
  | (go_at_call 74;(first | (with_reducible refine (has_Set0_0 _).mono ?_) | (with_reducible refine (has_Set0_1 _).mono ?_) | (with_reducible refine (has_Set0_2 _).mono ?_));rintro e w2 ⟨rfl, rfl⟩)
 go_ret
 exact ⟨rfl, hbx⟩
set_option maxRecDepth 100000 in
set_option maxHeartbeats 4000000 in
theorem pay_Set0 (w : World) : Calls Tryz.prog 37 #[.agg #[.int .i64 4, .int .i64 0, .int .i64 0, S [], .int .i64 0, .slice none 0 0, .int .i64 0, .int .i64 0, .int .i64 0, .int .i64 0, .int .i64 0, .bool false]] w fun e w' => ∃ v, e = .returned v ∧ w'.ownsRow w.heap.size 5 1 v (0 + 0) ((([] : Bytes)).map B8) ∧ Below w.heap.size w w' := by
 have hF : Blk (w.alloc (.cells #[.int .i64 4, .int .i64 0, .int .i64 0, S [], .int .i64 0, .slice none 0 0, .int .i64 0, .int .i64 0, .int .i64 0, .int .i64 0, .int .i64 0, .bool false] 34)) w.heap.size 34 #[.int .i64 4, .int .i64 0, .int .i64 0, S [], .int .i64 0, .slice none 0 0, .int .i64 0, .int .i64 0, .int .i64 0, .int .i64 0, .int .i64 0, .bool false] := Blk.new _ _ _
 have hbx : Below w.heap.size w (w.alloc (.cells #[.int .i64 4, .int .i64 0, .int .i64 0, S [], .int .i64 0, .slice none 0 0, .int .i64 0, .int .i64 0, .int .i64 0, .int .i64 0, .int .i64 0, .bool false] 34)) := (Below.refl w.heap.size w).alloc (Nat.le_refl _) _
 (have g0 : (w.alloc (.cells #[.int .i64 4, .int .i64 0, .int .i64 0, S [], .int .i64 0, .slice none 0 0, .int .i64 0, .int .i64 0, .int .i64 0, .int .i64 0, .int .i64 0, .bool false] 34)).cell? ⟨w.heap.size, 0, none⟩ = some (.int .i64 4) := hF.cell 0;have g1 : (w.alloc (.cells #[.int .i64 4, .int .i64 0, .int .i64 0, S [], .int .i64 0, .slice none 0 0, .int .i64 0, .int .i64 0, .int .i64 0, .int .i64 0, .int .i64 0, .bool false] 34)).cell? ⟨w.heap.size, 1, none⟩ = some (.int .i64 0) := hF.cell 1;have g2 : (w.alloc (.cells #[.int .i64 4, .int .i64 0, .int .i64 0, S [], .int .i64 0, .slice none 0 0, .int .i64 0, .int .i64 0, .int .i64 0, .int .i64 0, .int .i64 0, .bool false] 34)).cell? ⟨w.heap.size, 2, none⟩ = some (.int .i64 0) := hF.cell 2;have g3 : (w.alloc (.cells #[.int .i64 4, .int .i64 0, .int .i64 0, S [], .int .i64 0, .slice none 0 0, .int .i64 0, .int .i64 0, .int .i64 0, .int .i64 0, .int .i64 0, .bool false] 34)).cell? ⟨w.heap.size, 3, none⟩ = some (S []) := hF.cell 3;have g4 : (w.alloc (.cells #[.int .i64 4, .int .i64 0, .int .i64 0, S [], .int .i64 0, .slice none 0 0, .int .i64 0, .int .i64 0, .int .i64 0, .int .i64 0, .int .i64 0, .bool false] 34)).cell? ⟨w.heap.size, 4, none⟩ = some (.int .i64 0) := hF.cell 4;have g5 : (w.alloc (.cells #[.int .i64 4, .int .i64 0, .int .i64 0, S [], .int .i64 0, .slice none 0 0, .int .i64 0, .int .i64 0, .int .i64 0, .int .i64 0, .int .i64 0, .bool false] 34)).cell? ⟨w.heap.size, 5, none⟩ = some (.slice none 0 0) := hF.cell 5;have g6 : (w.alloc (.cells #[.int .i64 4, .int .i64 0, .int .i64 0, S [], .int .i64 0, .slice none 0 0, .int .i64 0, .int .i64 0, .int .i64 0, .int .i64 0, .int .i64 0, .bool false] 34)).cell? ⟨w.heap.size, 6, none⟩ = some (.int .i64 0) := hF.cell 6;have g7 : (w.alloc (.cells #[.int .i64 4, .int .i64 0, .int .i64 0, S [], .int .i64 0, .slice none 0 0, .int .i64 0, .int .i64 0, .int .i64 0, .int .i64 0, .int .i64 0, .bool false] 34)).cell? ⟨w.heap.size, 7, none⟩ = some (.int .i64 0) := hF.cell 7;have g8 : (w.alloc (.cells #[.int .i64 4, .int .i64 0, .int .i64 0, S [], .int .i64 0, .slice none 0 0, .int .i64 0, .int .i64 0, .int .i64 0, .int .i64 0, .int .i64 0, .bool false] 34)).cell? ⟨w.heap.size, 8, none⟩ = some (.int .i64 0) := hF.cell 8;have g9 : (w.alloc (.cells #[.int .i64 4, .int .i64 0, .int .i64 0, S [], .int .i64 0, .slice none 0 0, .int .i64 0, .int .i64 0, .int .i64 0, .int .i64 0, .int .i64 0, .bool false] 34)).cell? ⟨w.heap.size, 9, none⟩ = some (.int .i64 0) := hF.cell 9;have g10 : (w.alloc (.cells #[.int .i64 4, .int .i64 0, .int .i64 0, S [], .int .i64 0, .slice none 0 0, .int .i64 0, .int .i64 0, .int .i64 0, .int .i64 0, .int .i64 0, .bool false] 34)).cell? ⟨w.heap.size, 10, none⟩ = some (.int .i64 0) := hF.cell 10;have g11 : (w.alloc (.cells #[.int .i64 4, .int .i64 0, .int .i64 0, S [], .int .i64 0, .slice none 0 0, .int .i64 0, .int .i64 0, .int .i64 0, .int .i64 0, .int .i64 0, .bool false] 34)).cell? ⟨w.heap.size, 11, none⟩ = some (.bool false) := hF.cell 11)
 go_enter Tryz.func37, Tryz.ntmps37
 go_wp2
 go_loopw [3, 5] (fun b x wr => b = .slice none 0 0 ∧ x = .int .i64 0 ∧ Below w.heap.size w wr ∧ Blk wr w.heap.size 34 #[.int .i64 4, .int .i64 0, .int .i64 0, S [], .int .i64 0, .slice none 0 0, .int .i64 0, .int .i64 0, .int .i64 0, .int .i64 0, .int .i64 0, .bool false]) (fun _ _ _ => 0)
 case atStart => exact ⟨rfl, rfl, hbx, hF⟩
 case round =>
  obtain ⟨rfl, rfl, hbx, hF⟩ := hrel
  (have y0 : wr.cell? ⟨w.heap.size, 0, none⟩ = some (.int .i64 4) := hF.cell 0;have y1 : wr.cell? ⟨w.heap.size, 1, none⟩ = some (.int .i64 0) := hF.cell 1;have y2 : wr.cell? ⟨w.heap.size, 2, none⟩ = some (.int .i64 0) := hF.cell 2;have y3 : wr.cell? ⟨w.heap.size, 3, none⟩ = some (S []) := hF.cell 3;have y4 : wr.cell? ⟨w.heap.size, 4, none⟩ = some (.int .i64 0) := hF.cell 4;have y5 : wr.cell? ⟨w.heap.size, 5, none⟩ = some (.slice none 0 0) := hF.cell 5;have y6 : wr.cell? ⟨w.heap.size, 6, none⟩ = some (.int .i64 0) := hF.cell 6;have y7 : wr.cell? ⟨w.heap.size, 7, none⟩ = some (.int .i64 0) := hF.cell 7;have y8 : wr.cell? ⟨w.heap.size, 8, none⟩ = some (.int .i64 0) := hF.cell 8;have y9 : wr.cell? ⟨w.heap.size, 9, none⟩ = some (.int .i64 0) := hF.cell 9;have y10 : wr.cell? ⟨w.heap.size, 10, none⟩ = some (.int .i64 0) := hF.cell 10;have y11 : wr.cell? ⟨w.heap.size, 11, none⟩ = some (.bool false) := hF.cell 11)
  go_wp2
  go_loopw [3, 6] (fun b x wr' => b = .slice none 0 0 ∧ x = .int .i64 0 ∧ wr' = wr) (fun _ _ _ => 0)
  case atStart => exact ⟨rfl, rfl, rfl⟩
  case round =>
   obtain ⟨rfl, rfl, rfl⟩ := hrel
   go_wp2
   go_ret
   exact ⟨_, rfl, World.ownsRow_nil _ _ _ _, hbx⟩
theorem put_Set0 (w : World) : Calls Tryz.prog 8 #[.agg #[.int .i64 4, .int .i64 0, .int .i64 0, S [], .int .i64 0, .slice none 0 0, .int .i64 0, .int .i64 0, .int .i64 0, .int .i64 0, .int .i64 0, .bool false]] w fun e w' => ∃ v, e = .returned (.tuple #[v, .int .i64 0]) ∧ w'.ownsRow w.heap.size 5 1 v (9 + (0 + 0)) ((beP (0 + 0) 3 ++ [4, 0] ++ beP 0 4 ++ (([] : Bytes))).map B8) ∧ Below w.heap.size w w' :=
 Put_of w 4 0 0 (by decide) (by decide) (by decide) _ _ _ _ _ _ _ _ _ (fun w => may_Set0 w) (0 + 0) (([] : Bytes)) (by simp) (by decide) (fun w => pay_Set0 w)
end Go.Proofs.YtkeeofhjdffhbaaGreatDoor
