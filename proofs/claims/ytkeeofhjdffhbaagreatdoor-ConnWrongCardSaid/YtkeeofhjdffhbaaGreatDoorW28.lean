/- Parts of the proof of wr_root: the texts Cnd2 Cnc3 Law22h Open Cnc5 Law22n Cnd3 Cnc6. -/
import Derived.ChangeSame
import Derived.Deep.DeepHandedRow
import Derived.Deep.Fields
import Derived.Deep.Slices
import Derived.Deep.Strs
import Derived.LaidMore
import Derived.Lay
import Derived.Lib.SmallJoins
import Derived.OpenShut
import Derived.ProofKit
import Derived.SevenTiedAt
import Derived.Stop.Joined
import Derived.Test.YtkeeofhjdffhbaaGreatDoorW27
set_option linter.unusedSimpArgs false
set_option linter.unusedVariables false
set_option linter.unnecessarySimpa false
namespace Go.Proofs.YtkeeofhjdffhbaaGreatDoor
open Go Go.RowKit Go.Dr
variable {w w' : World} {n : Nm} {m : Mm} {q : Cq}
set_option maxRecDepth 100000 in
set_option maxHeartbeats 8000000 in
theorem Head_204 {F : Nat → Prop} (w : World) (h : Cw w n q F) (i : Nat) (hi : i < 2147483648) {a c : List (Int × Sp)} {s : Sp} (hq : q.live = a ++ ((i : Int), s) :: c) (hst : s.st = 2) (hhd : s.headed = false) (htl : q.told = 4096) (hle : q.least = 4096) (hfr : q.frames = 16384) (hbl : q.bytes.length ≤ 1000000) :
  Calls Tryz.prog 22 #[Ptr n.c, .int .i64 (i : Int), .int .i64 204, .slice none 0 0, .bool true] w fun r w' => r = .returned (.int .i64 0) ∧ Goes w n F w' { q with bytes := q.bytes ++ frB 1 5 i [137], live := a ++ c, off := sans q.off i, over := q.over || (q.drained && (a ++ c).isEmpty) } := by
 have g0 := GoesF.refl h
 obtain ⟨m, hx, rfl⟩ := h
 have hi64 : I64 (i : Int) := by constructor <;> omega
 have y9 : w.cell? ⟨n.c, 9, none⟩ = some (.map (some n.lm)) := hx.blk.cell 9
 have hm : ((i : Int), s) ∈ q.live := by rw [hq];simp
 have hk := (hx.live.inn hi64 (List.mem_map.2 ⟨_, hm, rfl⟩)).1
 have hS := hx.side _ hm
 have y6 : w.cell? ⟨m.sb i, 6, none⟩ = some (.int .i64 2) := by rw [← hst];exact hS.cell 6
 have y3 : w.cell? ⟨m.sb i, 3, none⟩ = some (.bool false) := by rw [← hhd];exact hS.cell 3
 have hAn := Answering_2 w hx i hi64 hm hst
 go_enter Tryz.func22, Tryz.ntmps22
 go_upto_region 10 with first
  | (go_at_call 59;go_must ((with_reducible refine hAn.mono ?_);rintro r w1 ⟨rfl, hb1⟩;have hx1 := hx.on hb1;have z3 : w1.cell? ⟨m.sb i, 3, none⟩ = some (.bool false) := (by rw [← hhd];exact (hx1.side _ hm).cell 3)))
  | (go_at_call 60;go_must ((with_reducible refine (Answer_204 _).mono ?_);rintro r w2 ⟨B, v, rfl, hB2, hrow, hb2⟩;have hx2 := hx1.on hb2;have x3 : w2.cell? ⟨m.sb i, 3, none⟩ = some (.bool false) := (by rw [← hhd];exact (hx2.side _ hm).cell 3);have v3 := (hx2.side _ hm).free 3))
 have hS2 := hx2.side _ hm
 obtain ⟨hx3, k3⟩ := hx2.goesS hq { s with headed := true } ((But.refl (fun g => g = m.sb i) _).setCell (p := ⟨m.sb i, 3, none⟩) (.inl rfl) (.bool true)) (hS2.set 3 _) rfl
 have hb02 := hb1.trans (hb2.mono hb1.size)
 have g3 := (g0.on hb02).comp k3
 have hsl : m.sb i < w1.heap.size := (hx1.side _ hm).lt
 have hel : n.e < w1.heap.size := hx1.enc.lt
 have hrow3 := own_same (w' := w2.setCell ⟨m.sb i, 3, none⟩ (.bool true)) hrow (fun g hg => Below.heap_setCell _ _ _ _ (fun e => by have := (hrow.lt g hg.symm).1;simp only [] at e;omega))
 obtain ⟨q3, eq3⟩ : ∃ q3 : Cq, q3 = { q with live := a ++ ((i : Int), { s with headed := true }) :: c } := ⟨_, rfl⟩
 rw [← eq3] at hx3 g3
 refine wp_cut (R := fun W => Cx W n m q3 ∧ GoesF w n (Foot n m q) W q3 (Foot n m q3) ∧ W.ownsRow B 41 3 v 1 (fcells [f204])) ⟨hx3, g3, hrow3⟩ ?_
 have heB : n.e < B := by omega
 clear hx3 g3 hrow3 k3 hx2 x3 v3 hS2 hb02 hsl hel hrow hB2 hb2 hb1 hx1 z3
 rintro W ⟨hx3, g3, hrow3⟩
 have y6 : W.cell? ⟨n.c, 6, none⟩ = some (Ptr n.e) := hx3.blk.cell 6
 have henc := hx3.enc
 rw [show q3.told = 4096 by rw [eq3];exact htl, show q3.least = 4096 by rw [eq3];exact hle] at henc
 have hte : n.t2 ≠ n.e := fun e1 => by
  obtain ⟨-, -, -, -, k1, k2, -⟩ := hx3.kinds
  rw [e1] at k2
  omega
 have hEn := Encode_s204 W henc (hx3.t2.cell 0) hte hrow3 heB
 go_upto_region 14 with (go_at_call 61;go_must ((with_reducible refine hEn.mono ?_);rintro r w4 ⟨x, rfl, hx4r, hE4, hb4⟩))
 obtain ⟨xa, xc, rfl⟩ := own_form hx4r
 have hz4 := hb4.size
 have hx4 : Cx w4 n m { q3 with told := 4096, least := 4096 } := hx3.upE hb4 (fun g hg => by rw [hg];exact kd_blk hx3.enc) 4096 4096 hE4
 rw [show ({ q3 with told := 4096, least := 4096 } : Cq) = q3 by rw [eq3];simp only [Cq.mk.injEq, true_and];exact ⟨htl.symm, hle.symm⟩] at hx4
 have g4 : GoesF w n (Foot n m q) w4 q3 (Foot n m q3) := g3.comp ⟨⟨m, hx4, rfl⟩, hb4.more (fun g hg => by rw [hg];exact Foot.e), fun g hg => .inl hg⟩
 have hbA : Below w4.heap.size w4 (w4.alloc (.cells #[.int .i64 1, .int .i64 1, .int .i64 (i : Int), S [], .int .i64 0, .slice none 0 0, .int .i64 0, .int .i64 0, .int .i64 0, .int .i64 0, .int .i64 0, .bool false] 34)) := (Below.refl _ _).alloc (Nat.le_refl _) _
 refine wp_cut (R := fun W => Blk W w4.heap.size 34 #[.int .i64 1, .int .i64 1, .int .i64 (i : Int), S [], .int .i64 0, .slice none 0 0, .int .i64 0, .int .i64 0, .int .i64 0, .int .i64 0, .int .i64 0, .bool false] ∧ Cx W n m q3 ∧ GoesF w n (Foot n m q) W q3 (Foot n m q3) ∧ By W.heap.size W (.slice xa 1 xc) [137]) ⟨Blk.new _ _ _, hx4.on hbA, g4.on hbA, own_by (own_below hx4r hbA)⟩ ?_
 have hfl4 : ∀ g, Foot n m q3 g → g < w4.heap.size := fun g hg => hx4.foot_lt hg
 have hz04 := g4.b.size
 clear hx4 g4 hbA hx4r hz4 hb4 hE4 hEn henc hte y6 hx3 g3 hrow3 heB W
 rintro W ⟨hF, hx5, g5, hx5r⟩
 have hby := hx5r.text (P := Tryz.prog) 26 9 5 Tryz.underlying26 Tryz.underlying5 Tryz.underlying9
 have y8 : W.cell? ⟨n.c, 8, none⟩ = some (.int .i64 16384) := by rw [show (Value.int .i64 16384) = .int .i64 q3.frames by rw [eq3];show _ = Value.int .i64 q.frames;rw [hfr]];exact hx5.blk.cell 8
 have u1 : W.cell? ⟨w4.heap.size, 1, none⟩ = some (.int .i64 1) := hF.cell 1
 have u3 : W.cell? ⟨w4.heap.size, 3, none⟩ = some (S []) := hF.cell 3
 have s1 := hF.free 1
 have s3 := hF.free 3
 have b14 : bits .or .i64 1 4 = 5 := by decide
 refine wp_loop_rounds 1 ?_
 rw [rounds_succ]
 go_upto_region 21 with fail
 have hF6 := (hF.set 3 (S [137])).set 1 (.int .i64 5)
 have hx6 : Cx ((W.setCell ⟨w4.heap.size, 3, none⟩ (S [137])).setCell ⟨w4.heap.size, 1, none⟩ (.int .i64 5)) n m q3 := hx5.keep (fun g hg => by
  have := hfl4 g hg
  rw [Below.heap_setCell _ _ _ _ (fun e => by simp only [] at e;omega), Below.heap_setCell _ _ _ _ (fun e => by simp only [] at e;omega)])
 have g6 : GoesF w n (Foot n m q) ((W.setCell ⟨w4.heap.size, 3, none⟩ (S [137])).setCell ⟨w4.heap.size, 1, none⟩ (.int .i64 5)) q3 (Foot n m q3) := ⟨⟨m, hx6, rfl⟩, (g5.b.setCell (p := ⟨w4.heap.size, 3, none⟩) (.inr hz04) _).setCell (p := ⟨w4.heap.size, 1, none⟩) (.inr hz04) _, g5.s⟩
 refine wp_cut (R := fun W => Blk W w4.heap.size 34 #[.int .i64 1, .int .i64 5, .int .i64 (i : Int), S [137], .int .i64 0, .slice none 0 0, .int .i64 0, .int .i64 0, .int .i64 0, .int .i64 0, .int .i64 0, .bool false] ∧ GoesF w n (Foot n m q) W q3 (Foot n m q3)) ⟨hF6, g6⟩ ?_
 clear hF6 hx6 g6 hF hx5 g5 hx5r hby y8 u1 u3 s1 s3 W
 rintro W ⟨hF, g6⟩
 (have u0 : W.cell? ⟨w4.heap.size, 0, none⟩ = some (.int .i64 1) := hF.cell 0;have u1 : W.cell? ⟨w4.heap.size, 1, none⟩ = some (.int .i64 5) := hF.cell 1;have u2 : W.cell? ⟨w4.heap.size, 2, none⟩ = some (.int .i64 (i : Int)) := hF.cell 2;have u3 : W.cell? ⟨w4.heap.size, 3, none⟩ = some (S [137]) := hF.cell 3;have u4 : W.cell? ⟨w4.heap.size, 4, none⟩ = some (.int .i64 0) := hF.cell 4;have u5 : W.cell? ⟨w4.heap.size, 5, none⟩ = some (.slice none 0 0) := hF.cell 5;have u6 : W.cell? ⟨w4.heap.size, 6, none⟩ = some (.int .i64 0) := hF.cell 6;have u7 : W.cell? ⟨w4.heap.size, 7, none⟩ = some (.int .i64 0) := hF.cell 7;have u8 : W.cell? ⟨w4.heap.size, 8, none⟩ = some (.int .i64 0) := hF.cell 8;have u9 : W.cell? ⟨w4.heap.size, 9, none⟩ = some (.int .i64 0) := hF.cell 9;have u10 : W.cell? ⟨w4.heap.size, 10, none⟩ = some (.int .i64 0) := hF.cell 10;have u11 : W.cell? ⟨w4.heap.size, 11, none⟩ = some (.bool false) := hF.cell 11)
 have hWr := Write_any (c0 := .int .i64 1) (c1 := .int .i64 5) (c2 := .int .i64 (i : Int)) (c3 := S [137]) (c4 := .int .i64 0) (c5 := .slice none 0 0) (c6 := .int .i64 0) (c7 := .int .i64 0) (c8 := .int .i64 0) (c9 := .int .i64 0) (c10 := .int .i64 0) (c11 := .bool false) W g6.h (frB 1 5 i [137]) (fun w1 _ => pPut_Hdr 5 i [137] (by decide) (by decide) (by decide) hi (by decide) w1) (by rw [frB_length, eq3];simp;omega)
 have hsm : ((i : Int), ({ s with headed := true } : Sp)) ∈ q3.live := by rw [eq3];simp
 go_wp2_with first
  | (go_at_call 57;go_must ((with_reducible refine hWr.mono ?_);rintro r w7 ⟨rfl, hg7⟩;obtain ⟨F7, g7⟩ := g6.step hg7;have hWt := Went_done w7 g7.h i 1 (.inr rfl) hi64 hsm hst))
  | (go_at_call 62;go_must ((with_reducible refine hWt.mono ?_);rintro r w8 ⟨rfl, hg8⟩;obtain ⟨F8, g8⟩ := g7.step hg8))
 go_ret
 refine ⟨rfl, ?_⟩
 have hnd := hx.ids
 rw [hq] at hnd
 have hnd3 : ((a ++ ((i : Int), ({ s with headed := true } : Sp)) :: c).map (·.1)).Nodup := by simpa using hnd
 have esn : sans q3.live i = a ++ c := by rw [eq3];exact sans_mid hnd3
 have g9 := g8.goes
 rw [show ({ q3 with bytes := q3.bytes ++ frB 1 5 i [137] } : Cq).live = q3.live from rfl, esn] at g9
 rw [eq3] at g9
 exact g9
end Go.Proofs.YtkeeofhjdffhbaaGreatDoor
namespace Go.Proofs.YtkeeofhjdffhbaaGreatDoor
open Go Go.RowKit Go.Dr
variable {w w' : World} {n : Nm} {m : Mm} {q q' : Cq}
set_option maxHeartbeats 4000000 in
/-- a frame of a greeted connection that is within no block -/
theorem Item_then {F : Nat → Prop} {d : Bytes} {x4 x6 x7 x8 x9 x10 : Int} {x11 : Bool} {sa : Option Addr} {sk sc : Nat} {ty fl st : Int} (w : World) (h : Cw w n q F) (hgr : q.greeted = true) (hfo : q.fo = 0) (hty : I64 ty) (h9 : ty ≠ 9) (k : Nat) (hk : wayV ty = .func (.func k) #[] #[]) (hEn : ∀ (args : Array Value) (w : World), (callFunc k args).run Tryz.prog w = .ok (.enter k args) w)
  (hDo : ∀ w1 F1, Cw w1 n q F1 → Calls Tryz.prog k #[Ptr n.c, .agg #[.int .i64 ty, .int .i64 fl, .int .i64 st, S d, .int .i64 x4, .slice sa sk sc, .int .i64 x6, .int .i64 x7, .int .i64 x8, .int .i64 x9, .int .i64 x10, .bool x11]] w1 fun r w' => r = .returned (.tuple #[]) ∧ Goes w1 n F1 w' q') (q2 : Cq) (hq2 : ({ q' with over := q'.over || (q'.drained && q'.live.isEmpty) } : Cq) = q2) :
  Calls Tryz.prog 58 #[Ptr n.c, .agg #[.int .i64 ty, .int .i64 fl, .int .i64 st, S d, .int .i64 x4, .slice sa sk sc, .int .i64 x6, .int .i64 x7, .int .i64 x8, .int .i64 x9, .int .i64 x10, .bool x11, .bool false, .int .i64 0, .int .i64 0]] w fun r w' => r = .returned (.tuple #[]) ∧ Goes w n F w' q2 := by
 have eg : ({ q with greeted := true } : Cq) = q := by
  cases q
  simp only [] at hgr
  rw [hgr]
 exact Item_do w h hty k hk hEn (fun w1 F1 h1 => Placed_then w1 h1 hgr hfo h9) (fun w1 F1 _ h1 => hDo w1 F1 (eg ▸ h1)) q2 hq2
end Go.Proofs.YtkeeofhjdffhbaaGreatDoor
namespace Go.Proofs.YtkeeofhjdffhbaaGreatDoor
open Go Go.RowKit Go.Dr
variable {w w' : World} {n : Nm} {q q' : Cq}
/-- what the blocks of a connection hold -/
theorem Cw.sort {F : Nat → Prop} (h : Cw w n q F) {g : Nat} (hg : F g) : kd w g = 0 ∨ kd w g = 126 + 1 ∨ kd w g = 158 + 1 ∨ kd w g = 163 + 1 ∨ kd w g = 210 + 1 ∨ kd w g = 181 + 1 ∨ kd w g = 183 + 1 ∨ kd w g = 5 + 1 ∨ kd w g = 84 + 1 ∨ kd w g = 3 + 1 ∨ kd w g = 140 + 1 := by
 obtain ⟨m, hx, rfl⟩ := h
 obtain ⟨k1, k2, k3, k4, k5, k6, k7, k8, k9, k10, k11, k12, k13, k14, kbv, knv, kcv, ksd⟩ := hx.kinds
 rcases hg with hg | hg | hg | ⟨p, hp, hg⟩
 ·rcases hg with rfl | rfl | rfl | rfl | rfl | rfl | rfl | rfl | rfl | rfl <;> omega
 ·rcases hg with rfl | rfl | rfl | rfl <;> omega
 ·rcases hg with hg | hg | hg
  ·have := kbv g hg;omega
  ·have := knv g hg;omega
  ·have := kcv g hg;omega
 ·rcases hg with rfl | hg
  ·have := (ksd p hp).1;omega
  ·have := (ksd p hp).2 g hg;omega
set_option maxRecDepth 100000 in
set_option maxHeartbeats 8000000 in
/-- the bytes of one frame -/
theorem Bytes_of {g : Nat} {c0 c1 c2 c3 c4 c5 c6 c7 c8 c9 c10 c11 : Value} (l : Bytes) (w : World) (hg : Blk w g 34 #[c0, c1, c2, c3, c4, c5, c6, c7, c8, c9, c10, c11]) (hl0 : 0 < l.length) (hl : l.length ≤ 1000000)
  (hP : ∀ w1, Calls Tryz.prog 8 #[.agg #[c0, c1, c2, c3, c4, c5, c6, c7, c8, c9, c10, c11]] w1 fun e w' => ∃ v, e = .returned (.tuple #[v, .int .i64 0]) ∧ w'.ownsRow w1.heap.size 5 1 v l.length (l.map B8) ∧ Below w1.heap.size w1 w') :
  Calls Tryz.prog 20 #[.slice (some ⟨g, 0, none⟩) 1 1] w (OutC l w) := by
 (have z0 : w.cell? ⟨g, 0, none⟩ = some (c0) := hg.cell 0;have z1 : w.cell? ⟨g, 1, none⟩ = some (c1) := hg.cell 1;have z2 : w.cell? ⟨g, 2, none⟩ = some (c2) := hg.cell 2;have z3 : w.cell? ⟨g, 3, none⟩ = some (c3) := hg.cell 3;have z4 : w.cell? ⟨g, 4, none⟩ = some (c4) := hg.cell 4;have z5 : w.cell? ⟨g, 5, none⟩ = some (c5) := hg.cell 5;have z6 : w.cell? ⟨g, 6, none⟩ = some (c6) := hg.cell 6;have z7 : w.cell? ⟨g, 7, none⟩ = some (c7) := hg.cell 7;have z8 : w.cell? ⟨g, 8, none⟩ = some (c8) := hg.cell 8;have z9 : w.cell? ⟨g, 9, none⟩ = some (c9) := hg.cell 9;have z10 : w.cell? ⟨g, 10, none⟩ = some (c10) := hg.cell 10;have z11 : w.cell? ⟨g, 11, none⟩ = some (c11) := hg.cell 11)
 go_enter Tryz.func20, Tryz.ntmps20
 go_wp2
 refine wp_loop_rounds 2 ?_
 rw [rounds_succ]
 go_wp2_with first
  | (go_at_call 8;go_must ((with_reducible refine (hP _).mono ?_);rintro r w2 ⟨v, rfl, hrow, hb2⟩))
  | (at_builtin;refine wpList_appAt rfl _ _ 26 rfl w.heap.size 5 (.int .u8 0) 1 1 Tryz.underlying26 (by kernel_rfl) rfl (by decide) _ _ _ rfl (World.ownsRow_nil _ _ _ _) w2.heap.size _ l.length (l.map B8) rfl (Rd.own hrow) (b8_one2 _) (by unfold maxLen;omega) (by omega) hb2.size ?_;intro a5 c5 w5 hown5 hg5 hat5)
 rw [rounds_succ]
 go_wp2
 go_ret
 exact ⟨_, rfl, by simpa using hown5, hb2.trans ((but_grow hg5).below (fun k hk => by cases hk) hb2.size)⟩
end Go.Proofs.YtkeeofhjdffhbaaGreatDoor
namespace Go.Dr
open Go.RowKit Go.ChangeShapes Go.WideShapes Go.Deep
open Go.ChangeMaps (open_string)
section
variable {H : Type} {enc : TypeId × Value → H} {P : Program}
theorem TrodAll_below (hl : laidOutB P = true) {W W' : World} (hb : Below W.heap.size W W') : ∀ (ts : List TypeId) (vs : List Value) (ds : List (DataW H)) (ps : List MemPlace),
    (ts.all fun t => P.readableRec t && decide (t < P.types.size)) = true → DataW.TrodAll enc P W 0 (fun _ => true) true ts vs ds ps → (∀ x ∈ ps, x.block < W.heap.size) →
    DataW.TrodAll enc P W' 0 (fun b => decide (b < W.heap.size)) true ts vs ds ps
  | [], [], [], _, _, h, _ => h
  | t :: ts, v :: vs, d :: ds, ps, hr, h, hlt => by
    obtain ⟨p, q, h1, h2, rfl⟩ := h
    simp only [List.all_cons, Bool.and_eq_true, decide_eq_true_eq] at hr
    exact ⟨p, q, Below.trod hl hr.1.1 hr.1.2 h1 hb (fun x hx => hlt x (List.mem_append_left _ hx)),
      TrodAll_below hl hb ts vs ds q hr.2 h2 (fun x hx => hlt x (List.mem_append_right _ hx)), rfl⟩

/-- A LAW's POST: it answers true, and below the heap's old size nothing has turned. -/
theorem law_post {f : Func} {s : ChangeSpec} {W W' : World} {args : Array Value} {ds gs : List (DataW H)} {before : List MemPlace} {bt : TypeId}
  (hW : DataW.Whole enc P f.params.toList s.vars false W args.toList ds gs before) (hv : s.vars = []) (hfn : s.fn H (ds ++ gs) = { results := [.lit (.bool true)], args := ds })
  (hres : f.resultTypes = #[bt]) (hbt : P.underlying bt = some .bool) (hl : laidOutB P = true) (hr : (f.params.toList.all fun t => P.readableRec t && decide (t < P.types.size)) = true)
  (hb : Below W.heap.size W W') : s.post enc P f false true false false W args (.bool true) W' := by
 have hlt := fun p hp => DataW.Whole.lt hW p hp
 have hW' := hW
 obtain ⟨p, q, hA, hV, rfl, hfz, hnd⟩ := hW
 rw [hv] at hV
 obtain ⟨rfl, rfl⟩ := trodVars_none hV
 refine ⟨ds, [], _, [], p, [], hW', ?_, ?_, ?_, hb.frame _, fun h => by cases h⟩
 ·rw [hfn, hres]
  exact trodAll_mk1 (shut_bool hbt true)
 ·rw [hfn]
  exact TrodAll_below hl hb _ _ _ _ hr hA fun x hx => hlt x (by simpa using hx)
 ·rw [hfn, hv]
  rfl
variable {w : World} {base : Nat} {spare : Nat → Bool} {held : Bool}
theorem flat_get {α : Type} (cells : α → List Value) (size : Nat) (hlen : ∀ x, (cells x).length = size) (l : List α) (i : Nat) (hi : i < l.length) (j : Nat) (hj : j < size) : (l.flatMap cells)[i * size + j]? = (cells l[i])[j]? := by
 induction l generalizing i with
 | nil => simp at hi
 | cons x l ih =>
  rw [List.flatMap_cons]
  cases i with
  | zero => rw [List.getElem?_append_left (by rw [hlen];omega)];simp
  | succ i =>
   have h1 : (i + 1) * size + j = size + (i * size + j) := by rw [Nat.add_mul];omega
   rw [List.getElem?_append_right (by rw [hlen, h1];omega), hlen, h1, Nat.add_sub_cancel_left]
   exact ih i (by simpa using hi)
theorem flat_length {α : Type} (cells : α → List Value) (size : Nat) (hlen : ∀ x, (cells x).length = size) (l : List α) : (l.flatMap cells).length = l.length * size := by
 induction l with
 | nil => simp
 | cons x l ih => rw [List.flatMap_cons, List.length_append, hlen, ih, List.length_cons, Nat.add_mul];omega
theorem weights_at {e : TypeId} {elems : List (DataW H)} (h : (DataW.weightsAll P e elems).all (· ≤ reachBytes) = true) {d : DataW H} (hd : d ∈ elems) : (d.weights P e).all (· ≤ reachBytes) = true := by
 induction elems with
 | nil => cases hd
 | cons y r ih =>
  simp only [DataW.weightsAll, List.all_append, Bool.and_eq_true] at h
  cases hd with
  | head => exact h.1
  | tail _ hd => exact ih h.2 hd
/-- A SLICE, ELEMENT BY ELEMENT: whatever an element's cells are read as. -/
theorem open_seq {α : Type} [Inhabited α] {t e : TypeId} (size : Nat) (cells : α → List Value) (R : α → Prop) (hs0 : 0 < size) (hsize : P.cellsOf e = size) (hlen : ∀ x, (cells x).length = size)
  (hel : ∀ n cs' y, DataW.trod enc P w base spare held n e cs' = some y → (y.1.weights P e).all (· ≤ reachBytes) = true → ∃ x, cs' = cells x ∧ R x)
  {fuel : Nat} {cs : List Value} {x : DataW H × List MemPlace} (ht : P.underlying t = some (.slice e)) (h : DataW.trod enc P w base spare held fuel t cs = some x) (hw : (x.1.weights P t).all (· ≤ reachBytes) = true) :
  ∃ (v : Value) (l : List α), cs = [v] ∧ Rd w.heap.size w size v l.length (l.flatMap cells) ∧ (∀ x ∈ l, R x) ∧ l.length * P.bytesOf e ≤ reachBytes := by
 rcases open_slice ht h with ⟨rfl, rfl⟩ | ⟨a, len, cap, m, n, D, Pl, rfl, hb, hl, hm, hmm, rfl, hi⟩
 ·exact ⟨_, [], rfl, Rd.nil _ _ _, by simp, by rw [List.length_nil, Nat.zero_mul];exact Nat.zero_le _⟩
 ·have hlm : len ≤ m := by rw [hmm];split <;> omega
  simp only [DataW.weights, ht, List.all_cons, List.all_append, Bool.and_eq_true, decide_eq_true_eq] at hw
  have hlb : len * P.bytesOf e ≤ reachBytes := Nat.le_trans (Nat.mul_le_mul_right _ (by simp)) hw.1
  obtain ⟨V, hV⟩ := choose_lt (α := α) (n := len) (p := fun i v => (∀ j, j < size → w.cell? (a.add (i * size + j)) = (cells v)[j]?) ∧ R v) (fun i hil => by
   obtain ⟨cs', h1, h2⟩ := hi i (by omega)
   obtain ⟨v, rfl, hR⟩ := hel _ _ _ h2 (weights_at hw.2.1 (by simp;exact ⟨i, hil, rfl⟩))
   obtain ⟨_, hcl, hat⟩ := World.cells?_some h1
   refine ⟨v, fun j hj => ?_, hR⟩
   rw [← Go.Deep.add_add, ← hsize]
   exact hat j (by omega))
  refine ⟨_, (List.range len).map V, rfl, ?_, ?_, by rw [List.length_map, List.length_range];exact hlb⟩
  ·refine ⟨some a, cap, by simp, by simpa using hl, hm, by rw [flat_length cells size hlen], by simp, fun j u hu => ?_⟩
   have hjl : j < len * size := by
    have := (List.getElem?_eq_some_iff.1 hu).1
    rw [flat_length cells size hlen] at this
    simpa using this
   have hdiv : j / size < len := Nat.div_lt_of_lt_mul (by rw [Nat.mul_comm];exact hjl)
   have hmod : j % size < size := Nat.mod_lt _ hs0
   have hj : j = j / size * size + j % size := by rw [Nat.mul_comm];exact (Nat.div_add_mod j size).symm
   have hc := (hV (j / size) hdiv).1 (j % size) hmod
   have hg := flat_get cells size hlen ((List.range len).map V) (j / size) (by simpa using hdiv) (j % size) hmod
   rw [← hj] at hc hg
   rw [hu] at hg
   have hcell : w.cell? (a.add j) = some u := by rw [hc, hg];simp
   have hblk := World.block_lt_of_cell? w _ hcell
   obtain ⟨b, off, sp⟩ := a
   cases sp with
   | some s =>
    have h00 := (hV 0 (Nat.lt_of_le_of_lt (Nat.zero_le _) hdiv)).1 0 hs0
    have hn : w.cell? ((⟨b, off, some s⟩ : Addr).add (0 * size + 0)) = none := by
     simp only [Nat.zero_mul, Nat.add_zero, Addr.add, if_true, World.cell?]
     split <;> rfl
    rw [hn] at h00
    have h01 := List.getElem?_eq_getElem (l := cells (V 0)) (i := 0) (by rw [hlen];exact hs0)
    rw [h01] at h00
    cases h00
   | none =>
    rw [Addr.add_lit] at hcell hblk
    exact ⟨b, off, rfl, hblk, hcell⟩
  ·intro y hy
   obtain ⟨i, hi', rfl⟩ := List.mem_map.1 hy
   exact (hV i (List.mem_range.1 hi')).2
theorem wf_int {n : Int} (h : (Lit.int .i64 n).wf = true) : -9223372036854775808 ≤ n ∧ n ≤ 9223372036854775807 := by
 simpa [Lit.wf, IntKind.min, IntKind.max, IntKind.signed, IntKind.bits] using h
theorem wf_u8 {n : Int} (h : (Lit.int .u8 n).wf = true) : 0 ≤ n ∧ n ≤ 255 := by
 simpa [Lit.wf, IntKind.min, IntKind.max, IntKind.signed, IntKind.bits] using h
end
end Go.Dr
namespace Go.Dr
open Go.RowKit Go.ChangeShapes Go.WideShapes Go.Deep Go.Joins
open Go.ChangeMaps (open_string)
section
variable {H : Type} {enc : TypeId × Value → H} {P : Program} {w : World} {base : Nat} {spare : Nat → Bool} {held : Bool}
/-- A request. -/
structure Rq where
 m : Bytes
 s : Bytes
 a : Bytes
 p : Bytes
 v : Value
def Rq.val (r : Rq) : Value := .agg #[S r.m, S r.s, S r.a, S r.p, r.v]
/-- An answer that is kept. -/
structure En where
 key : Bytes
 vp : Value
 st : Int
 vf : Value
 body : Bytes
 asked : Int
 came : Int
def En.val (e : En) : Value := .agg #[S e.key, e.vp, .int .i64 e.st, e.vf, S e.body, .int .i64 e.asked, .int .i64 e.came]
def I64 (n : Int) : Prop := -9223372036854775808 ≤ n ∧ n ≤ 9223372036854775807
end
end Go.Dr
namespace Go.Dr
open Go.RowKit Go.ChangeShapes Go.WideShapes Go.Deep
section
variable {H : Type} {enc : TypeId × Value → H} {P : Program} {w : World} {base : Nat} {spare : Nat → Bool} {held : Bool}
end
end Go.Dr
namespace Go.Proofs.YtkeeofhjdffhbaaGreatDoor
open Go Go.RowKit Go.Dr
variable {w w' : World} {n : Nm} {m m' : Mm} {q q' : Cq}
/-- a map that was cleared -/
theorem GMap.cleared {κ β : Type} [DecidableEq κ] {P : Program} {kt : TypeId} {R : Value → Option (DataW Unit × List MemPlace)} {L : κ → Lit} {E : β → DataW Unit} {w : World} {m c : Nat} (h : w.heap[m]? = some (.map #[] c)) : GMap P kt R L E w m ([] : List (κ × β)) :=
 ⟨.map [], ⟨#[], c, h, ⟨by simp, MapKept.stamped_empty c, by simp⟩, Nat.le_refl _, rfl⟩, Maps.tidy_empty, rfl, by simp, fun _ => rfl, by simp⟩
theorem run_clear_map {P : Program} {w : World} {b : Nat} {es : Array MapEntry} {clock : Nat} {t k e ty : TypeId} (hb : w.heap[b]? = some (.map es clock)) (ht : P.underlying t = some (.map k e)) : (Builtin.clear_ #[t] ty #[.map (some b)]).run P w = .ok (.tuple #[]) { w with heap := w.heap.setIfInBounds b (.map #[] clock) } := by
 simp [Builtin.clear_, run_underlying ht, MapKept.run_getObj_map hb, MapKept.run_setObj_map _ hb, Result.andThen]
set_option maxRecDepth 100000 in
set_option maxHeartbeats 4000000 in
/-- a stream has no window any more: only the windows' map turns -/
theorem Shut_om (w : World) (hx : Cx w n m q) (i : Int) (hi : I64 i) : Calls Tryz.prog 178 #[Ptr n.bk, .int .i64 i] w fun e w' => e = .returned (.tuple #[]) ∧ Cx w' n m { q with off := sans q.off i } ∧ But (fun g => g = n.om) w w' := by
 have y : w.cell? ⟨n.bk, 2, none⟩ = some (.map (some n.om)) := hx.book.cell 2
 obtain ⟨w2, hrun, ho, ht⟩ := hx.off.delO hi 0
 go_enter Tryz.func178, Tryz.ntmps178
 go_wp2
 go_end0
 exact ⟨rfl, (hx.goesO (but_turn2 ht) (fun g hg => .inl hg) (hx.book.but (but_turn2 ht) hx.om_bk) ho).1, but_turn2 ht⟩
theorem grown_of_but {w w' : World} {o : Nat} (h : But (fun g => g = o) w w') : w.grownBy w' (some o) := ⟨h.os, h.tape, h.output, h.size, fun i hi hne => h.block i hi (fun e => hne (by rw [e]))⟩
/-- is a stream live? -/
def inLive (q : Cq) (i : Int) : Bool := q.live.any fun s => s.1 == i
/-- the windows that are left when no live stream is -/
def outs (q : Cq) : List (Int × Int) := q.off.filter fun p => !inLive q p.1
theorem sans_keep {off : List (Int × Int)} {left : Lit → Bool} {il : Int → Bool} {x : Int} (hx : il x = true) :
  sans (off.filter fun p => left (Li p.1) || !il p.1) x = off.filter fun p => (left (Li p.1) && !(Li p.1).sameKey (Li x)) || !il p.1 := by
 unfold sans
 rw [List.filter_filter]
 refine List.filter_congr fun p _ => ?_
 by_cases e : p.1 = x
 ·subst e
  have : (Li p.1).sameKey (Li p.1) = true := by simp [Lit.sameKey]
  simp [hx, this]
 ·have h2 : (Li p.1).sameKey (Li x) = false := by
   rw [Bool.eq_false_iff]
   intro h
   have := WideAt.sameKey_eq h
   cases this
   exact e rfl
  have h3 : (p.1 != x) = true := by simpa using e
  simp [h2, h3]
set_option maxRecDepth 100000 in
set_option maxHeartbeats 8000000 in
theorem End_any {F : Nat → Prop} (w : World) (h : Cw w n q F) : Calls Tryz.prog 127 #[Ptr n.c] w fun e w' => e = .returned (.tuple #[]) ∧ Goes w n F w' { q with over := true, off := outs q, live := [] } := by
 have g0 := GoesF.refl h
 obtain ⟨m, hx, rfl⟩ := h
 have y19 : w.cell? ⟨n.c, 19, none⟩ = some (.bool q.over) := hx.blk.cell 19
 have f19 := hx.blk.free 19
 obtain ⟨hx2, k2⟩ := hx.goesC1 19 (.bool true) { q with over := true } rfl rfl rfl
 have g2 := g0.comp k2
 obtain ⟨W, eW⟩ : ∃ W, W = w.setCell ⟨n.c, 19, none⟩ (.bool true) := ⟨_, rfl⟩
 rw [← eW] at hx2 g2
 clear k2
 have y9 : W.cell? ⟨n.c, 9, none⟩ = some (.map (some n.lm)) := hx2.blk.cell 9
 have hlv := hx2.live
 obtain ⟨D, hown, -, -, -, hhas, -⟩ := hlv
 have hhas : ∀ i : Int, Maps.has D (Li i) = inLive q i := fun i => by
  rw [hhas]
  simp [inLive, List.any_map, Function.comp_def]
 rw [List.length_map] at hown
 go_enter Tryz.func127, Tryz.ntmps127
 go_upto_region 1 with fail
 rw [← eW]
 clear eW y19 f19
 go_wp2_with (first
  | (at_range;refine wpList_range_own _ rfl _ 121 rfl 3 132 keyedI Tryz.underlying121 Rp n.lm _ D rfl hown ?_;intro w0 hrg0 hg0 hs0)
  | fail)
 try go_frame
 have hbW0 : Below W.heap.size W w0 := ⟨hg0.os, hg0.tape, hg0.output, hg0.size, fun i hi => hg0.block i hi (by simp)⟩
 have hFl : ∀ g, Foot n m q g → g < W.heap.size := fun g hg => hx2.foot_lt (show Foot n m { q with over := true } g from hg)
 have hbt0 : But (Foot n m q) w w0 := g2.b.trans (But.of_below hbW0)
 have hx0 : Cx w0 n m { q with over := true } := hx2.on hbW0
 have hzw : w.heap.size ≤ W.heap.size := g2.b.size
 obtain ⟨k1, k2, k3, -⟩ := hx.maps
 clear g2 hbW0
 go_loopw [2] (fun _ wr => ∃ (left : Lit → Bool) (cnt : Nat), wr.ranges Tryz.prog 3 Rp n.lm W.heap.size q.live.length D left cnt ∧ (∀ i : Int, left (Li i) = true → inLive q i = true) ∧ Cx wr n m { q with over := true, off := q.off.filter fun p => left (Li p.1) || !inLive q p.1 } ∧ But (Foot n m q) w wr) (fun _ wr => wr.rangeLeft n.lm W.heap.size)
 case atStart =>
  refine ⟨_, _, hrg0, fun i hi => by rw [← hhas];exact hi, ?_, hbt0⟩
  have e : (q.off.filter fun p => Maps.has D (Li p.1) || !inLive q p.1) = q.off := List.filter_eq_self.2 fun p _ => by rw [hhas];cases inLive q p.1 <;> rfl
  rw [e]
  exact hx0
 case round =>
  obtain ⟨left, cnt, hrg, hle, hxr, hbr⟩ := hrel
  go_wp2_with (first
   | (at_next;refine wpList_next_ranges _ rfl _ rfl 3 keyedI Rp (Value.int .i64) (fun v : Value => v) (fun key kl hkey => by obtain ⟨x, rfl, _⟩ := Maps.keyOf_int_inv Tryz.underlying3 hkey;exact ⟨x, rfl⟩) (fun v y _ => ⟨v, rfl⟩) n.lm W.heap.size _ _ _ _ rfl hrg ?_ ?_)
   | fail)
  ·intro _ hl0
   have y9 : wr.cell? ⟨n.c, 9, none⟩ = some (.map (some n.lm)) := hxr.blk.cell 9
   obtain ⟨es, clock, hob⟩ := hxr.live.obj
   have hclr := run_clear_map (ty := 0) hob Tryz.underlying121
   go_wp2
   go_end0
   have ht : wr.mapTurned { wr with heap := wr.heap.setIfInBounds n.lm (.map #[] clock) } n.lm := ⟨es, clock, #[], clock, hob, rfl⟩
   have hb9 := but_turn2 ht
   have hnew : ({ wr with heap := wr.heap.setIfInBounds n.lm (.map #[] clock) } : World).heap[n.lm]? = some (.map #[] clock) := by
    have hl := (Array.getElem?_eq_some_iff.1 hob).1
    simp [hl]
   have hX := hxr.upL hb9 (fun g hg => .inl hg) m [] rfl (GMap.cleared hnew) (fun p hp => by cases hp) (fun p hp => by cases hp) (fun p hp => by cases hp) (fun p hp => by cases hp) (fun p hp => by cases hp)
   have e0 : (q.off.filter fun p => left (Li p.1) || !inLive q p.1) = outs q := List.filter_congr fun p _ => by rw [hl0];rfl
   rw [e0] at hX
   refine ⟨rfl, _, ⟨m, hX, rfl⟩, hbr.trans2 hb9 (fun g hg => .inl (by rw [hg];exact Foot.lm)), fun g hg => .inl ?_⟩
   rcases hg with hg | hg | hg | ⟨p, hp, -⟩
   ·exact .inl hg
   ·exact .inr (.inl hg)
   ·exact .inr (.inr (.inl hg))
   ·cases hp
  ·intro x c kl y1 y2 w1 cnt1 hkey hlx hv hat hrg1 hlt hg1 hs1 hen
   have hkl : kl = Li x := by
    obtain ⟨x', ex, e2, -⟩ := Maps.keyOf_int_inv Tryz.underlying3 hkey
    cases ex
    exact e2
   subst hkl
   have hIx : I64 x := by
    obtain ⟨x', ex, -, hwf⟩ := Maps.keyOf_int_inv Tryz.underlying3 hkey
    cases ex
    have := wf_int hwf
    constructor <;> omega
   have hbt1 : But (fun g => g = W.heap.size) wr w1 := ⟨hg1.os, hg1.tape, hg1.output, hg1.size, fun i hi hne => hg1.block i hi (fun e => hne (Option.some.inj e))⟩
   have hx1 : Cx w1 n m _ := hxr.keep fun g hg => hbt1.block g (hxr.foot_lt hg) (fun e => by have := hFl g hg;omega)
   have y7 : w1.cell? ⟨n.c, 7, none⟩ = some (Ptr n.bk) := hx1.blk.cell 7
   have hSh := Shut_om w1 hx1 x hIx
   go_wp2_with (go_at_call 178;go_must ((with_reducible refine hSh.mono ?_);rintro r w2 ⟨rfl, hx2', hb2'⟩))
   have hom : n.om < W.heap.size := hFl _ Foot.om
   have hrg2 := hrg1.kept (grown_of_but hb2') (fun e => k2 (Option.some.inj e)) (fun e => by have := Option.some.inj e;omega)
   go_roundw
   case rel =>
    refine ⟨_, _, hrg2, fun i hi => hle i (by simp at hi;exact hi.1), ?_, (hbr.trans2 hbt1 (fun g hg => .inr (by rw [hg];exact hzw))).trans2 hb2' (fun g hg => .inl (by rw [hg];exact Foot.om))⟩
    rw [← sans_keep (hle x hlx)]
    exact hx2'
   case measure => rw [hrg2.left_eq, hrg.left_eq];exact hlt
end Go.Proofs.YtkeeofhjdffhbaaGreatDoor
namespace Go.Proofs.YtkeeofhjdffhbaaGreatDoor
open Go Go.RowKit Go.Dr
set_option maxRecDepth 100000 in
set_option maxHeartbeats 4000000 in
theorem Insert_nil (w : World) : Calls Tryz.prog 147 #[.slice none 0 0, .int .i64 0, .int .i64 0] w fun e w' => e = .returned (.tuple #[]) ∧ w' = w := by
 go_enter Tryz.func147, Tryz.ntmps147
 go_wp2
 refine wp_loop_rounds 1 ?_
 rw [rounds_succ]
 go_wp2
 go_end0
 exact ⟨rfl, rfl⟩
set_option maxRecDepth 100000 in
set_option maxHeartbeats 4000000 in
theorem Pdq_nil (k : Int) (w : World) : Calls Tryz.prog 111 #[.slice none 0 0, .int .i64 0, .int .i64 0, .int .i64 k] w fun e w' => e = .returned (.tuple #[]) ∧ w' = w := by
 go_enter Tryz.func111, Tryz.ntmps111
 go_wp2
 refine wp_loop_rounds 1 ?_
 rw [rounds_succ]
 go_wp2_with (go_at_call 147;(with_reducible refine (Insert_nil _).mono ?_);rintro r w2 ⟨rfl, rfl⟩)
 refine bodyPost_ret (v := .tuple #[]) (by simp [results, Tryz.results111, go_sem]) rfl ?_
 exact ⟨rfl, rfl⟩
set_option maxRecDepth 100000 in
set_option maxHeartbeats 4000000 in
theorem Len_zero (w : World) : Calls Tryz.prog 112 #[.int .u64 0] w fun e w' => ∃ k : Int, e = .returned (.int .i64 k) ∧ w' = w := by
 go_enter Tryz.func112, Tryz.ntmps112
 go_wp2
 go_ret
 exact ⟨_, rfl, rfl⟩
set_option maxRecDepth 100000 in
set_option maxHeartbeats 4000000 in
theorem Sort_nil (w : World) : Calls Tryz.prog 71 #[.slice none 0 0] w fun e w' => e = .returned (.tuple #[]) ∧ w' = w := by
 go_enter Tryz.func71, Tryz.ntmps71
 go_wp2_with first
  | (go_at_call 112;(with_reducible refine (Len_zero _).mono ?_);rintro r w2 ⟨k2, rfl, rfl⟩)
  | (go_at_call 111;(with_reducible refine (Pdq_nil _ _).mono ?_);rintro r w2 ⟨rfl, rfl⟩)
 go_end0
 exact ⟨rfl, rfl⟩
end Go.Proofs.YtkeeofhjdffhbaaGreatDoor
namespace Go.Proofs.YtkeeofhjdffhbaaGreatDoor
open Go Go.RowKit Go.Dr
variable {w w' : World} {n : Nm} {m : Mm} {q q' : Cq}
set_option maxRecDepth 100000 in
set_option maxHeartbeats 4000000 in
theorem Answering_out (w : World) (hx : Cx w n m q) (i : Int) (hi : I64 i) (ho : ∀ p ∈ q.live, p.1 ≠ i) : Calls Tryz.prog 59 #[Ptr n.c, .int .i64 i] w fun r w' => r = .returned (.tuple #[.pointer none, .bool false]) ∧ Below w.heap.size w w' := by
 have y9 : w.cell? ⟨n.c, 9, none⟩ = some (.map (some n.lm)) := hx.blk.cell 9
 have hk := (hx.live.out hi (fun p hp => by obtain ⟨p', hp', rfl⟩ := List.mem_map.1 hp;exact ho p' hp')).1
 go_enter Tryz.func59, Tryz.ntmps59
 go_wp2
 go_region
 all_goals go_wp2
 all_goals go_ret2
 all_goals exact ⟨rfl, (Below.refl _ _).drew⟩
set_option maxRecDepth 100000 in
set_option maxHeartbeats 4000000 in
/-- no answer of a stream that isn't live -/
theorem Head_out {F : Nat → Prop} {st vl e : Value} (w : World) (h : Cw w n q F) (i : Int) (hi : I64 i) (ho : ∀ p ∈ q.live, p.1 ≠ i) : Calls Tryz.prog 22 #[Ptr n.c, .int .i64 i, st, vl, e] w fun r w' => r = .returned (.int .i64 4) ∧ Below w.heap.size w w' := by
 obtain ⟨m, hx, rfl⟩ := h
 go_enter Tryz.func22, Tryz.ntmps22
 go_wp2_with (go_at_call 59;go_must ((with_reducible refine (Answering_out w hx i hi ho).mono ?_);rintro r w1 ⟨rfl, hb1⟩))
 go_ret
 exact ⟨rfl, hb1⟩
set_option maxRecDepth 100000 in
set_option maxHeartbeats 4000000 in
/-- no stream is live -/
theorem Live_none {F : Nat → Prop} (w : World) (h : Cw w n q F) (hl : q.live = []) : Calls Tryz.prog 33 #[Ptr n.c] w fun e w' => e = .returned (.slice none 0 0) ∧ Below w.heap.size w w' := by
 obtain ⟨m, hx, rfl⟩ := h
 have y9 : w.cell? ⟨n.c, 9, none⟩ = some (.map (some n.lm)) := hx.blk.cell 9
 obtain ⟨D, hown, -, -, -, hhas, -⟩ := hx.live
 have hhas : ∀ i : Int, Maps.has D (Li i) = false := fun i => by
  rw [hhas, hl]
  rfl
 rw [List.length_map] at hown
 go_enter Tryz.func33, Tryz.ntmps33
 go_wp2_with (first
  | (at_range;refine wpList_range_own _ rfl _ 121 rfl 3 132 keyedI Tryz.underlying121 Rp n.lm _ D rfl hown ?_;intro w0 hrg0 hg0 hs0)
  | fail)
 try go_frame
 have hbW0 : Below w.heap.size w w0 := ⟨hg0.os, hg0.tape, hg0.output, hg0.size, fun i hi => hg0.block i hi (by simp)⟩
 refine wp_loop_rounds 1 ?_
 rw [rounds_succ]
 go_wp2_with (first
  | (at_next;refine wpList_next_ranges _ rfl _ rfl 3 keyedI Rp (Value.int .i64) (fun v : Value => v) (fun key kl hkey => by obtain ⟨x, rfl, _⟩ := Maps.keyOf_int_inv Tryz.underlying3 hkey;exact ⟨x, rfl⟩) (fun v y _ => ⟨v, rfl⟩) n.lm w.heap.size _ _ _ _ rfl hrg0 ?_ ?_)
  | fail)
 ·intro _ hl0
  go_wp2_with (go_at_call 71;(with_reducible refine (Sort_nil _).mono ?_);rintro r w2 ⟨rfl, rfl⟩)
  go_ret
  exact ⟨rfl, hbW0⟩
 ·intro x c kl y1 y2 w1 cnt1 hkey hlx hv hat hrg1 hlt hg1 hs1 hen
  have hkl : kl = Li x := by
   obtain ⟨x', ex, e2, -⟩ := Maps.keyOf_int_inv Tryz.underlying3 hkey
   cases ex
   exact e2
  subst hkl
  rw [hhas] at hlx
  exact absurd hlx (by simp)
end Go.Proofs.YtkeeofhjdffhbaaGreatDoor
namespace Go.Proofs.YtkeeofhjdffhbaaGreatDoor
open Go Go.RowKit Go.Dr
variable {w w' : World} {n : Nm} {m m' : Mm} {q q' : Cq}
abbrev overN (code : Nat) : List Value := [.int .i64 5, .int .i64 0, S [], S [], S [], S [], .slice none 0 0, S [], .bool false, .int .i64 (code : Int)]
abbrev dropN (i code : Nat) : List Value := [.int .i64 4, .int .i64 (i : Int), S [], S [], S [], S [], .slice none 0 0, S [], .bool false, .int .i64 (code : Int)]
set_option maxRecDepth 100000 in
set_option maxHeartbeats 4000000 in
/-- the connection is over -/
theorem Fail_any {F : Nat → Prop} (w : World) (h : Cw w n q F) (code l : Nat) (hcode : code < 4294967296) (hdr : q.drained = false) (hl : q.last = l) (hll : l < 2147483648) (hbl : q.bytes.length ≤ 1000000) (hnl : q.news.length ≤ 1000000) :
  Calls Tryz.prog 92 #[Ptr n.c, .int .i64 (code : Int)] w fun e w' => e = .returned (.tuple #[]) ∧ Goes w n F w' { q with over := true, off := outs q, live := [], bytes := q.bytes ++ awayB l code, news := q.news ++ overN code } := by
 have g0 := GoesF.refl h
 obtain ⟨m, hx, rfl⟩ := h
 have y12 : w.cell? ⟨n.c, 12, none⟩ = some (.int .i64 (l : Int)) := by rw [← hl];exact hx.blk.cell 12
 have y17 : w.cell? ⟨n.c, 17, none⟩ = some (.bool false) := by rw [← hdr];exact hx.blk.cell 17
 have hW := Write_any (c0 := .int .i64 7) (c1 := .int .i64 0) (c2 := .int .i64 0) (c3 := S []) (c4 := .int .i64 0) (c5 := .slice none 0 0) (c6 := .int .i64 (code : Int)) (c7 := .int .i64 (l : Int)) (c8 := .int .i64 0) (c9 := .int .i64 0) (c10 := .int .i64 0) (c11 := .bool false) w g0.h (awayB l code) (fun w1 _ => pPut_Gow 0 0 code l (by decide) (by decide) hcode hll w1) (by rw [frB_length];simp [beP];omega)
 have HD := Lib.hid hdr
 have HL := Lib.hid hl
 clear hdr hl
 go_enter Tryz.func92, Tryz.ntmps92
 go_wp2_with first
  | (go_at_call 57;go_must ((with_reducible refine hW.mono ?_);rintro r w3 ⟨rfl, hg3⟩;obtain ⟨F3, k3⟩ := g0.step hg3;have hE := End_any w3 k3.h))
  | (go_at_call 127;go_must ((with_reducible refine hE.mono ?_);rintro r w4 ⟨rfl, hg4⟩;obtain ⟨F4, k4⟩ := k3.step hg4;have hT := Tell_any (h0 := .int .i64 5) (h1 := .int .i64 0) (h2 := S []) (h3 := S []) (h4 := S []) (h5 := S []) (h6 := .slice none 0 0) (h7 := S []) (h8 := .bool false) (h9 := .int .i64 (code : Int)) w4 k4.h (by intro u hu;simp only [List.mem_cons, List.not_mem_nil, or_false] at hu;rcases hu with rfl | rfl | rfl | rfl | rfl | rfl | rfl | rfl | rfl | rfl <;> rfl) (by show q.news.length ≤ _;omega)))
  | (go_at_call 128;go_must ((with_reducible refine hT.mono ?_);rintro r w5 ⟨rfl, hg5⟩;obtain ⟨F5, k5⟩ := k4.step hg5))
 go_end0
 exact ⟨rfl, k5.goes⟩
set_option maxRecDepth 100000 in
set_option maxHeartbeats 4000000 in
/-- a live stream is dropped -/
theorem Reset_live {F : Nat → Prop} (w : World) (h : Cw w n q F) (i code : Nat) (hi : i < 2147483648) (hcode : code < 4294967296) {s : Sp} (hs : ((i : Int), s) ∈ q.live) (hnh : ∀ p ∈ q.how, p.1 ≠ (i : Int)) (hqc : q.closed.length < 16) (hhl : q.how.length < 1000) (hbl : q.bytes.length ≤ 1000000) (hnl : q.news.length ≤ 1000000) :
  Calls Tryz.prog 95 #[Ptr n.c, .int .i64 (i : Int), .int .i64 (code : Int)] w fun e w' => e = .returned (.tuple #[]) ∧ Goes w n F w' { q with bytes := q.bytes ++ frB 3 0 i (beP code 4), live := sans q.live i, off := sans q.off i, closed := q.closed ++ [(i : Int)], how := q.how ++ [((i : Int), 5)], news := q.news ++ dropN i code } := by
 have g0 := GoesF.refl h
 have hI : I64 (i : Int) := by constructor <;> omega
 have hW := Write_any (c0 := .int .i64 3) (c1 := .int .i64 0) (c2 := .int .i64 (i : Int)) (c3 := S []) (c4 := .int .i64 0) (c5 := .slice none 0 0) (c6 := .int .i64 (code : Int)) (c7 := .int .i64 0) (c8 := .int .i64 0) (c9 := .int .i64 0) (c10 := .int .i64 0) (c11 := .bool false) w h (frB 3 0 i (beP code 4)) (fun w1 _ => pPut_Rst 0 i code (by decide) hi hcode w1) (by rw [frB_length];simp [beP];omega)
 go_enter Tryz.func95, Tryz.ntmps95
 go_wp2_with first
  | (go_at_call 57;go_must ((with_reducible refine hW.mono ?_);rintro r w3 ⟨rfl, hg3⟩;obtain ⟨F3, k3⟩ := g0.step hg3;obtain ⟨m3, hx3, eF3⟩ := k3.h;have y9 : w3.cell? ⟨n.c, 9, none⟩ = some (.map (some n.lm)) := hx3.blk.cell 9;have hk := (hx3.live.inn hI (b := m3.sb i) (List.mem_map.2 ⟨_, hs, rfl⟩)).1;have hSe := Settle_drop w3 k3.h (i : Int) 5 hI rfl hnh hqc hhl))
  | (go_at_call 129;go_must ((with_reducible refine hSe.mono ?_);rintro r w4 ⟨rfl, hg4⟩;obtain ⟨F4, k4⟩ := k3.step hg4;have hT := Tell_any (h0 := .int .i64 4) (h1 := .int .i64 (i : Int)) (h2 := S []) (h3 := S []) (h4 := S []) (h5 := S []) (h6 := .slice none 0 0) (h7 := S []) (h8 := .bool false) (h9 := .int .i64 (code : Int)) w4 k4.h (by intro u hu;simp only [List.mem_cons, List.not_mem_nil, or_false] at hu;rcases hu with rfl | rfl | rfl | rfl | rfl | rfl | rfl | rfl | rfl | rfl <;> rfl) (by show q.news.length ≤ _;omega)))
  | (go_at_call 128;go_must ((with_reducible refine hT.mono ?_);rintro r w5 ⟨rfl, hg5⟩;obtain ⟨F5, k5⟩ := k4.step hg5))
 go_end0
 exact ⟨rfl, k5.goes⟩
theorem goes_put5 {F : Nat → Prop} {w w4 : World} {xs : Array Value} {g : Nat} (hG : Goes w n F w4 q') (hR : Blk w4 g 263 xs) (hg : w.heap.size ≤ g) (b0 b1 b2 b3 b4 : Value) : Goes w n F (((((w4.setCell ⟨g, 0, none⟩ b0).setCell ⟨g, 1, none⟩ b1).setCell ⟨g, 2, none⟩ b2).setCell ⟨g, 3, none⟩ b3).setCell ⟨g, 4, none⟩ b4) q' := by
 obtain ⟨F5, h5, hb5, hs5⟩ := hG
 have hne5 : ¬ F5 g := fun hf => by
  have := h5.sort hf
  rw [kd_blk hR] at this
  exact absurd this (by decide)
 refine ⟨F5, ?_, ((((hb5.setCell (p := ⟨g, 0, none⟩) (.inr hg) _).setCell (p := ⟨g, 1, none⟩) (.inr hg) _).setCell (p := ⟨g, 2, none⟩) (.inr hg) _).setCell (p := ⟨g, 3, none⟩) (.inr hg) _).setCell (p := ⟨g, 4, none⟩) (.inr hg) _, hs5⟩
 obtain ⟨m5, hx5, rfl⟩ := h5
 refine ⟨m5, hx5.keep fun k hk => ?_, rfl⟩
 have hg5 : k ≠ g := fun e => hne5 (e ▸ hk)
 rw [Below.heap_setCell _ _ _ _ hg5, Below.heap_setCell _ _ _ _ hg5, Below.heap_setCell _ _ _ _ hg5, Below.heap_setCell _ _ _ _ hg5, Below.heap_setCell _ _ _ _ hg5]
/-- what comes of a frame: a fault of the connection -/
abbrev wholeM (st code : Int) : Value := .agg #[.int .i64 st, .bool false, .bool true, .int .i64 code, .bool true]
abbrev wrongM (st code : Int) : Value := .agg #[.int .i64 st, .bool false, .bool true, .int .i64 code, .bool false]
set_option maxRecDepth 100000 in
set_option maxHeartbeats 4000000 in
theorem Move_whole {F : Nat → Prop} (w : World) (h : Cw w n q F) (i kind st : Int) (e : Bool) (s2 : Int) (code l : Nat) (hcode : code < 4294967296) (hdr : q.drained = false) (hl : q.last = l) (hll : l < 2147483648) (hbl : q.bytes.length ≤ 1000000) (hnl : q.news.length ≤ 1000000)
  (hSt : Calls Tryz.prog 29 #[Ptr n.c, .int .i64 i] (w.alloc (.cells #[.int .i64 0, .bool false, .bool false, .int .i64 0, .bool false] 263)) fun r w' => r = .returned (.int .i64 st) ∧ w' = w.alloc (.cells #[.int .i64 0, .bool false, .bool false, .int .i64 0, .bool false] 263))
  (hCm : ∀ w : World, Calls Tryz.prog 180 #[.int .i64 st, .int .i64 kind, .bool e] w fun r w' => r = .returned (wholeM s2 code) ∧ Below w.heap.size w w') :
  Calls Tryz.prog 181 #[Ptr n.c, .int .i64 i, .int .i64 kind, .bool e] w fun r w' => r = .returned (.tuple #[wholeM s2 code, .bool false]) ∧ Goes w n F w' { q with over := true, off := outs q, live := [], bytes := q.bytes ++ awayB l code, news := q.news ++ overN code } := by
 have g0 := GoesF.refl h
 have hFlt : ∀ g, F g → g < w.heap.size := fun g hg => h.lt hg
 have hbA : Below w.heap.size w (w.alloc (.cells #[.int .i64 0, .bool false, .bool false, .int .i64 0, .bool false] 263)) := (Below.refl _ _).alloc (Nat.le_refl _) _
 have hR0 : Blk (w.alloc (.cells #[.int .i64 0, .bool false, .bool false, .int .i64 0, .bool false] 263)) w.heap.size 263 #[.int .i64 0, .bool false, .bool false, .int .i64 0, .bool false] := Blk.new _ _ _
 obtain ⟨W, eW⟩ : ∃ W, W = w.alloc (.cells #[.int .i64 0, .bool false, .bool false, .int .i64 0, .bool false] 263) := ⟨_, rfl⟩
 rw [← eW] at hSt hbA hR0
 have hzW : W.heap.size = w.heap.size + 1 := by rw [eW];simp
 have HZ := Lib.hid hzW
 clear hzW
 go_enter Tryz.func181, Tryz.ntmps181
 go_upto_region 1 with fail
 rw [← eW]
 clear eW
 go_upto_region 2 with first
  | (go_at_call 29;go_must ((with_reducible refine hSt.mono ?_);rintro r w1 ⟨rfl, e1⟩;have e2 := e1.symm;subst e2))
  | (go_at_call 180;go_must ((with_reducible refine (hCm _).mono ?_);rintro r w2 ⟨rfl, hb2⟩))
 have hz2 : w.heap.size < w2.heap.size := by have := hb2.size;have := HZ.out;omega
 refine wp_cut (R := fun X => Blk X w.heap.size 263 #[.int .i64 0, .bool false, .bool false, .int .i64 0, .bool false] ∧ Blk X w2.heap.size 263 #[.int .i64 s2, .bool false, .bool true, .int .i64 (code : Int), .bool true] ∧ GoesF w n F X q F) ⟨(hR0.on hb2).alloc _, Blk.new _ _ _, ((g0.on hbA).on hb2).on ((Below.refl _ _).alloc (Nat.le_refl _) _)⟩ ?_
 clear hSt hbA hR0 hb2
 rintro W3 ⟨hR3, hM3, g3⟩
 (have m0 : W3.cell? ⟨w2.heap.size, 0, none⟩ = some (.int .i64 s2) := hM3.cell 0;have m1 : W3.cell? ⟨w2.heap.size, 1, none⟩ = some (.bool false) := hM3.cell 1;have m2 : W3.cell? ⟨w2.heap.size, 2, none⟩ = some (.bool true) := hM3.cell 2;have m3 : W3.cell? ⟨w2.heap.size, 3, none⟩ = some (.int .i64 (code : Int)) := hM3.cell 3;have m4 : W3.cell? ⟨w2.heap.size, 4, none⟩ = some (.bool true) := hM3.cell 4)
 have hFa := Fail_any W3 g3.h code l hcode hdr hl hll hbl hnl
 have HD := Lib.hid hdr
 have HL := Lib.hid hl
 clear hdr hl
 go_wp2_with (go_at_call 92;go_must ((with_reducible refine hFa.mono ?_);rintro r w4 ⟨rfl, hg4⟩;have hbt := (let ⟨_, _, x, _⟩ := hg4;x);obtain ⟨F4, k4⟩ := g3.step hg4;have hR4 := hR3.but hbt (fun hf => by have := hFlt _ hf;omega);have hM4 := hM3.but hbt (fun hf => by have := hFlt _ hf;omega);(have o0 : w4.cell? ⟨w2.heap.size, 0, none⟩ = some (.int .i64 s2) := hM4.cell 0;have o1 : w4.cell? ⟨w2.heap.size, 1, none⟩ = some (.bool false) := hM4.cell 1;have o2 : w4.cell? ⟨w2.heap.size, 2, none⟩ = some (.bool true) := hM4.cell 2;have o3 : w4.cell? ⟨w2.heap.size, 3, none⟩ = some (.int .i64 (code : Int)) := hM4.cell 3;have o4 : w4.cell? ⟨w2.heap.size, 4, none⟩ = some (.bool true) := hM4.cell 4);(have z0 : w4.cell? ⟨w.heap.size, 0, none⟩ = some (.int .i64 0) := hR4.cell 0;have z1 : w4.cell? ⟨w.heap.size, 1, none⟩ = some (.bool false) := hR4.cell 1;have z2 : w4.cell? ⟨w.heap.size, 2, none⟩ = some (.bool false) := hR4.cell 2;have z3 : w4.cell? ⟨w.heap.size, 3, none⟩ = some (.int .i64 0) := hR4.cell 3;have z4 : w4.cell? ⟨w.heap.size, 4, none⟩ = some (.bool false) := hR4.cell 4);have v0 := hR4.free 0;have v1 := hR4.free 1;have v2 := hR4.free 2;have v3 := hR4.free 3;have v4 := hR4.free 4))
 refine bodyPost_ret (results_cell_tmp Tryz.results181 rfl rfl (run_loadVar_row _ w.heap.size 263 263 _ (0, 0) _ (put5 hR4 _ _ _ _ _) Tryz.underlying263 (by rfl) (by kernel_rfl))) rfl ⟨rfl, ?_⟩
 exact goes_put5 k4.goes hR4 (Nat.le_refl _) _ _ _ _ _
set_option maxRecDepth 100000 in
set_option maxHeartbeats 4000000 in
theorem Move_wrong {F : Nat → Prop} (w : World) (h : Cw w n q F) (i : Nat) (hi : i < 2147483648) (kind st : Int) (e : Bool) (s2 : Int) (code : Nat) (hcode : code < 4294967296) {s : Sp} (hs : ((i : Int), s) ∈ q.live) (hnh : ∀ p ∈ q.how, p.1 ≠ (i : Int)) (hqc : q.closed.length < 16) (hhl : q.how.length < 1000) (hbl : q.bytes.length ≤ 1000000) (hnl : q.news.length ≤ 1000000)
  (hSt : Calls Tryz.prog 29 #[Ptr n.c, .int .i64 (i : Int)] (w.alloc (.cells #[.int .i64 0, .bool false, .bool false, .int .i64 0, .bool false] 263)) fun r w' => r = .returned (.int .i64 st) ∧ w' = w.alloc (.cells #[.int .i64 0, .bool false, .bool false, .int .i64 0, .bool false] 263))
  (hCm : ∀ w : World, Calls Tryz.prog 180 #[.int .i64 st, .int .i64 kind, .bool e] w fun r w' => r = .returned (wrongM s2 code) ∧ Below w.heap.size w w') :
  Calls Tryz.prog 181 #[Ptr n.c, .int .i64 (i : Int), .int .i64 kind, .bool e] w fun r w' => r = .returned (.tuple #[wrongM s2 code, .bool false]) ∧ Goes w n F w' { q with bytes := q.bytes ++ frB 3 0 i (beP code 4), live := sans q.live i, off := sans q.off i, closed := q.closed ++ [(i : Int)], how := q.how ++ [((i : Int), 5)], news := q.news ++ dropN i code } := by
 have g0 := GoesF.refl h
 have hFlt : ∀ g, F g → g < w.heap.size := fun g hg => h.lt hg
 have hbA : Below w.heap.size w (w.alloc (.cells #[.int .i64 0, .bool false, .bool false, .int .i64 0, .bool false] 263)) := (Below.refl _ _).alloc (Nat.le_refl _) _
 have hR0 : Blk (w.alloc (.cells #[.int .i64 0, .bool false, .bool false, .int .i64 0, .bool false] 263)) w.heap.size 263 #[.int .i64 0, .bool false, .bool false, .int .i64 0, .bool false] := Blk.new _ _ _
 obtain ⟨W, eW⟩ : ∃ W, W = w.alloc (.cells #[.int .i64 0, .bool false, .bool false, .int .i64 0, .bool false] 263) := ⟨_, rfl⟩
 rw [← eW] at hSt hbA hR0
 have hzW : W.heap.size = w.heap.size + 1 := by rw [eW];simp
 have HZ := Lib.hid hzW
 clear hzW
 go_enter Tryz.func181, Tryz.ntmps181
 go_upto_region 1 with fail
 rw [← eW]
 clear eW
 go_upto_region 2 with first
  | (go_at_call 29;go_must ((with_reducible refine hSt.mono ?_);rintro r w1 ⟨rfl, e1⟩;have e2 := e1.symm;subst e2))
  | (go_at_call 180;go_must ((with_reducible refine (hCm _).mono ?_);rintro r w2 ⟨rfl, hb2⟩))
 have hz2 : w.heap.size < w2.heap.size := by have := hb2.size;have := HZ.out;omega
 refine wp_cut (R := fun X => Blk X w.heap.size 263 #[.int .i64 0, .bool false, .bool false, .int .i64 0, .bool false] ∧ Blk X w2.heap.size 263 #[.int .i64 s2, .bool false, .bool true, .int .i64 (code : Int), .bool false] ∧ GoesF w n F X q F) ⟨(hR0.on hb2).alloc _, Blk.new _ _ _, ((g0.on hbA).on hb2).on ((Below.refl _ _).alloc (Nat.le_refl _) _)⟩ ?_
 clear hSt hbA hR0 hb2
 rintro W3 ⟨hR3, hM3, g3⟩
 (have m0 : W3.cell? ⟨w2.heap.size, 0, none⟩ = some (.int .i64 s2) := hM3.cell 0;have m1 : W3.cell? ⟨w2.heap.size, 1, none⟩ = some (.bool false) := hM3.cell 1;have m2 : W3.cell? ⟨w2.heap.size, 2, none⟩ = some (.bool true) := hM3.cell 2;have m3 : W3.cell? ⟨w2.heap.size, 3, none⟩ = some (.int .i64 (code : Int)) := hM3.cell 3;have m4 : W3.cell? ⟨w2.heap.size, 4, none⟩ = some (.bool false) := hM3.cell 4)
 have hFa := Reset_live W3 g3.h i code hi hcode hs hnh hqc hhl hbl hnl
 go_wp2_with (go_at_call 95;go_must ((with_reducible refine hFa.mono ?_);rintro r w4 ⟨rfl, hg4⟩;have hbt := (let ⟨_, _, x, _⟩ := hg4;x);obtain ⟨F4, k4⟩ := g3.step hg4;have hR4 := hR3.but hbt (fun hf => by have := hFlt _ hf;omega);have hM4 := hM3.but hbt (fun hf => by have := hFlt _ hf;omega);(have o0 : w4.cell? ⟨w2.heap.size, 0, none⟩ = some (.int .i64 s2) := hM4.cell 0;have o1 : w4.cell? ⟨w2.heap.size, 1, none⟩ = some (.bool false) := hM4.cell 1;have o2 : w4.cell? ⟨w2.heap.size, 2, none⟩ = some (.bool true) := hM4.cell 2;have o3 : w4.cell? ⟨w2.heap.size, 3, none⟩ = some (.int .i64 (code : Int)) := hM4.cell 3;have o4 : w4.cell? ⟨w2.heap.size, 4, none⟩ = some (.bool false) := hM4.cell 4);(have z0 : w4.cell? ⟨w.heap.size, 0, none⟩ = some (.int .i64 0) := hR4.cell 0;have z1 : w4.cell? ⟨w.heap.size, 1, none⟩ = some (.bool false) := hR4.cell 1;have z2 : w4.cell? ⟨w.heap.size, 2, none⟩ = some (.bool false) := hR4.cell 2;have z3 : w4.cell? ⟨w.heap.size, 3, none⟩ = some (.int .i64 0) := hR4.cell 3;have z4 : w4.cell? ⟨w.heap.size, 4, none⟩ = some (.bool false) := hR4.cell 4);have v0 := hR4.free 0;have v1 := hR4.free 1;have v2 := hR4.free 2;have v3 := hR4.free 3;have v4 := hR4.free 4))
 refine bodyPost_ret (results_cell_tmp Tryz.results181 rfl rfl (run_loadVar_row _ w.heap.size 263 263 _ (0, 0) _ (put5 hR4 _ _ _ _ _) Tryz.underlying263 (by rfl) (by kernel_rfl))) rfl ⟨rfl, ?_⟩
 exact goes_put5 k4.goes hR4 (Nat.le_refl _) _ _ _ _ _
end Go.Proofs.YtkeeofhjdffhbaaGreatDoor
