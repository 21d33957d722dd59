/- Parts of the proof of wr_root: the texts Cnc8 HpkC CncA Law22o Law22p. -/
import Derived.Test.YtkeeofhjdffhbaaGreatDoorW29
set_option linter.unusedSimpArgs false
set_option linter.unusedVariables false
set_option linter.unnecessarySimpa false
namespace Go.Proofs.YtkeeofhjdffhbaaGreatDoor
open Go Go.RowKit Go.Dr
variable {w w' : World} {n : Nm} {m : Mm} {q q' : Cq}
set_option maxRecDepth 100000 in
set_option maxHeartbeats 4000000 in
theorem BookGrow_far (w : World) (hx : Cx w n m q) (x : Int) (hx1 : 1 ≤ x) (hx2 : x ≤ 2147483647) (hall : 2147483647 < q.all + x) : Calls Tryz.prog 184 #[Ptr n.bk, .int .i64 0, .int .i64 x] w fun e w' => e = .returned (.int .i64 11) ∧ w' = w := by
 have y : w.cell? ⟨n.bk, 0, none⟩ = some (.int .i64 q.all) := hx.book.cell 0
 have h1 : decide (x < 1) = false := decide_eq_false (by omega)
 have h1' : ¬ x < 1 := by omega
 have h2 : decide (2147483647 < x) = false := decide_eq_false (by omega)
 have h2' : ¬ 2147483647 < x := by omega
 have hwr : IntKind.i64.wrap (2147483647 - x) = 2147483647 - x := IntWalk.i64_in _ (by omega)
 have h3 : decide (2147483647 - x < q.all) = true := decide_eq_true (by omega)
 have h3' : 2147483647 - x < q.all := by omega
 go_enter Tryz.func184, Tryz.ntmps184
 go_wp2
 go_ret
 exact ⟨rfl, rfl⟩
set_option maxRecDepth 100000 in
set_option maxHeartbeats 4000000 in
/-- the connection's window grows too far -/
theorem Grow_far {F : Nat → Prop} {c1 c3 c4 c5 c6 c7 c9 c10 c11 : Value} (w : World) (h : Cw w n q F) (x : Int) (hx1 : 1 ≤ x) (hx2 : x ≤ 2147483647) (hall : 2147483647 < q.all + x) (hdr : q.drained = false) (l : Nat) (hl : q.last = l) (hll : l < 2147483648) (hbl : q.bytes.length ≤ 1000000) (hnl : q.news.length ≤ 1000000) :
  Calls Tryz.prog 135 #[Ptr n.c, .agg #[.int .i64 8, c1, .int .i64 0, c3, c4, c5, c6, c7, .int .i64 x, c9, c10, c11]] w fun r w' => r = .returned (.tuple #[]) ∧ Goes w n F w' (q.failed 3 l) := by
 have g0 := GoesF.refl h
 obtain ⟨W, eW⟩ : ∃ W, W = w.alloc (.cells #[.int .i64 8, c1, .int .i64 0, c3, c4, c5, c6, c7, .int .i64 x, c9, c10, c11] 34) := ⟨_, rfl⟩
 have hF : Blk W w.heap.size 34 #[.int .i64 8, c1, .int .i64 0, c3, c4, c5, c6, c7, .int .i64 x, c9, c10, c11] := by rw [eW];exact Blk.new _ _ _
 have hb : Below w.heap.size w W := by rw [eW];exact (Below.refl _ _).alloc (Nat.le_refl _) _
 have gW := g0.on hb
 have f2 : W.cell? ⟨w.heap.size, 2, none⟩ = some (.int .i64 0) := hF.cell 2
 have f8 : W.cell? ⟨w.heap.size, 8, none⟩ = some (.int .i64 x) := hF.cell 8
 obtain ⟨m, hxW, eFW⟩ := gW.h
 have y7 : W.cell? ⟨n.c, 7, none⟩ = some (Ptr n.bk) := hxW.blk.cell 7
 have hGr := BookGrow_far W hxW x hx1 hx2 hall
 have hGd := BookGrow_far W.drew hxW.drew x hx1 hx2 hall
 go_enter Tryz.func135, Tryz.ntmps135
 go_upto_region 2 with fail
 rw [← eW]
 clear eW
 go_region_with (first
  | (go_at_call 184;(with_reducible refine hGd.mono ?_);rintro r w1 ⟨rfl, e1⟩;have e2 := e1.symm;subst e2)
  | (go_at_call 184;go_must ((with_reducible refine hGr.mono ?_);rintro r w1 ⟨rfl, e1⟩;have e2 := e1.symm;subst e2)))
 all_goals (
  refine post_cut (R := fun X => GoesF w n F X q F) (by first | exact gW | exact gW.on (Below.refl _ _).drew) ?_
  clear hGr hGd hxW y7 f2 f8 gW hF hb
  rintro W3 g3
  have hFa := (show Calls Tryz.prog 92 #[Ptr n.c, .int .i64 3] W3 (fun e w' => e = .returned (.tuple #[]) ∧ Goes W3 n F w' (q.failed 3 l)) from Fail_any W3 g3.h 3 l (by decide) hdr hl hll hbl hnl)
  go_wp2_with (go_at_call 92;go_must ((with_reducible refine hFa.mono ?_);rintro r w3 ⟨rfl, hg3⟩;obtain ⟨F3, k3⟩ := g3.step hg3))
  refine bodyPost_ret (v := .tuple #[]) (by simp [results, Tryz.results135, go_sem]) rfl ?_
  exact ⟨rfl, k3.goes⟩)
set_option maxRecDepth 100000 in
set_option maxHeartbeats 8000000 in
theorem Placed_alone {F : Nat → Prop} {d : Bytes} {x4 x6 x7 x8 x9 x10 : Int} {x11 : Bool} {sa : Option Addr} {sk sc : Nat} {fl st : Int} (w : World) (h : Cw w n q F) (hgr : q.greeted = true) (hfo : q.fo = 0) :
  Calls Tryz.prog 93 #[Ptr n.c, .agg #[.int .i64 9, .int .i64 fl, .int .i64 st, S d, .int .i64 x4, .slice sa sk sc, .int .i64 x6, .int .i64 x7, .int .i64 x8, .int .i64 x9, .int .i64 x10, .bool x11, .bool false, .int .i64 0, .int .i64 0]] w fun r w' => r = .returned (.bool true) ∧ Below w.heap.size w w' := by
 obtain ⟨m, hx, rfl⟩ := h
 obtain ⟨W, eW⟩ : ∃ W, W = (w.alloc (.cells #[.int .i64 9, .int .i64 fl, .int .i64 st, S d, .int .i64 x4, .slice sa sk sc, .int .i64 x6, .int .i64 x7, .int .i64 x8, .int .i64 x9, .int .i64 x10, .bool x11, .bool false, .int .i64 0, .int .i64 0] 74)).alloc (.cells #[.int .i64 9, .int .i64 fl, .int .i64 st, S d, .int .i64 x4, .slice sa sk sc, .int .i64 x6, .int .i64 x7, .int .i64 x8, .int .i64 x9, .int .i64 x10, .bool x11] 34) := ⟨_, rfl⟩
 have hI : Blk W w.heap.size 74 #[.int .i64 9, .int .i64 fl, .int .i64 st, S d, .int .i64 x4, .slice sa sk sc, .int .i64 x6, .int .i64 x7, .int .i64 x8, .int .i64 x9, .int .i64 x10, .bool x11, .bool false, .int .i64 0, .int .i64 0] := by rw [eW];exact (Blk.new _ _ _).alloc _
 have hF : Blk W (w.heap.size + 1) 34 #[.int .i64 9, .int .i64 fl, .int .i64 st, S d, .int .i64 x4, .slice sa sk sc, .int .i64 x6, .int .i64 x7, .int .i64 x8, .int .i64 x9, .int .i64 x10, .bool x11] := by rw [eW];exact bnew_at _ _ _ _ (by simp)
 have hb : Below w.heap.size w W := by rw [eW];exact ((Below.refl _ _).alloc (Nat.le_refl _) _).alloc (by simp) _
 have hx2 := hx.on hb
 have y16 : W.cell? ⟨n.c, 16, none⟩ = some (.bool true) := by rw [← hgr];exact hx2.blk.cell 16
 have y14 : W.cell? ⟨n.c, 14, none⟩ = some (.int .i64 0) := by rw [← hfo];exact hx2.blk.cell 14
 have i12 : W.cell? ⟨w.heap.size, 12, none⟩ = some (.bool false) := hI.cell 12
 have i0 : W.cell? ⟨w.heap.size + 1, 0, none⟩ = some (.int .i64 9) := hF.cell 0
 go_enter Tryz.func93, Tryz.ntmps93
 go_upto_region 2 with fail
 rw [← eW]
 clear eW
 go_wp2
 go_ret
 exact ⟨rfl, hb⟩
set_option maxRecDepth 100000 in
set_option maxHeartbeats 8000000 in
/-- a block's rest that stands alone -/
theorem Item_alone {F : Nat → Prop} {d : Bytes} {x4 x6 x7 x8 x9 x10 : Int} {x11 : Bool} {sa : Option Addr} {sk sc : Nat} {fl st : Int} (w : World) (h : Cw w n q F) (hgr : q.greeted = true) (hfo : q.fo = 0) (hdr : q.drained = false) (l : Nat) (hl : q.last = l) (hll : l < 2147483648) (hbl : q.bytes.length ≤ 1000000) (hnl : q.news.length ≤ 1000000) :
  Calls Tryz.prog 58 #[Ptr n.c, .agg #[.int .i64 9, .int .i64 fl, .int .i64 st, S d, .int .i64 x4, .slice sa sk sc, .int .i64 x6, .int .i64 x7, .int .i64 x8, .int .i64 x9, .int .i64 x10, .bool x11, .bool false, .int .i64 0, .int .i64 0]] w fun r w' => r = .returned (.tuple #[]) ∧ Goes w n F w' (q.failed 1 l) := by
 have g0 := GoesF.refl h
 obtain ⟨W, eW⟩ : ∃ W, W = (w.alloc (.cells #[.int .i64 9, .int .i64 fl, .int .i64 st, S d, .int .i64 x4, .slice sa sk sc, .int .i64 x6, .int .i64 x7, .int .i64 x8, .int .i64 x9, .int .i64 x10, .bool x11, .bool false, .int .i64 0, .int .i64 0] 74)).alloc (.cells #[.bool false, .int .i64 0, .int .i64 0] 72) := ⟨_, rfl⟩
 have hI : Blk W w.heap.size 74 #[.int .i64 9, .int .i64 fl, .int .i64 st, S d, .int .i64 x4, .slice sa sk sc, .int .i64 x6, .int .i64 x7, .int .i64 x8, .int .i64 x9, .int .i64 x10, .bool x11, .bool false, .int .i64 0, .int .i64 0] := by rw [eW];exact (Blk.new _ _ _).alloc _
 have hF : Blk W (w.heap.size + 1) 72 #[.bool false, .int .i64 0, .int .i64 0] := by rw [eW];exact bnew_at _ _ _ _ (by simp)
 have hb : Below w.heap.size w W := by rw [eW];exact ((Below.refl _ _).alloc (Nat.le_refl _) _).alloc (by simp) _
 have g1 := g0.on hb
 have hP := Placed_alone (d := d) (x4 := x4) (x6 := x6) (x7 := x7) (x8 := x8) (x9 := x9) (x10 := x10) (x11 := x11) (sa := sa) (sk := sk) (sc := sc) (fl := fl) (st := st) W g1.h hgr hfo
 go_enter Tryz.func58, Tryz.ntmps58
 go_wp2_with first
  | (go_at_call 93;go_must (rw [← eW];clear eW;(with_reducible refine hP.mono ?_);rintro r w2 ⟨rfl, hb2⟩;have g2 := g1.on hb2;have hFa := (show Calls Tryz.prog 92 #[Ptr n.c, .int .i64 1] w2 (fun e w' => e = .returned (.tuple #[]) ∧ Goes w2 n F w' (q.failed 1 l)) from Fail_any w2 g2.h 1 l (by decide) hdr hl hll hbl hnl)))
  | (go_at_call 92;go_must ((with_reducible refine hFa.mono ?_);rintro r w3 ⟨rfl, hg3⟩;obtain ⟨F3, k3⟩ := g2.step hg3))
  | (go_at_call 97;go_must ((with_reducible refine (Rest_any _ k3.h).mono ?_);rintro r w6 ⟨rfl, hg6⟩;obtain ⟨F6, g6⟩ := k3.step hg6))
 go_end0
 exact ⟨rfl, g6.goes⟩
set_option maxRecDepth 100000 in
set_option maxHeartbeats 8000000 in
/-- a body's bytes of a stream whose client has ended -/
theorem Data_asked {F : Nat → Prop} {c5 c6 c7 c8 c9 c10 c11 : Value} (w : World) (h : Cw w n q F) (i : Nat) (hi0 : 0 < i) (hi : i < 2147483648) (hodd : (i : Int) % 2 = 1) (d : Bytes) (hd0 : 0 < d.length) (hdl : d.length ≤ 16384) {s : Sp} (hs : ((i : Int), s) ∈ q.live) (hst : s.st = 2) (hlast : ¬ q.last < i) (hl2 : q.last < 4294967296) (hnh : ∀ p ∈ q.how, p.1 ≠ (i : Int)) (hqc : q.closed.length < 16) (hhl : q.how.length < 1000) (hbl : q.bytes.length ≤ 900000) (hnl : q.news.length ≤ 1000000) :
  Calls Tryz.prog 130 #[Ptr n.c, .agg #[.int .i64 0, .int .i64 0, .int .i64 (i : Int), S d, .int .i64 0, c5, c6, c7, c8, c9, c10, c11]] w fun r w' => r = .returned (.tuple #[]) ∧ Goes w n F w' { q with bytes := q.bytes ++ frB 8 0 0 (beP d.length 4) ++ frB 3 0 i (beP 5 4), live := sans q.live i, off := sans q.off i, closed := q.closed ++ [(i : Int)], how := q.how ++ [((i : Int), 5)], news := q.news ++ dropN i 5 } := by
 have g0 := GoesF.refl h
 obtain ⟨W, eW⟩ : ∃ W, W = w.alloc (.cells #[.int .i64 0, .int .i64 0, .int .i64 (i : Int), S d, .int .i64 0, c5, c6, c7, c8, c9, c10, c11] 34) := ⟨_, rfl⟩
 have hF : Blk W w.heap.size 34 #[.int .i64 0, .int .i64 0, .int .i64 (i : Int), S d, .int .i64 0, c5, c6, c7, c8, c9, c10, c11] := by rw [eW];exact Blk.new _ _ _
 have hb : Below w.heap.size w W := by rw [eW];exact (Below.refl _ _).alloc (Nat.le_refl _) _
 have gW := g0.on hb
 have hFlt : ∀ g, F g → g < w.heap.size := fun g hg => h.lt hg
 (have f0 : W.cell? ⟨w.heap.size, 0, none⟩ = some (.int .i64 0) := hF.cell 0;have f1 : W.cell? ⟨w.heap.size, 1, none⟩ = some (.int .i64 0) := hF.cell 1;have f2 : W.cell? ⟨w.heap.size, 2, none⟩ = some (.int .i64 (i : Int)) := hF.cell 2;have f3 : W.cell? ⟨w.heap.size, 3, none⟩ = some (S d) := hF.cell 3;have f4 : W.cell? ⟨w.heap.size, 4, none⟩ = some (.int .i64 0) := hF.cell 4;have f5 : W.cell? ⟨w.heap.size, 5, none⟩ = some (c5) := hF.cell 5;have f6 : W.cell? ⟨w.heap.size, 6, none⟩ = some (c6) := hF.cell 6;have f7 : W.cell? ⟨w.heap.size, 7, none⟩ = some (c7) := hF.cell 7;have f8 : W.cell? ⟨w.heap.size, 8, none⟩ = some (c8) := hF.cell 8;have f9 : W.cell? ⟨w.heap.size, 9, none⟩ = some (c9) := hF.cell 9;have f10 : W.cell? ⟨w.heap.size, 10, none⟩ = some (c10) := hF.cell 10;have f11 : W.cell? ⟨w.heap.size, 11, none⟩ = some (c11) := hF.cell 11)
 have hSt : Calls Tryz.prog 29 #[Ptr n.c, .int .i64 (i : Int)] W (fun e w' => e = .returned (.int .i64 2) ∧ w' = W) := by
  have := State_live W gW.h (i : Int) s hs (by omega) hlast hodd hl2
  rwa [hst] at this
 have hCm := fun w => (show Calls Tryz.prog 180 #[.int .i64 2, .int .i64 0, .bool false] w (fun r w' => r = .returned (wrongM 5 5) ∧ Below w.heap.size w w') from come_2_0_false w)
 have b1 : bits .and .i64 0 8 = 0 := by decide
 have b2 : bits .and .i64 0 1 = 0 := by decide
 go_enter Tryz.func130, Tryz.ntmps130
 go_upto_region 1 with fail
 rw [← eW]
 clear eW
 go_upto_region 6 with first
  | (go_at_call 29;go_must ((with_reducible refine hSt.mono ?_);rintro r w1 ⟨rfl, e1⟩;have e2 := e1.symm;subst e2))
  | (go_at_call 180;go_must ((with_reducible refine (hCm _).mono ?_);rintro r w2 ⟨rfl, hb2⟩))
 have hz2 : w.heap.size < w2.heap.size := Nat.lt_of_lt_of_le hF.lt hb2.size
 refine wp_cut (R := fun X => Blk X w.heap.size 34 #[.int .i64 0, .int .i64 0, .int .i64 (i : Int), S d, .int .i64 0, c5, c6, c7, c8, c9, c10, c11] ∧ Blk X w2.heap.size 263 #[.int .i64 5, .bool false, .bool true, .int .i64 5, .bool false] ∧ GoesF w n F X q F) ⟨(hF.on hb2).alloc _, Blk.new _ _ _, (gW.on hb2).on ((Below.refl _ _).alloc (Nat.le_refl _) _)⟩ ?_
 clear f0 f1 f2 f3 f4 f5 f6 f7 f8 f9 f10 f11 hF hb gW hSt hb2
 rintro W3 ⟨hF3, hM3, g3⟩
 (have m0 : W3.cell? ⟨w2.heap.size, 0, none⟩ = some (.int .i64 5) := hM3.cell 0;have m1 : W3.cell? ⟨w2.heap.size, 1, none⟩ = some (.bool false) := hM3.cell 1;have m2 : W3.cell? ⟨w2.heap.size, 2, none⟩ = some (.bool true) := hM3.cell 2;have m3 : W3.cell? ⟨w2.heap.size, 3, none⟩ = some (.int .i64 5) := hM3.cell 3;have m4 : W3.cell? ⟨w2.heap.size, 4, none⟩ = some (.bool false) := hM3.cell 4)
 have hne : ¬ F w.heap.size := fun hf => by have := hFlt _ hf;omega
 have hnm : ¬ F w2.heap.size := fun hf => by have := hFlt _ hf;omega
 have hW1 := Write_any (c0 := .int .i64 8) (c1 := .int .i64 0) (c2 := .int .i64 0) (c3 := S []) (c4 := .int .i64 0) (c5 := .slice none 0 0) (c6 := .int .i64 0) (c7 := .int .i64 0) (c8 := .int .i64 (d.length : Int)) (c9 := .int .i64 0) (c10 := .int .i64 0) (c11 := .bool false) W3 g3.h (frB 8 0 0 (beP d.length 4)) (fun w1 _ => by have hw := pPut_Win 0 0 d.length (by decide) (by decide) (by omega) w1;exact hw) (by rw [frB_length, beP_length _ _ (by decide)];omega)
 have hn0 : decide ((0 : Int) < (d.length : Int)) = true := by simp;omega
 have hn0' : (0 : Int) < (d.length : Int) := by omega
 go_upto_region 11 with (go_at_call 57;go_must ((with_reducible refine hW1.mono ?_);rintro r w4 ⟨rfl, hg4⟩;have hbt4 := (let ⟨_, _, x, _⟩ := hg4;x);obtain ⟨F4, g4⟩ := g3.step hg4;have hF4 := hF3.but hbt4 (fun hf => by have := hFlt _ hf;omega);have hM4 := hM3.but hbt4 (fun hf => by have := hFlt _ hf;omega);(have o0 : w4.cell? ⟨w2.heap.size, 0, none⟩ = some (.int .i64 5) := hM4.cell 0;have o1 : w4.cell? ⟨w2.heap.size, 1, none⟩ = some (.bool false) := hM4.cell 1;have o2 : w4.cell? ⟨w2.heap.size, 2, none⟩ = some (.bool true) := hM4.cell 2;have o3 : w4.cell? ⟨w2.heap.size, 3, none⟩ = some (.int .i64 5) := hM4.cell 3;have o4 : w4.cell? ⟨w2.heap.size, 4, none⟩ = some (.bool false) := hM4.cell 4)))
 refine wp_cut (R := fun X => Blk X w.heap.size 34 #[.int .i64 0, .int .i64 0, .int .i64 (i : Int), S d, .int .i64 0, c5, c6, c7, c8, c9, c10, c11] ∧ ∃ F4, GoesF w n F X { q with bytes := q.bytes ++ frB 8 0 0 (beP d.length 4) } F4) ⟨hF4, F4, g4⟩ ?_
 clear m0 m1 m2 m3 m4 hF3 hM3 g3 hF4 hM4 g4 hg4 hbt4 F4 hW1
 rintro W4 ⟨hF4, F4, g4⟩
 have z2 : W4.cell? ⟨w.heap.size, 2, none⟩ = some (.int .i64 (i : Int)) := hF4.cell 2
 have hSt4 : Calls Tryz.prog 29 #[Ptr n.c, .int .i64 (i : Int)] (W4.alloc (.cells #[.int .i64 0, .bool false, .bool false, .int .i64 0, .bool false] 263)) (fun e w' => e = .returned (.int .i64 2) ∧ w' = W4.alloc (.cells #[.int .i64 0, .bool false, .bool false, .int .i64 0, .bool false] 263)) := by
  have := State_live (W4.alloc (.cells #[.int .i64 0, .bool false, .bool false, .int .i64 0, .bool false] 263)) (g4.h.on ((Below.refl _ _).alloc (Nat.le_refl _) _)) (i : Int) s hs (by omega) (by show ¬ q.last < (i : Int);omega) hodd hl2
  rwa [hst] at this
 have hbl4 : (q.bytes ++ frB 8 0 0 (beP d.length 4)).length ≤ 1000000 := by rw [List.length_append, frB_length, beP_length _ _ (by decide)];omega
 have hMv := Move_wrong W4 g4.h i hi 0 2 false 5 5 (by decide) hs hnh hqc hhl hbl4 hnl hSt4 hCm
 go_wp2_with (go_at_call 181;go_must ((with_reducible refine hMv.mono ?_);rintro r w3 ⟨rfl, hg3⟩;obtain ⟨F3, k3⟩ := g4.step hg3))
 refine bodyPost_ret (v := .tuple #[]) (by simp [results, Tryz.results130, go_sem]) rfl ?_
 exact ⟨rfl, k3.goes⟩
end Go.Proofs.YtkeeofhjdffhbaaGreatDoor
namespace Go.Proofs.YtkeeofhjdffhbaaGreatDoor
open Go Go.RowKit Go.Dr
set_option maxRecDepth 100000 in
set_option maxHeartbeats 4000000 in
/-- a block of one part -/
theorem Decode_part {d t : Nat} {v : Value} {tab lst : Int} (bs : Bytes) (f : F) (hL : PartRun d t bs f) (hbs0 : bs ≠ []) (hfc : fcost f ≤ lst) (w : World) (hD : Blk w d 163 #[.int .i64 tab, .int .i64 lst, Ptr t, .bool false]) (h : By w.heap.size w v bs) :
  Calls Tryz.prog 88 #[Ptr d, v] w fun e w' => (∃ a c, e = .returned (.tuple #[.slice a 1 c, .int .i64 0]) ∧ w'.ownsRow w.heap.size 41 3 (.slice a 1 c) 1 (fcells [f])) ∧ Below w.heap.size w w' := by
 have hmf : ∀ (fn : Fn) (first cap : Array Value) (w : World), (Instr.makeFunc fn first cap).run Tryz.prog w = .ok (.func fn first cap) w := fun _ _ _ _ => rfl
 have d3 : w.cell? ⟨d, 3, none⟩ = some (.bool false) := hD.cell 3
 have hdl := hD.lt
 obtain ⟨av, cv, rfl, hcv, hcm⟩ := h.form
 generalize hbl : bs.length = bl at *
 have hbl0 : (0 : Int) < (bl : Int) := by have := List.length_pos_iff.2 hbs0;omega
 have hrefl := Below.refl w.heap.size w
 obtain ⟨W, eW⟩ : ∃ W, W = ((w.alloc (.cells #[Ptr d] 94)).alloc (.cells #[.slice none 0 0] 42)).alloc (.cells #[.int .i64 0] 27) := ⟨_, rfl⟩
 have hb : Below w.heap.size w W := by rw [eW];exact ((hrefl.alloc (Nat.le_refl _) _).alloc (by simp) _).alloc (by simp;omega) _
 have hA : Blk W w.heap.size 94 #[Ptr d] := by rw [eW];exact ((Blk.new w _ _).alloc _).alloc _
 have hB : Blk W (w.heap.size + 1) 42 #[.slice none 0 0] := by rw [eW];exact (bnew_at (w.alloc (.cells #[Ptr d] 94)) _ _ _ (by simp)).alloc _
 have hC : Blk W (w.heap.size + 1 + 1) 27 #[.int .i64 0] := by rw [eW];exact bnew_at ((w.alloc (.cells #[Ptr d] 94)).alloc (.cells #[.slice none 0 0] 42)) _ _ _ (by simp)
 have hz : W.heap.size = w.heap.size + 3 := by rw [eW];simp
 have hDW := hD.on hb
 have d3 : W.cell? ⟨d, 3, none⟩ = some (.bool false) := hDW.cell 3
 have a0 : W.cell? ⟨w.heap.size, 0, none⟩ = some (Ptr d) := hA.cell 0
 have n1 : w.heap.size + 3 ≠ w.heap.size := by omega
 obtain ⟨W1, eW1⟩ : ∃ W1, W1 = W.alloc (.cells #[Ptr d, .slice av bl cv, .slice none 0 0, .int .i64 0, .int .i64 0] 219) := ⟨_, rfl⟩
 have hb1 : Below W.heap.size W W1 := by rw [eW1];exact (Below.refl _ _).alloc (Nat.le_refl _) _
 have hR1 : Blk W1 (w.heap.size + 3) 219 #[Ptr d, .slice av bl cv, .slice none 0 0, .int .i64 0, .int .i64 0] := by rw [eW1];exact bnew_at W _ _ _ hz
 have hD1 := hDW.on hb1
 have h1 : By w.heap.size W1 (.slice av bl cv) bs := (h.below hb).below (hb1.mono (by omega))
 have q2 : W1.cell? ⟨d, 2, none⟩ = some (Ptr t) := hD1.cell 2
 have hdR : d ≠ w.heap.size + 3 := by omega
 have hz1 : w.heap.size + 4 ≤ W1.heap.size := by have := hR1.lt;omega
 have hS1 : RS W1 (w.heap.size + 3) d w.heap.size (w.heap.size + 4) (bs ++ []) [] 0 0 := ⟨_, _, hR1, by rw [List.append_nil];exact h1, World.ownsRow_nil _ _ _ _⟩
 have hP := hL (w.heap.size + 3) w.heap.size (w.heap.size + 4) [] 0 0 [] W1 hS1 (by omega) (by omega) hz1 q2 hD1.lt hdR (by omega) (by omega) (by simp)
 have r1 : W1.cell? ⟨w.heap.size + 3, 1, none⟩ = some (.slice av bl cv) := hR1.cell 1
 have hA1 := hA.on hb1
 have hB1 := hB.on hb1
 have hC1 := hC.on hb1
 have hw1 : Below w.heap.size w W1 := hb.trans (hb1.mono (by omega))
 have HB := Lib.hid hbl
 clear hbl hS1 h1
 go_enter_defers Tryz.func88, Tryz.ntmps88
 go_upto_region 1 with fail
 rw [← eW]
 clear eW
 go_upto_region 5 with fail
 rw [← eW1]
 clear eW1 hz
 refine wp_loop_rounds 2 ?_
 rw [rounds_succ]
 go_wp2_with (go_at_call 118;go_must ((with_reducible refine hP.mono ?_);rintro e w6 ⟨rfl, hS6, hb6⟩))
 obtain ⟨v6, fv6, hR6, hBy6, ho6⟩ := hS6
 obtain ⟨a6, c6, rfl, -, -⟩ := hBy6.form
 obtain ⟨fa, fc, rfl⟩ := own_form ho6
 have kp : ∀ {g : Nat} {o : Obj}, W1.heap[g]? = some o → g < w.heap.size + 3 → w6.heap[g]? = some o := fun {g o} ho hg => (hb6.block g (lt_of_block ho) (by omega)).trans ho
 have hA6 : Blk w6 _ _ _ := kp hA1 (by omega)
 have hB6 : Blk w6 _ _ _ := kp hB1 (by omega)
 have hC6 : Blk w6 _ _ _ := kp hC1 (by omega)
 have hD6 : Blk w6 _ _ _ := kp hD1 (by omega)
 have x1 : w6.cell? ⟨w.heap.size + 3, 1, none⟩ = some (.slice a6 0 c6) := hR6.cell 1
 have x2 : w6.cell? ⟨w.heap.size + 3, 2, none⟩ = some (.slice fa 1 fc) := hR6.cell 2
 have x3 : w6.cell? ⟨w.heap.size + 3, 3, none⟩ = some (.int .i64 (0 + fcost f)) := hR6.cell 3
 have xa : w6.cell? ⟨w.heap.size, 0, none⟩ = some (Ptr d) := hA6.cell 0
 have xb : w6.cell? ⟨w.heap.size + 1, 0, none⟩ = some (.slice none 0 0) := hB6.cell 0
 have xc : w6.cell? ⟨w.heap.size + 1 + 1, 0, none⟩ = some (.int .i64 0) := hC6.cell 0
 have fb := hB6.free 0
 have fcc := hC6.free 0
 have xd : w6.cell? ⟨d, 1, none⟩ = some (.int .i64 lst) := hD6.cell 1
 obtain ⟨kc, hkc⟩ : ∃ kc : Int, kc = 0 + fcost f := ⟨_, rfl⟩
 rw [← hkc] at x3
 have hq : ¬ lst < kc := by omega
 clear hkc
 rw [rounds_succ]
 go_wp2
 go_region
 go_wp2
 refine leaves_cons (f := 117) (args := #[.pointer (some ⟨w.heap.size, 0, none⟩), .pointer (some ⟨w.heap.size + 1, 0, none⟩), .pointer (some ⟨w.heap.size + 1 + 1, 0, none⟩)]) (by simp) (by simp [go_sem]) ?_
 refine (catch_idle _ _ _ _).mono ?_
 rintro e u' w'' ⟨rfl, rfl, rfl⟩
 obtain ⟨Wf, eWf⟩ : ∃ Wf, Wf = ((w6.setCell ⟨w.heap.size + 1, 0, none⟩ (.slice fa 1 fc)).setCell ⟨w.heap.size + 1 + 1, 0, none⟩ (.int .i64 0)).drew := ⟨_, rfl⟩
 rw [← eWf]
 have hBf : Blk Wf (w.heap.size + 1) 42 #[.slice fa 1 fc] := by rw [eWf];exact ((hB6.set 0 _).other (by simp) _).drew
 have hCf : Blk Wf (w.heap.size + 1 + 1) 27 #[.int .i64 0] := by rw [eWf];exact ((hC6.other (by simp) _).set 0 _).drew
 have hof : Wf.ownsRow w.heap.size 41 3 (.slice fa 1 fc) 1 (fcells [f]) := by
  rw [eWf]
  have q1 := ownsRow_setCell_below (a := ⟨w.heap.size + 1, 0, none⟩) ho6 (by show w.heap.size + 1 < w.heap.size + 4;omega) (.slice fa 1 fc)
  have q2 := ownsRow_setCell_below (a := ⟨w.heap.size + 1 + 1, 0, none⟩) q1 (by show w.heap.size + 1 + 1 < w.heap.size + 4;omega) (.int .i64 0)
  exact own_dr (own_base q2 (by omega))
 have hbf : Below w.heap.size w Wf := by
  rw [eWf]
  exact (((hw1.trans (hb6.below (fun k hk => by rcases hk with e | e <;> omega) hw1.size)).setCell (p := ⟨w.heap.size + 1, 0, none⟩) (by simp) _).setCell (p := ⟨w.heap.size + 1 + 1, 0, none⟩) (by simp;omega) _).drew
 have z1 : Wf.cell? ⟨w.heap.size + 1, 0, none⟩ = some (.slice fa 1 fc) := hBf.cell 0
 have z2 : Wf.cell? ⟨w.heap.size + 1 + 1, 0, none⟩ = some (.int .i64 0) := hCf.cell 0
 clear eWf
 simp only [Leaves, settle]
 refine ⟨.tuple #[.slice fa 1 fc, .int .i64 0], ?_, ⟨fa, fc, rfl, hof⟩, hbf⟩
 simp [results, Tryz.results88, go_sem, z1, z2]
end Go.Proofs.YtkeeofhjdffhbaaGreatDoor
namespace Go.Proofs.YtkeeofhjdffhbaaGreatDoor
open Go Go.RowKit Go.Dr
variable {w w' : World} {n : Nm} {m : Mm} {q q' : Cq}
/-- a connection of which a stream was dropped -/
abbrev Cq.dropped (q : Cq) (i code : Nat) : Cq := { q with bytes := q.bytes ++ frB 3 0 i (beP code 4), live := sans q.live i, off := sans q.off i, closed := q.closed ++ [(i : Int)], how := q.how ++ [((i : Int), 5)], news := q.news ++ dropN i code }
set_option maxRecDepth 100000 in
set_option maxHeartbeats 4000000 in
theorem Trailer_asked {F : Nat → Prop} {vl : Value} (w : World) (h : Cw w n q F) (heq : q.endOf = false) (i : Nat) (hi0 : 0 < i) (hi2 : i < 2147483648) (hodd2 : (i : Int) % 2 = 1) {s : Sp} (hs : ((i : Int), s) ∈ q.live) (hst : s.st = 2) (hlast : ¬ q.last < i) (hl2 : q.last < 4294967296) (hnh : ∀ p ∈ q.how, p.1 ≠ (i : Int)) (hqc : q.closed.length < 16) (hhl : q.how.length < 1000) (hbl : q.bytes.length ≤ 1000000) (hnl : q.news.length ≤ 1000000) :
  Calls Tryz.prog 186 #[Ptr n.c, .int .i64 (i : Int), vl, .bool false] w fun r w' => r = .returned (.tuple #[]) ∧ Goes w n F w' (q.dropped i 5) := by
 have g0 := GoesF.refl h
 have hSt : Calls Tryz.prog 29 #[Ptr n.c, .int .i64 (i : Int)] (w.alloc (.cells #[.int .i64 0, .bool false, .bool false, .int .i64 0, .bool false] 263)) (fun e w' => e = .returned (.int .i64 2) ∧ w' = w.alloc (.cells #[.int .i64 0, .bool false, .bool false, .int .i64 0, .bool false] 263)) := by
  have := State_live (w.alloc (.cells #[.int .i64 0, .bool false, .bool false, .int .i64 0, .bool false] 263)) (h.on ((Below.refl _ _).alloc (Nat.le_refl _) _)) (i : Int) s hs (by omega) hlast hodd2 hl2
  rwa [hst] at this
 have hCm := fun w => (show Calls Tryz.prog 180 #[.int .i64 2, .int .i64 1, .bool false] w (fun r w' => r = .returned (wrongM 5 5) ∧ Below w.heap.size w w') from come_2_1_false w)
 have hMv := Move_wrong w h i hi2 1 2 false 5 5 (by decide) hs hnh hqc hhl hbl hnl hSt hCm
 obtain ⟨m, hx, eF⟩ := h
 have y15 : w.cell? ⟨n.c, 15, none⟩ = some (.bool false) := by rw [← heq];exact hx.blk.cell 15
 go_enter Tryz.func186, Tryz.ntmps186
 go_wp2_with (go_at_call 181;go_must ((with_reducible refine hMv.mono ?_);rintro r w3 ⟨rfl, hg3⟩;obtain ⟨F3, k3⟩ := g0.step hg3))
 refine bodyPost_ret (v := .tuple #[]) (by simp [results, Tryz.results186, go_sem]) rfl ?_
 exact ⟨rfl, k3.goes.on ((Below.refl _ _).alloc (Nat.le_refl _) _)⟩
set_option maxRecDepth 100000 in
set_option maxHeartbeats 8000000 in
/-- a block on a stream whose client has ended -/
theorem Piece_asked {F : Nat → Prop} {c4 c5 c6 c7 c8 c9 c10 c11 : Value} (w : World) (h : Cw w n q F) (i : Nat) (hi0 : 0 < i) (hi2 : i < 2147483648) (hodd2 : (i : Int) % 2 = 1) {s : Sp} (hs : ((i : Int), s) ∈ q.live) (hst : s.st = 2) (hlast : ¬ q.last < i) (hl2 : q.last < 4294967296) (hnh : ∀ p ∈ q.how, p.1 ≠ (i : Int)) (hqc : q.closed.length < 16) (hhl : q.how.length < 1000) (hbl : q.bytes.length ≤ 1000000) (hnl : q.news.length ≤ 1000000) (hi : I64 (i : Int)) (hfo : q.fo = i) (fl : Int) (hfl : fl = 4 ∨ fl = 5) (d : Bytes) (hdd : d = [130]) (hbrk : q.brk = false) (hlst : 300 ≤ q.lst) (heq : q.endOf = false) :
  Calls Tryz.prog 136 #[Ptr n.c, .agg #[.int .i64 1, .int .i64 fl, .int .i64 (i : Int), S d, c4, c5, c6, c7, c8, c9, c10, c11]] w fun r w' => r = .returned (.tuple #[]) ∧ Goes w n F w' (({ q with fo := 0 } : Cq).dropped i 5) := by
 have g0 := GoesF.refl h
 obtain ⟨m, hx, rfl⟩ := h
 have hdl : d.length ≤ 100 := by rw [hdd];simp
 have hd0 : 0 < d.length := by rw [hdd];simp
 have hB : n.B ≤ w.heap.size := Nat.le_trans (hx.lo _ (Foot.c _ _ _)) (Nat.le_of_lt hx.blk.lt)
 obtain ⟨W, eW⟩ : ∃ W, W = w.alloc (.cells #[.int .i64 1, .int .i64 fl, .int .i64 (i : Int), S d, c4, c5, c6, c7, c8, c9, c10, c11] 34) := ⟨_, rfl⟩
 have hF : Blk W w.heap.size 34 #[.int .i64 1, .int .i64 fl, .int .i64 (i : Int), S d, c4, c5, c6, c7, c8, c9, c10, c11] := by rw [eW];exact Blk.new _ _ _
 have hb : Below w.heap.size w W := by rw [eW];exact (Below.refl _ _).alloc (Nat.le_refl _) _
 have hWz : W.heap.size = w.heap.size + 1 := by rw [eW];simp
 have hxW := hx.on hb
 have y13 : W.cell? ⟨n.c, 13, none⟩ = some (.slice none 0 0) := hxW.blk.cell 13
 have f3 : W.cell? ⟨w.heap.size, 3, none⟩ = some (S d) := hF.cell 3
 have hcl := hx.blk.lt
 have HD := Lib.hid hdd
 clear hdd
 have hfb := bnd_fl hfl
 clear hfl
 go_enter Tryz.func136, Tryz.ntmps136
 go_upto_region 1 with fail
 rw [← eW]
 clear eW
 go_region_law (refine step_of ?_ (by rfl);refine wp_apStr _ _ _ _ rfl (w.heap.size + 1) 5 Tryz.underlying26 Tryz.underlying9 (by kernel_rfl) _ _ _ rfl (World.ownsRow_nil _ _ _ _) d rfl (by omega) (by show _ ≤ W.heap.size;omega) ?_;intro av cv w2 hv hb2;have hc2 : Blk w2 n.c _ _ := hxW.blk.drew.below hb2 (by omega);have z13 : w2.cell? ⟨n.c, 13, none⟩ = some (.slice none 0 0) := hc2.cell 13;have zf := hc2.free 13)
 all_goals (
  have hF2 : Blk w2 w.heap.size _ _ := hF.drew.below hb2 (by omega)
  have hx2 : Cx w2 n m q := hxW.drew.keep (fun g hg => hb2.block g (by have := hx.foot_lt hg;omega))
  have hb02 : Below w.heap.size w w2 := hb.drew.trans (hb2.mono (Nat.le_succ _))
  obtain ⟨bv, ebv⟩ : ∃ bv : Value, bv = .slice av d.length cv := ⟨_, rfl⟩
  have hC3 := hx2.blk.set 13 (.slice av d.length cv)
  have hF3 := hF2.other (p := ⟨n.c, 13, none⟩) (by show w.heap.size ≠ n.c;omega) (.slice av d.length cv)
  have z13' : (w2.setCell ⟨n.c, 13, none⟩ (.slice av d.length cv)).cell? ⟨n.c, 13, none⟩ = some (.slice av d.length cv) := hC3.cell 13
  have z14' : (w2.setCell ⟨n.c, 13, none⟩ (.slice av d.length cv)).cell? ⟨n.c, 14, none⟩ = some (.int .i64 (i : Int)) := by rw [← hfo];exact hC3.cell 14
  have zf1 : (w2.setCell ⟨n.c, 13, none⟩ (.slice av d.length cv)).cell? ⟨w.heap.size, 1, none⟩ = some (.int .i64 fl) := hF3.cell 1
  have zf13 := hC3.free 13
  have zf14 := hC3.free 14
  clear z13 zf
  go_upto_region 5 with fail
  go_region
  all_goals (
   go_upto_region 7 with fail
   have hbt : But (fun g => g = n.c) w2 (((w2.setCell ⟨n.c, 13, none⟩ (.slice av d.length cv)).setCell ⟨n.c, 14, none⟩ (.int .i64 0)).setCell ⟨n.c, 13, none⟩ (.slice none 0 0)).drew := ((((But.refl (fun g => g = n.c) w2).setCell (p := ⟨n.c, 13, none⟩) (.inl rfl) _).setCell (p := ⟨n.c, 14, none⟩) (.inl rfl) _).setCell (p := ⟨n.c, 13, none⟩) (.inl rfl) _).drew
   obtain ⟨hx4, k4⟩ := hx2.goesC hbt { q with fo := 0 } ((((hx2.blk.set 13 (.slice av d.length cv)).set 14 (.int .i64 0)).set 13 (.slice none 0 0)).drew) rfl rfl
   have hv4 := own_same hv (fun g hg => hbt.block g (hv.lt g hg.symm).2 (fun e => by have := (hv.lt g hg.symm).1;omega))
   have g4 := (g0.on hb02).comp k4
   refine wp_cut (R := fun W => Cx W n m { q with fo := 0 } ∧ GoesF w n (Foot n m q) W { q with fo := 0 } (Foot n m { q with fo := 0 }) ∧ By W.heap.size W (.slice av d.length cv) d) ⟨hx4, g4, own_by (by simpa using hv4)⟩ ?_
   clear hbt hx4 k4 hv4 g4 hx2 hF2 hF3 hC3 z13' z14' zf1 zf13 zf14 hc2 hv hb2 hb02 ebv bv hF hb hWz hxW y13 f3
   rintro W4 ⟨hx4, g4, hv4⟩
   have hdec := hx4.dec
   rw [show ({ q with fo := 0 } : Cq).brk = false from hbrk] at hdec
   have y5 : W4.cell? ⟨n.c, 5, none⟩ = some (Ptr n.d) := hx4.blk.cell 5
   have htd : n.t1 ≠ n.d := fun e1 => by
    obtain ⟨-, -, k1, k2, -⟩ := hx4.kinds
    rw [e1] at k2
    omega
   obtain ⟨bx, ebx⟩ : ∃ x : Value, x = .slice av d.length cv := ⟨_, rfl⟩
   rw [← ebx, HD.out] at hv4
   have hDec := Decode_part [130] fMethod (run_130 n.d n.t1) (by simp) (by show fcost fMethod ≤ q.lst;have : fcost fMethod = 42 := rfl;omega) W4 hdec hv4
   rw [ebx] at hDec
   clear ebx
   go_wp2_with first
    | (go_at_call 88;go_must ((with_reducible refine hDec.mono ?_);rintro r w5 ⟨⟨a5, c5', rfl, hrow⟩, hb5⟩;have hx5 := hx4.on hb5;have g5 := g4.on hb5;have y12 : w5.cell? ⟨n.c, 12, none⟩ = some (.int .i64 q.last) := hx5.blk.cell 12;have hTr := Trailer_asked (q := { q with fo := 0 }) (vl := .slice a5 1 c5') w5 g5.h heq i hi0 hi2 hodd2 hs hst hlast hl2 hnh hqc hhl hbl hnl))
    | (go_at_call 186;go_must ((with_reducible refine hTr.mono ?_);rintro r w6 ⟨rfl, hg6⟩;obtain ⟨F6, g6⟩ := g5.step hg6))
   go_end0
   exact ⟨rfl, g6.goes⟩))
set_option maxRecDepth 100000 in
set_option maxHeartbeats 8000000 in
theorem Headers_asked {F : Nat → Prop} {c4 c5 c6 c7 c8 c9 c10 c11 : Value} (w : World) (h : Cw w n q F) (i : Nat) (hi0 : 0 < i) (hi2 : i < 2147483648) (hodd2 : (i : Int) % 2 = 1) {s : Sp} (hs : ((i : Int), s) ∈ q.live) (hst : s.st = 2) (hlast : ¬ q.last < i) (hl2 : q.last < 4294967296) (hnh : ∀ p ∈ q.how, p.1 ≠ (i : Int)) (hqc : q.closed.length < 16) (hhl : q.how.length < 1000) (hbl : q.bytes.length ≤ 1000000) (hnl : q.news.length ≤ 1000000) (hi : I64 (i : Int)) (hodd : (i : Int).tmod 2 = 1) (e : Bool) (he : e = false) (d : Bytes) (hdd : d = [130]) (hbrk : q.brk = false) (hlst : 300 ≤ q.lst) :
  Calls Tryz.prog 131 #[Ptr n.c, .agg #[.int .i64 1, .int .i64 (if e then 5 else 4), .int .i64 (i : Int), S d, c4, c5, c6, c7, c8, c9, c10, c11]] w fun r w' => r = .returned (.tuple #[]) ∧ Goes w n F w' (({ q with fo := 0, endOf := e } : Cq).dropped i 5) := by
 have g0 := GoesF.refl h
 obtain ⟨m, hx, rfl⟩ := h
 obtain ⟨fl, efl⟩ : ∃ fl : Int, fl = if e then 5 else 4 := ⟨_, rfl⟩
 rw [← efl]
 have hfl : fl = 4 ∨ fl = 5 := by rw [efl];cases e <;> simp
 have hb1 : bits .and .i64 fl 1 = if e then 1 else 0 := by rw [efl];cases e <;> rfl
 clear efl
 have HD := Lib.hid hdd
 clear hdd
 obtain ⟨W, eW⟩ : ∃ W, W = w.alloc (.cells #[.int .i64 1, .int .i64 fl, .int .i64 (i : Int), S d, c4, c5, c6, c7, c8, c9, c10, c11] 34) := ⟨_, rfl⟩
 have hF : Blk W w.heap.size 34 #[.int .i64 1, .int .i64 fl, .int .i64 (i : Int), S d, c4, c5, c6, c7, c8, c9, c10, c11] := by rw [eW];exact Blk.new _ _ _
 have hb : Below w.heap.size w W := by rw [eW];exact (Below.refl _ _).alloc (Nat.le_refl _) _
 have hxW := hx.on hb
 have hcl := hx.blk.lt
 have f1 : W.cell? ⟨w.heap.size, 1, none⟩ = some (.int .i64 fl) := hF.cell 1
 have f2 : W.cell? ⟨w.heap.size, 2, none⟩ = some (.int .i64 (i : Int)) := hF.cell 2
 have y13 : W.cell? ⟨n.c, 13, none⟩ = some (.slice none 0 0) := hxW.blk.cell 13
 have y14 : W.cell? ⟨n.c, 14, none⟩ = some (.int .i64 q.fo) := hxW.blk.cell 14
 have y15 : W.cell? ⟨n.c, 15, none⟩ = some (.bool q.endOf) := hxW.blk.cell 15
 have v13 := hxW.blk.free 13
 have v14 := hxW.blk.free 14
 have v15 := hxW.blk.free 15
 cases e
 ·go_enter Tryz.func131, Tryz.ntmps131
  go_upto_region 3 with fail
  rw [← eW]
  clear eW
  go_region
  go_upto_region 4 with fail
  have hbt : But (fun g => g = n.c) W (((W.setCell ⟨n.c, 14, none⟩ (.int .i64 (i : Int))).setCell ⟨n.c, 15, none⟩ (.bool false)).setCell ⟨n.c, 13, none⟩ (.slice none 0 0)).drew := ((((But.refl (fun g => g = n.c) W).setCell (p := ⟨n.c, 14, none⟩) (.inl rfl) _).setCell (p := ⟨n.c, 15, none⟩) (.inl rfl) _).setCell (p := ⟨n.c, 13, none⟩) (.inl rfl) _).drew
  obtain ⟨hx4, k4⟩ := hxW.goesC hbt { q with fo := i, endOf := false } ((((hxW.blk.set 14 (.int .i64 (i : Int))).set 15 (.bool false)).set 13 (.slice none 0 0)).drew) rfl rfl
  have g4 := (g0.on hb).comp k4
  have hF4 := hF.but hbt (fun e => by omega)
  refine wp_cut (R := fun W => Cx W n m { q with fo := i, endOf := false } ∧ GoesF w n (Foot n m q) W { q with fo := i, endOf := false } (Foot n m { q with fo := i, endOf := false }) ∧ Blk W w.heap.size 34 #[.int .i64 1, .int .i64 fl, .int .i64 (i : Int), S d, c4, c5, c6, c7, c8, c9, c10, c11]) ⟨hx4, g4, hF4⟩ ?_
  clear hbt hx4 k4 g4 hF4 f1 f2 y13 y14 y15 v13 v14 v15 hxW hb hF
  rintro W4 ⟨hx4, g4, hF4⟩
  (have x0 : W4.cell? ⟨w.heap.size, 0, none⟩ = some (.int .i64 1) := hF4.cell 0;have x1 : W4.cell? ⟨w.heap.size, 1, none⟩ = some (.int .i64 fl) := hF4.cell 1;have x2 : W4.cell? ⟨w.heap.size, 2, none⟩ = some (.int .i64 (i : Int)) := hF4.cell 2;have x3 : W4.cell? ⟨w.heap.size, 3, none⟩ = some (S d) := hF4.cell 3;have x4 : W4.cell? ⟨w.heap.size, 4, none⟩ = some (c4) := hF4.cell 4;have x5 : W4.cell? ⟨w.heap.size, 5, none⟩ = some (c5) := hF4.cell 5;have x6 : W4.cell? ⟨w.heap.size, 6, none⟩ = some (c6) := hF4.cell 6;have x7 : W4.cell? ⟨w.heap.size, 7, none⟩ = some (c7) := hF4.cell 7;have x8 : W4.cell? ⟨w.heap.size, 8, none⟩ = some (c8) := hF4.cell 8;have x9 : W4.cell? ⟨w.heap.size, 9, none⟩ = some (c9) := hF4.cell 9;have x10 : W4.cell? ⟨w.heap.size, 10, none⟩ = some (c10) := hF4.cell 10;have x11 : W4.cell? ⟨w.heap.size, 11, none⟩ = some (c11) := hF4.cell 11)
  have hP := Piece_asked (c4 := c4) (c5 := c5) (c6 := c6) (c7 := c7) (c8 := c8) (c9 := c9) (c10 := c10) (c11 := c11) W4 g4.h i hi0 hi2 hodd2 hs hst hlast hl2 hnh hqc hhl hbl hnl hi rfl fl hfl d HD.out hbrk hlst rfl
  go_wp2_with first
   | (go_at_call 136;go_must ((with_reducible refine hP.mono ?_);rintro r w6 ⟨rfl, hg6⟩;obtain ⟨F6, g6⟩ := g4.step hg6))
  go_end0
  exact ⟨rfl, g6.goes⟩
 ·exact absurd he (by simp)
end Go.Proofs.YtkeeofhjdffhbaaGreatDoor
namespace Go.Proofs.YtkeeofhjdffhbaaGreatDoor
open Go Go.RowKit Go.Dr
variable {n : Nm}
/-- behind so many frames -/
def qw : Nat → Cq
 | 0 => { q22 bs22 with news := [], pre := 24 }
 | 1 => q22a bs22
 | 2 => ({ q22a bs22 with endOf := true } : Cq).asked ((1 : Nat) : Int) [47] true
 | _ => ({ ({ q22a bs22 with endOf := true } : Cq).asked ((1 : Nat) : Int) [47] true with endOf := true } : Cq).asked ((3 : Nat) : Int) [47] true
/-- .. the third stream is answered -/
def qwh : Cq := { qw 3 with bytes := (qw 3).bytes ++ frB 1 5 3 [137], live := [(((1 : Nat) : Int), { st := 2 })] ++ [], off := sans (qw 3).off ((3 : Nat) : Int), over := (qw 3).over || ((qw 3).drained && ([(((1 : Nat) : Int), ({ st := 2 } : Sp))] ++ []).isEmpty) }
/-- .. and what was written is taken -/
def qwo : Cq := { qwh with bytes := [] }
set_option maxHeartbeats 4000000 in
theorem Take_three {F : Nat → Prop} (vb : Value) (w : World) (h : Cw w n (q22 bs22) F) (hb : By w.heap.size w vb (prefB ++ (frB 4 0 0 [] ++ (frB 1 5 1 dS ++ frB 1 5 3 dS)))) :
  Calls Tryz.prog 19 #[Ptr n.c, vb] w fun e w' => ∃ v j, e = .returned v ∧ w'.ownsRow n.B 84 10 v j (qw 3).news ∧ Goes w n F w' (qw 3) := by
 have hT := Taken_any w h rfl vb [(({ ty := 4 } : Fr), ({} : Ft)), (({ ty := 1, fl := 5, st := 1, data := dS } : Fr), ({} : Ft)), (({ ty := 1, fl := 5, st := 3, data := dS } : Fr), ({} : Ft))] qw rfl
  (by intro k hk;match k, hk with | 0, _ => rfl | 1, _ => rfl | 2, _ => rfl)
  (fun W F1 hbW eW hW => by
   obtain ⟨m', hx', -⟩ := hW
   refine take_first (l := frB 4 0 0 [] ++ (frB 1 5 1 dS ++ frB 1 5 3 dS)) hx'.feed ?_ (by rw [List.length_append, List.length_append, frB_length, frB_length, frB_length];decide) (itemsF_3 tk_set0 (tk_headS 1 (by decide) (by decide) dS (by decide) 5 (.inr rfl)) (tk_headS 3 (by decide) (by decide) dS (by decide) 5 (.inr rfl)) (by decide) (by rw [List.length_append, List.length_append, frB_length, frB_length, frB_length];decide))
   rw [eW]
   obtain ⟨m, hx, rfl⟩ := h
   exact (hb.off hx.blk hx.no_b8 21 (.slice none 0 0)).mono (Nat.le_of_eq (by simp)))
  (fun k hk w1 F1 sa sc h1 hs => by
   match k, hk with
   | 0, _ => exact Item_set bs22 (by decide +kernel) w1 h1
   | 1, _ => exact Item_get w1 h1 rfl rfl 1 (by decide) (by decide) rfl true [132] [47] (fun a b => run_132 a b) (by decide) (by decide) (.inl rfl) (show (300 : Int) ≤ 4000 by decide) (show (0 : Int) ≤ 4096 by decide) rfl rfl (show ((0 : Nat) : Int) < 3 by decide) (show 0 < 1000 by decide) (show 0 < 1000 by decide) (show 0 ≤ 10000000 by decide) (fun p hp => by cases hp) (fun p hp => by cases hp) (show (0 : Int) < ((1 : Nat) : Int) by decide)
   | 2, _ => exact Item_get w1 h1 rfl rfl 3 (by decide) (by decide) rfl true [132] [47] (fun a b => run_132 a b) (by decide) (by decide) (.inl rfl) (by decide +kernel) (by decide +kernel) rfl rfl (by decide +kernel) (by decide +kernel) (by decide +kernel) (by decide +kernel) (by decide +kernel) (by decide +kernel) (by decide +kernel))
 exact hT
theorem Head_3 {F : Nat → Prop} (w : World) (h : Cw w n (qw 3) F) : Calls Tryz.prog 22 #[Ptr n.c, .int .i64 3, .int .i64 204, .slice none 0 0, .bool true] w fun r w' => r = .returned (.int .i64 0) ∧ Goes w n F w' qwh :=
 Head_204 w h 3 (by decide) (a := [(((1 : Nat) : Int), { st := 2 })]) (c := []) (s := { st := 2 }) rfl rfl rfl rfl rfl rfl (by decide +kernel)
end Go.Proofs.YtkeeofhjdffhbaaGreatDoor
namespace Go.Proofs.YtkeeofhjdffhbaaGreatDoor
open Go Go.RowKit Go.Dr
variable {n : Nm}
/-- the connection where a Take begins -/
def qn : Cq := { qwo with news := [] }
def qz0 : Cq := qn.failed 1 3
set_option maxHeartbeats 4000000 in
theorem Bad_0 {F : Nat → Prop} {sa : Option Addr} {sc : Nat} (w : World) (h : Cw w n qn F) : Calls Tryz.prog 58 #[Ptr n.c, itmV { ty := 1, fl := 5, st := 2, data := dS } (.slice sa 0 sc) {}] w fun r w' => r = .returned (.tuple #[]) ∧ Goes w n F w' qz0 :=
 Item_then (d := dS) (x4 := 0) (sa := sa) (sk := 0) (sc := sc) (x6 := 0) (x7 := 0) (x8 := 0) (x9 := 0) (x10 := 0) (x11 := false) (ty := 1) (fl := 5) (st := 2) (q' := qn.failed 1 3) w h rfl rfl (by decide) (by decide) 131 rfl (run_en Tryz.func131 (by kernel_rfl) rfl) (fun w1 F1 h1 => Headers_even w1 h1 2 (by decide) rfl 3 rfl (by decide) (by decide +kernel) (by decide +kernel)) _ rfl
def qz1 : Cq := qn.failed 1 3
set_option maxHeartbeats 4000000 in
theorem Bad_1 {F : Nat → Prop} {sa : Option Addr} {sc : Nat} (w : World) (h : Cw w n qn F) : Calls Tryz.prog 58 #[Ptr n.c, itmV { ty := 0, st := 5, data := [120] } (.slice sa 0 sc) {}] w fun r w' => r = .returned (.tuple #[]) ∧ Goes w n F w' qz1 :=
 Item_then (d := [120]) (x4 := 0) (sa := sa) (sk := 0) (sc := sc) (x6 := 0) (x7 := 0) (x8 := 0) (x9 := 0) (x10 := 0) (x11 := false) (ty := 0) (fl := 0) (st := 5) (q' := qn.failed 1 3) w h rfl rfl (by decide) (by decide) 130 rfl (run_en Tryz.func130 (by kernel_rfl) rfl) (fun w1 F1 h1 => Data_idle w1 h1 5 [120] (by decide) (.inr (.inl (by decide +kernel))) rfl 3 rfl (by decide) (by decide +kernel) (by decide +kernel)) _ rfl
def qz2 : Cq := qn.failed 1 3
set_option maxHeartbeats 4000000 in
theorem Bad_2 {F : Nat → Prop} {sa : Option Addr} {sc : Nat} (w : World) (h : Cw w n qn F) : Calls Tryz.prog 58 #[Ptr n.c, itmV { ty := 3, st := 7 } (.slice sa 0 sc) {}] w fun r w' => r = .returned (.tuple #[]) ∧ Goes w n F w' qz2 :=
 Item_then (d := []) (x4 := 0) (sa := sa) (sk := 0) (sc := sc) (x6 := 0) (x7 := 0) (x8 := 0) (x9 := 0) (x10 := 0) (x11 := false) (ty := 3) (fl := 0) (st := 7) (q' := qn.failed 1 3) w h rfl rfl (by decide) (by decide) 132 rfl (run_en Tryz.func132 (by kernel_rfl) rfl) (fun w1 F1 h1 => Gone_idle w1 h1 7 (by decide) (.inr (.inl (by decide +kernel))) rfl 3 rfl (by decide) (by decide +kernel) (by decide +kernel)) _ rfl
def qz3 : Cq := qn.failed 1 3
set_option maxHeartbeats 4000000 in
theorem Bad_3 {F : Nat → Prop} {sa : Option Addr} {sc : Nat} (w : World) (h : Cw w n qn F) : Calls Tryz.prog 58 #[Ptr n.c, itmV { ty := 8, st := 9, inc := 1 } (.slice sa 0 sc) {}] w fun r w' => r = .returned (.tuple #[]) ∧ Goes w n F w' qz3 :=
 Item_then (d := []) (x4 := 0) (sa := sa) (sk := 0) (sc := sc) (x6 := 0) (x7 := 0) (x8 := 1) (x9 := 0) (x10 := 0) (x11 := false) (ty := 8) (fl := 0) (st := 9) (q' := qn.failed 1 3) w h rfl rfl (by decide) (by decide) 135 rfl (run_en Tryz.func135 (by kernel_rfl) rfl) (fun w1 F1 h1 => Grow_idle w1 h1 9 (by decide) (.inr (.inl (by decide +kernel))) rfl 3 rfl (by decide) (by decide +kernel) (by decide +kernel)) _ rfl
def qz4 : Cq := qn.failed 1 3
set_option maxHeartbeats 4000000 in
theorem Bad_4 {F : Nat → Prop} {sa : Option Addr} {sc : Nat} (w : World) (h : Cw w n qn F) : Calls Tryz.prog 58 #[Ptr n.c, itmV { ty := 9, fl := 4, st := 1 } (.slice sa 0 sc) {}] w fun r w' => r = .returned (.tuple #[]) ∧ Goes w n F w' qz4 :=
 Item_alone (d := []) (x4 := 0) (sa := sa) (sk := 0) (sc := sc) (x6 := 0) (x7 := 0) (x8 := 0) (x9 := 0) (x10 := 0) (x11 := false) (fl := 4) (st := 1) w h rfl rfl rfl 3 rfl (by decide) (by decide +kernel) (by decide +kernel)
def qz5 : Cq := ({ qn with fo := 0, endOf := true, brk := true } : Cq).failed 9 3
set_option maxHeartbeats 4000000 in
theorem Bad_5 {F : Nat → Prop} {sa : Option Addr} {sc : Nat} (w : World) (h : Cw w n qn F) : Calls Tryz.prog 58 #[Ptr n.c, itmV { ty := 1, fl := 5, st := 5, data := [128] } (.slice sa 0 sc) {}] w fun r w' => r = .returned (.tuple #[]) ∧ Goes w n F w' qz5 :=
 Item_then (d := [128]) (x4 := 0) (sa := sa) (sk := 0) (sc := sc) (x6 := 0) (x7 := 0) (x8 := 0) (x9 := 0) (x10 := 0) (x11 := false) (ty := 1) (fl := 5) (st := 5) (q' := ({ qn with fo := 0, endOf := true, brk := true } : Cq).failed 9 3) w h rfl rfl (by decide) (by decide) 131 rfl (run_en Tryz.func131 (by kernel_rfl) rfl) (fun w1 F1 h1 => Headers_bad w1 h1 5 (by decide) (by decide) true [128] rfl rfl rfl 3 rfl (by decide) (by decide +kernel) (by decide +kernel)) _ rfl
def qz6 : Cq := qn.failed 3 3
set_option maxHeartbeats 4000000 in
theorem Bad_6 {F : Nat → Prop} {sa : Option Addr} {sc : Nat} (w : World) (h : Cw w n qn F) : Calls Tryz.prog 58 #[Ptr n.c, itmV { ty := 8, st := 0, inc := 2147483647 } (.slice sa 0 sc) {}] w fun r w' => r = .returned (.tuple #[]) ∧ Goes w n F w' qz6 :=
 Item_then (d := []) (x4 := 0) (sa := sa) (sk := 0) (sc := sc) (x6 := 0) (x7 := 0) (x8 := 2147483647) (x9 := 0) (x10 := 0) (x11 := false) (ty := 8) (fl := 0) (st := 0) (q' := qn.failed 3 3) w h rfl rfl (by decide) (by decide) 135 rfl (run_en Tryz.func135 (by kernel_rfl) rfl) (fun w1 F1 h1 => Grow_far w1 h1 2147483647 (by decide) (by decide) (by decide +kernel) rfl 3 rfl (by decide) (by decide +kernel) (by decide +kernel)) _ rfl
def qz7 : Cq := qn.failed 5 3
set_option maxHeartbeats 4000000 in
theorem Bad_7 {F : Nat → Prop} {sa : Option Addr} {sc : Nat} (w : World) (h : Cw w n qn F) : Calls Tryz.prog 58 #[Ptr n.c, itmV { ty := 0, st := 3, data := [120] } (.slice sa 0 sc) {}] w fun r w' => r = .returned (.tuple #[]) ∧ Goes w n F w' qz7 :=
 Item_then (d := [120]) (x4 := 0) (sa := sa) (sk := 0) (sc := sc) (x6 := 0) (x7 := 0) (x8 := 0) (x9 := 0) (x10 := 0) (x11 := false) (ty := 0) (fl := 0) (st := 3) (q' := qn.failed 5 3) w h rfl rfl (by decide) (by decide) 130 rfl (run_en Tryz.func130 (by kernel_rfl) rfl) (fun w1 F1 h1 => Data_done w1 h1 3 [120] (by decide) (by decide +kernel) (by decide +kernel) (by decide) (by decide +kernel) (by decide) (by decide +kernel) rfl 3 rfl (by decide) (by decide +kernel) (by decide +kernel)) _ rfl
def qz8 : Cq := ({ qn with bytes := qn.bytes ++ frB 8 0 0 (beP ([120] : Bytes).length 4) } : Cq).dropped 1 5
set_option maxHeartbeats 4000000 in
theorem Bad_8 {F : Nat → Prop} {sa : Option Addr} {sc : Nat} (w : World) (h : Cw w n qn F) : Calls Tryz.prog 58 #[Ptr n.c, itmV { ty := 0, st := 1, data := [120] } (.slice sa 0 sc) {}] w fun r w' => r = .returned (.tuple #[]) ∧ Goes w n F w' qz8 :=
 Item_then (d := [120]) (x4 := 0) (sa := sa) (sk := 0) (sc := sc) (x6 := 0) (x7 := 0) (x8 := 0) (x9 := 0) (x10 := 0) (x11 := false) (ty := 0) (fl := 0) (st := 1) (q' := ({ qn with bytes := qn.bytes ++ frB 8 0 0 (beP ([120] : Bytes).length 4) } : Cq).dropped 1 5) w h rfl rfl (by decide) (by decide) 130 rfl (run_en Tryz.func130 (by kernel_rfl) rfl) (fun w1 F1 h1 => Data_asked w1 h1 1 (by decide) (by decide) (by decide) [120] (by decide) (by decide) (s := { st := 2 }) (by decide +kernel) rfl (by decide +kernel) (by decide +kernel) (by decide +kernel) (by decide +kernel) (by decide +kernel) (by decide +kernel) (by decide +kernel)) _ rfl
def qz9 : Cq := ({ qn with fo := 0, endOf := false } : Cq).dropped 1 5
set_option maxHeartbeats 4000000 in
theorem Bad_9 {F : Nat → Prop} {sa : Option Addr} {sc : Nat} (w : World) (h : Cw w n qn F) : Calls Tryz.prog 58 #[Ptr n.c, itmV { ty := 1, fl := 4, st := 1, data := [130] } (.slice sa 0 sc) {}] w fun r w' => r = .returned (.tuple #[]) ∧ Goes w n F w' qz9 :=
 Item_then (d := [130]) (x4 := 0) (sa := sa) (sk := 0) (sc := sc) (x6 := 0) (x7 := 0) (x8 := 0) (x9 := 0) (x10 := 0) (x11 := false) (ty := 1) (fl := 4) (st := 1) (q' := ({ qn with fo := 0, endOf := false } : Cq).dropped 1 5) w h rfl rfl (by decide) (by decide) 131 rfl (run_en Tryz.func131 (by kernel_rfl) rfl) (fun w1 F1 h1 => Headers_asked w1 h1 1 (by decide) (by decide) (by decide) (s := { st := 2 }) (by decide +kernel) rfl (by decide +kernel) (by decide +kernel) (by decide +kernel) (by decide +kernel) (by decide +kernel) (by decide +kernel) (by decide +kernel) (by decide) (by decide) false rfl [130] rfl rfl (by decide +kernel)) _ rfl
end Go.Proofs.YtkeeofhjdffhbaaGreatDoor
