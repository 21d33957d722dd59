/- Parts of the proof of bk_root: the texts Cna1 Cna2 Cna3 Cna4 Cna5. -/
import Derived.Test.YtcodgfmombehoaaGreatDoorK23
set_option linter.unusedSimpArgs false
set_option linter.unusedVariables false
set_option linter.unnecessarySimpa false
set_option maxRecDepth 100000
set_option maxHeartbeats 64000000
namespace Go.Proofs.YtcodgfmombehoaaGreatDoor
open Go Go.RowKit Go.Dr
variable {w w' : World} {n : Nm} {m : Mm} {q : Cq}
theorem own_by {base : Nat} {w : World} {v : Value} {l : Bytes} (h : w.ownsRow base 5 1 v l.length (l.map B8)) : By w.heap.size w v l := Rd.own h
theorem bnd_fl {fl : Int} (h : fl = 4 ∨ fl = 5) : bits .and .i64 fl 4 = 4 := by rcases h with rfl | rfl <;> rfl
abbrev getB (lb : Bytes) : Bytes := 32 :: ([130] ++ ([134] ++ ([1, 1, 104] ++ (lb ++ []))))
abbrev Cq.asked (q : Cq) (i : Int) (p : Bytes) (e : Bool) : Cq := { q with fo := 0, tm := 0, last := i, live := q.live ++ [(i, { st := if e then 2 else 1 })], off := q.off ++ [(i, 0)], news := q.news ++ askV i [71, 69, 84] [104, 116, 116, 112] [104] p e }
theorem Piece_ok {F : Nat → Prop} {c4 c5 c6 c7 c8 c9 c10 c11 : Value} (w : World) (h : Cw w n q F) (i : Int) (hi : I64 i) (hi1 : ¬ i < 1) (hfo : q.fo = i) (fl : Int) (hfl : fl = 4 ∨ fl = 5) (lb p d : Bytes) (hdd : d = getB lb) (hL : ∀ a b, PartRun a b lb (fPath p)) (hlb : lb ≠ []) (hlbl : lb.length ≤ 50) (hp : p = [47] ∨ p = [47, 120]) (hlst : 300 ≤ q.lst) (htab : 0 ≤ q.tab) (hbrk : q.brk = false)
  (e : Bool) (heq : q.endOf = e) (hdr : q.drained = false) (hr : (q.live.length : Int) < q.str) (hll : q.live.length < 1000) (hol : q.off.length < 1000) (hnl : q.news.length ≤ 10000000) (hni : ∀ p ∈ q.live, p.1 ≠ i) (hno : ∀ p ∈ q.off, p.1 ≠ i) (hlast : q.last < i) :
  Calls Tryz.prog 92 #[Ptr n.c, .agg #[.int .i64 1, .int .i64 fl, .int .i64 i, S d, c4, c5, c6, c7, c8, c9, c10, c11]] w fun r w' => r = .returned (.tuple #[]) ∧ Goes w n F w' (q.asked i p e) := by
 have g0 := GoesF.refl h;obtain ⟨m, hx, rfl⟩ := h;have hpl : p.length ≤ 2 := (by rcases hp with rfl | rfl <;> decide);have hdl : d.length ≤ 100 := (by rw [hdd];simp;omega);have hd0 : 0 < d.length := (by rw [hdd];simp);have hB : n.B ≤ w.heap.size := Nat.le_trans (hx.lo _ (Foot.c _ _ _)) (Nat.le_of_lt hx.blk.lt);obtain ⟨W, eW⟩ : ∃ W, W = w.alloc (.cells #[.int .i64 1, .int .i64 fl, .int .i64 i, S d, c4, c5, c6, c7, c8, c9, c10, c11] 36) := ⟨_, rfl⟩;have hF : Blk W w.heap.size 36 #[.int .i64 1, .int .i64 fl, .int .i64 i, S d, c4, c5, c6, c7, c8, c9, c10, c11] := (by rw [eW];exact Blk.new _ _ _);have hb : Below w.heap.size w W := (by rw [eW];exact (Below.refl _ _).alloc (Nat.le_refl _) _);have hWz : W.heap.size = w.heap.size + 1 := (by rw [eW];simp);have hxW := hx.on hb;have y13 : W.cell? ⟨n.c, 13, none⟩ = some (.slice none 0 0) := hxW.blk.cell 13;have f3 : W.cell? ⟨w.heap.size, 3, none⟩ = some (S d) := hF.cell 3;have hcl := hx.blk.lt;have HD := Lib.hid hdd;clear hdd;have hfb := bnd_fl hfl;clear hfl;go_enter Tryz.func92, Tryz.ntmps92
 go_upto_region 1 with fail;rw [← eW];clear eW
 go_region_law (refine step_of ?_ (by rfl);refine wp_apStr _ _ _ _ rfl (w.heap.size + 1) 5 Tryz.underlying39 Tryz.underlying9 (by kernel_rfl) _ _ _ rfl (World.ownsRow_nil _ _ _ _) d rfl (by omega) (by show _ ≤ W.heap.size;omega) ?_;intro av cv w2 hv hb2;have hc2 : Blk w2 n.c _ _ := hxW.blk.drew.below hb2 (by omega);have z13 : w2.cell? ⟨n.c, 13, none⟩ = some (.slice none 0 0) := hc2.cell 13;have zf := hc2.free 13)
 all_goals (
  have hF2 : Blk w2 w.heap.size _ _ := hF.drew.below hb2 (by omega);have hx2 : Cx w2 n m q := hxW.drew.keep (fun g hg => hb2.block g (by have := hx.foot_lt hg;omega));have hb02 : Below w.heap.size w w2 := hb.drew.trans (hb2.mono (Nat.le_succ _));obtain ⟨bv, ebv⟩ : ∃ bv : Value, bv = .slice av d.length cv := ⟨_, rfl⟩;have hC3 := hx2.blk.set 13 (.slice av d.length cv);have hF3 := hF2.other (p := ⟨n.c, 13, none⟩) (by show w.heap.size ≠ n.c;omega) (.slice av d.length cv);have z13' : (w2.setCell ⟨n.c, 13, none⟩ (.slice av d.length cv)).cell? ⟨n.c, 13, none⟩ = some (.slice av d.length cv) := hC3.cell 13
  have z14' : (w2.setCell ⟨n.c, 13, none⟩ (.slice av d.length cv)).cell? ⟨n.c, 14, none⟩ = some (.int .i64 i) := (by rw [← hfo];exact hC3.cell 14)
  have zf1 : (w2.setCell ⟨n.c, 13, none⟩ (.slice av d.length cv)).cell? ⟨w.heap.size, 1, none⟩ = some (.int .i64 fl) := hF3.cell 1;have zf13 := hC3.free 13;have zf14 := hC3.free 14;clear z13 zf;go_upto_region 5 with fail
  go_region
  all_goals (
   go_upto_region 7 with fail;have hbt : But (fun g => g = n.c) w2 (((w2.setCell ⟨n.c, 13, none⟩ (.slice av d.length cv)).setCell ⟨n.c, 14, none⟩ (.int .i64 0)).setCell ⟨n.c, 13, none⟩ (.slice none 0 0)).drew := ((((But.refl (fun g => g = n.c) w2).setCell (p := ⟨n.c, 13, none⟩) (.inl rfl) _).setCell (p := ⟨n.c, 14, none⟩) (.inl rfl) _).setCell (p := ⟨n.c, 13, none⟩) (.inl rfl) _).drew;obtain ⟨hx4, k4⟩ := hx2.goesC hbt { q with fo := 0 } ((((hx2.blk.set 13 (.slice av d.length cv)).set 14 (.int .i64 0)).set 13 (.slice none 0 0)).drew) rfl rfl;have hv4 := own_same hv (fun g hg => hbt.block g (hv.lt g hg.symm).2 (fun e => by have := (hv.lt g hg.symm).1;omega));have g4 := (g0.on hb02).comp k4;refine wp_cut (R := fun W => Cx W n m { q with fo := 0 } ∧ GoesF w n (Foot n m q) W { q with fo := 0 } (Foot n m { q with fo := 0 }) ∧ By W.heap.size W (.slice av d.length cv) d) ⟨hx4, g4, own_by (by simpa using hv4)⟩ ?_;clear hbt hx4 k4 hv4 g4 hx2 hF2 hF3 hC3 z13' z14' zf1 zf13 zf14 hc2 hv hb2 hb02 ebv bv hF hb hWz hxW y13 f3;rintro W4 ⟨hx4, g4, hv4⟩;have hdec := hx4.dec;rw [show ({ q with fo := 0 } : Cq).brk = false from hbrk] at hdec;have y5 : W4.cell? ⟨n.c, 5, none⟩ = some (Ptr n.d) := hx4.blk.cell 5
   have htd : n.t1 ≠ n.d := fun e1 => by
    obtain ⟨-, -, k1, k2, -⟩ := hx4.kinds;rw [e1] at k2;omega
   obtain ⟨bx, ebx⟩ : ∃ x : Value, x = .slice av d.length cv := ⟨_, rfl⟩;rw [← ebx, HD.out] at hv4;have hDec := Decode_get lb p bx (hL _ _) hlb (by omega) (by show _ ≤ q.lst;omega) htab htd W4 hdec hx4.t1 hv4;rw [ebx] at hDec;clear ebx
   go_wp2_with first
    | (go_at_call 126;go_must ((with_reducible refine hDec.mono ?_);rintro r w5 ⟨⟨a5, c5', rfl, hrow⟩, hT5, hb5⟩;have hx5 := hx4.upD hb5 (fun g hg => .inr (by rw [hg];exact kd_blk hx4.t1)) (fun e1 => hx4.tt e1.symm) 0 q.brk (hx4.dec.but hb5 (fun e1 => htd e1.symm)) hT5;have k5 : GoesF W4 n (Foot n m { q with fo := 0 }) w5 { q with fo := 0, tm := 0 } (Foot n m { q with fo := 0, tm := 0 }) := ⟨⟨m, hx5, rfl⟩, hb5.more (fun g hg => by rw [hg];exact Foot.t1), fun g hg => .inl hg⟩;have g5 := g4.comp k5;have y12 : w5.cell? ⟨n.c, 12, none⟩ = some (.int .i64 q.last) := hx5.blk.cell 12;have hBeg := Begin_ok w5 k5.h i hi hi1 (.slice a5 4 c5') [71, 69, 84] [104, 116, 116, 112] [104] p e heq hdr hr hll hol hnl hni hno (fun w6 hb6 => Read_get p hp w6 (Fs.own (own_same hrow (fun g hg => hb6.block g (hrow.lt g hg.symm).2 (fun hf => by have := hx4.foot_lt (show Foot n m { q with fo := 0 } g from hf);have := (hrow.lt g hg.symm).1;omega))))) (fun w6 => Length_nil w6)))
    | (go_at_call 127;go_must ((with_reducible refine hBeg.mono ?_);rintro r w6 ⟨rfl, hg6⟩;obtain ⟨F6, g6⟩ := g5.step hg6))
   go_end0
   exact ⟨rfl, g6.goes⟩))
open Go Go.RowKit Go.Dr
variable {w w' : World} {n : Nm} {m : Mm} {q : Cq}
theorem Headers_ok {F : Nat → Prop} {c4 c5 c6 c7 c8 c9 c10 c11 : Value} (w : World) (h : Cw w n q F) (i : Int) (hi : I64 i) (hi1 : ¬ i < 1) (hodd : i.tmod 2 = 1) (e : Bool) (lb p d : Bytes) (hdd : d = getB lb) (hL : ∀ a b, PartRun a b lb (fPath p)) (hlb : lb ≠ []) (hlbl : lb.length ≤ 50) (hp : p = [47] ∨ p = [47, 120]) (hlst : 300 ≤ q.lst) (htab : 0 ≤ q.tab) (hbrk : q.brk = false)
  (hdr : q.drained = false) (hr : (q.live.length : Int) < q.str) (hll : q.live.length < 1000) (hol : q.off.length < 1000) (hnl : q.news.length ≤ 10000000) (hni : ∀ p ∈ q.live, p.1 ≠ i) (hno : ∀ p ∈ q.off, p.1 ≠ i) (hlast : q.last < i) :
  Calls Tryz.prog 87 #[Ptr n.c, .agg #[.int .i64 1, .int .i64 (if e then 5 else 4), .int .i64 i, S d, c4, c5, c6, c7, c8, c9, c10, c11]] w fun r w' => r = .returned (.tuple #[]) ∧ Goes w n F w' ({ q with endOf := e }.asked i p e) := by
 have g0 := GoesF.refl h;obtain ⟨m, hx, rfl⟩ := h;obtain ⟨fl, efl⟩ : ∃ fl : Int, fl = if e then 5 else 4 := ⟨_, rfl⟩
 rw [← efl];have hfl : fl = 4 ∨ fl = 5 := (by rw [efl];cases e <;> simp);have hb1 : bits .and .i64 fl 1 = if e then 1 else 0 := (by rw [efl];cases e <;> rfl)
 clear efl;have HD := Lib.hid hdd;clear hdd;obtain ⟨W, eW⟩ : ∃ W, W = w.alloc (.cells #[.int .i64 1, .int .i64 fl, .int .i64 i, S d, c4, c5, c6, c7, c8, c9, c10, c11] 36) := ⟨_, rfl⟩;have hF : Blk W w.heap.size 36 #[.int .i64 1, .int .i64 fl, .int .i64 i, S d, c4, c5, c6, c7, c8, c9, c10, c11] := (by rw [eW];exact Blk.new _ _ _);have hb : Below w.heap.size w W := (by rw [eW];exact (Below.refl _ _).alloc (Nat.le_refl _) _);have hxW := hx.on hb;have hcl := hx.blk.lt;have f1 : W.cell? ⟨w.heap.size, 1, none⟩ = some (.int .i64 fl) := hF.cell 1;have f2 : W.cell? ⟨w.heap.size, 2, none⟩ = some (.int .i64 i) := hF.cell 2;have y13 : W.cell? ⟨n.c, 13, none⟩ = some (.slice none 0 0) := hxW.blk.cell 13;have y14 : W.cell? ⟨n.c, 14, none⟩ = some (.int .i64 q.fo) := hxW.blk.cell 14;have y15 : W.cell? ⟨n.c, 15, none⟩ = some (.bool q.endOf) := hxW.blk.cell 15;have v13 := hxW.blk.free 13;have v14 := hxW.blk.free 14;have v15 := hxW.blk.free 15
 cases e
 ·go_enter Tryz.func87, Tryz.ntmps87
  go_upto_region 3 with fail;rw [← eW];clear eW
  go_region
  go_upto_region 4 with fail;have hbt : But (fun g => g = n.c) W (((W.setCell ⟨n.c, 14, none⟩ (.int .i64 i)).setCell ⟨n.c, 15, none⟩ (.bool false)).setCell ⟨n.c, 13, none⟩ (.slice none 0 0)).drew := ((((But.refl (fun g => g = n.c) W).setCell (p := ⟨n.c, 14, none⟩) (.inl rfl) _).setCell (p := ⟨n.c, 15, none⟩) (.inl rfl) _).setCell (p := ⟨n.c, 13, none⟩) (.inl rfl) _).drew;obtain ⟨hx4, k4⟩ := hxW.goesC hbt { q with fo := i, endOf := false } ((((hxW.blk.set 14 (.int .i64 i)).set 15 (.bool false)).set 13 (.slice none 0 0)).drew) rfl rfl;have g4 := (g0.on hb).comp k4;have hF4 := hF.but hbt (fun e => by omega);refine wp_cut (R := fun W => Cx W n m { q with fo := i, endOf := false } ∧ GoesF w n (Foot n m q) W { q with fo := i, endOf := false } (Foot n m { q with fo := i, endOf := false }) ∧ Blk W w.heap.size 36 #[.int .i64 1, .int .i64 fl, .int .i64 i, S d, c4, c5, c6, c7, c8, c9, c10, c11]) ⟨hx4, g4, hF4⟩ ?_;clear hbt hx4 k4 g4 hF4 f1 f2 y13 y14 y15 v13 v14 v15 hxW hb hF;rintro W4 ⟨hx4, g4, hF4⟩;obtain ⟨x0, x1, x2, x3, x4, x5, x6, x7, x8, x9, x10, x11⟩ := hF4.c12;have hP := Piece_ok (c4 := c4) (c5 := c5) (c6 := c6) (c7 := c7) (c8 := c8) (c9 := c9) (c10 := c10) (c11 := c11) W4 g4.h i hi hi1 rfl fl hfl lb p d HD.out hL hlb hlbl hp hlst htab hbrk false rfl hdr hr hll hol hnl hni hno hlast
  go_wp2_with first
   | (go_at_call 92;go_must ((with_reducible refine hP.mono ?_);rintro r w6 ⟨rfl, hg6⟩;obtain ⟨F6, g6⟩ := g4.step hg6))
  go_end0
  exact ⟨rfl, g6.goes⟩
 ·go_enter Tryz.func87, Tryz.ntmps87
  go_upto_region 3 with fail;rw [← eW];clear eW
  go_region
  go_upto_region 4 with fail;have hbt : But (fun g => g = n.c) W (((W.setCell ⟨n.c, 14, none⟩ (.int .i64 i)).setCell ⟨n.c, 15, none⟩ (.bool true)).setCell ⟨n.c, 13, none⟩ (.slice none 0 0)).drew := ((((But.refl (fun g => g = n.c) W).setCell (p := ⟨n.c, 14, none⟩) (.inl rfl) _).setCell (p := ⟨n.c, 15, none⟩) (.inl rfl) _).setCell (p := ⟨n.c, 13, none⟩) (.inl rfl) _).drew;obtain ⟨hx4, k4⟩ := hxW.goesC hbt { q with fo := i, endOf := true } ((((hxW.blk.set 14 (.int .i64 i)).set 15 (.bool true)).set 13 (.slice none 0 0)).drew) rfl rfl;have g4 := (g0.on hb).comp k4;have hF4 := hF.but hbt (fun e => by omega);refine wp_cut (R := fun W => Cx W n m { q with fo := i, endOf := true } ∧ GoesF w n (Foot n m q) W { q with fo := i, endOf := true } (Foot n m { q with fo := i, endOf := true }) ∧ Blk W w.heap.size 36 #[.int .i64 1, .int .i64 fl, .int .i64 i, S d, c4, c5, c6, c7, c8, c9, c10, c11]) ⟨hx4, g4, hF4⟩ ?_;clear hbt hx4 k4 g4 hF4 f1 f2 y13 y14 y15 v13 v14 v15 hxW hb hF;rintro W4 ⟨hx4, g4, hF4⟩;obtain ⟨x0, x1, x2, x3, x4, x5, x6, x7, x8, x9, x10, x11⟩ := hF4.c12;have hP := Piece_ok (c4 := c4) (c5 := c5) (c6 := c6) (c7 := c7) (c8 := c8) (c9 := c9) (c10 := c10) (c11 := c11) W4 g4.h i hi hi1 rfl fl hfl lb p d HD.out hL hlb hlbl hp hlst htab hbrk true rfl hdr hr hll hol hnl hni hno hlast
  go_wp2_with first
   | (go_at_call 92;go_must ((with_reducible refine hP.mono ?_);rintro r w6 ⟨rfl, hg6⟩;obtain ⟨F6, g6⟩ := g4.step hg6))
  go_end0
  exact ⟨rfl, g6.goes⟩
open Go Go.RowKit Go.Dr
variable {w w' : World} {n : Nm} {m : Mm} {q : Cq}
theorem Settings_none {F : Nat → Prop} {c2 c3 c4 c6 c7 c8 c9 c10 c11 : Value} {sa : Option Addr} {sc : Nat} (w : World) (h : Cw w n q F) (hbl : q.bytes.length ≤ 1000000) :
  Calls Tryz.prog 89 #[Ptr n.c, .agg #[.int .i64 4, .int .i64 0, c2, c3, c4, .slice sa 0 sc, c6, c7, c8, c9, c10, c11]] w fun r w' => r = .returned (.tuple #[]) ∧ Goes w n F w' { q with bytes := q.bytes ++ frB 4 1 0 [] } := by
 have g0 := GoesF.refl h;obtain ⟨W, eW⟩ : ∃ W, W = w.alloc (.cells #[.int .i64 4, .int .i64 0, c2, c3, c4, .slice sa 0 sc, c6, c7, c8, c9, c10, c11] 36) := ⟨_, rfl⟩;have hF : Blk W w.heap.size 36 #[.int .i64 4, .int .i64 0, c2, c3, c4, .slice sa 0 sc, c6, c7, c8, c9, c10, c11] := (by rw [eW];exact Blk.new _ _ _);have hb : Below w.heap.size w W := (by rw [eW];exact (Below.refl _ _).alloc (Nat.le_refl _) _);have f1 : W.cell? ⟨w.heap.size, 1, none⟩ = some (.int .i64 0) := hF.cell 1;have f5 : W.cell? ⟨w.heap.size, 5, none⟩ = some (.slice sa 0 sc) := hF.cell 5;have g1 := g0.on hb;have b01 : bits .and .i64 0 1 = 0 := (by decide);go_enter Tryz.func89, Tryz.ntmps89
 go_upto_region 3 with fail;rw [← eW];clear eW;refine wp_loop_rounds 1 ?_;rw [rounds_succ];have hW := Write_any (c0 := .int .i64 4) (c1 := .int .i64 1) (c2 := .int .i64 0) (c3 := S []) (c4 := .int .i64 0) (c5 := .slice none 0 0) (c6 := .int .i64 0) (c7 := .int .i64 0) (c8 := .int .i64 0) (c9 := .int .i64 0) (c10 := .int .i64 0) (c11 := .bool false) W g1.h (frB 4 1 0 []) (fun w1 _ => pPut_Set 1 0 (by decide) (by decide) w1) (by rw [frB_length];simp;omega)
 go_wp2_with first
  | (go_at_call 24;go_must ((with_reducible refine hW.mono ?_);rintro r w6 ⟨rfl, hg6⟩;obtain ⟨F6, g6⟩ := g1.step hg6))
 go_end0
 exact ⟨rfl, g6.goes⟩
open Go Go.RowKit Go.Dr
variable {w w' : World} {n : Nm} {m : Mm} {q : Cq}
def Rf : Value → Option (DataW Unit × List MemPlace)
 | .func (.func k) a b => if a = #[] ∧ b = #[] then some (.lit (.int .i64 (k : Int)), []) else none
 | .nilFunc => some (.nil, [])
 | _ => none
abbrev Ef (k : Nat) : DataW Unit := .lit (.int .i64 (k : Int))
theorem Rf_inv {v : Value} {k : Nat} {ps : List MemPlace} (h : Rf v = some (Ef k, ps)) : v = .func (.func k) #[] #[] := by
 unfold Rf at h
 split at h
 ·split at h
  ·rename_i k' a b hab
   simp only [Option.some.injEq, Prod.mk.injEq, DataW.lit.injEq, Lit.int.injEq] at h;obtain ⟨rfl, rfl⟩ := hab;have h2 := h.1;simp only [true_and] at h2;have : k' = k := (by exact_mod_cast h2)
   rw [this]
  ·cases h
 ·cases h
 ·cases h
theorem Rf_nil {v : Value} {ps : List MemPlace} (h : Rf v = some (DataW.nil, ps)) : v = .nilFunc := by
 unfold Rf at h
 split at h
 ·split at h
  ·cases h
  ·cases h
 ·rfl
 ·cases h
theorem zeroWay (w : World) : (zeroValue 141).run Tryz.prog w = .ok .nilFunc w := by kernel_rfl
abbrev FMp (w : World) (b : Nat) (l : List (Int × Nat)) : Prop := GMap Tryz.prog 3 Rf Li Ef w b l
section
variable {b : Nat} {l : List (Int × Nat)} {i : Int} {k : Nat}
theorem FMp.inn (h : FMp w b l) (hi : I64 i) (hx : (i, k) ∈ l) : (Instr.lookup 178 (.map (some b)) (.int .i64 i) false).run Tryz.prog w = .ok (.func (.func k) #[] #[]) w :=
 (GMap.inn h keyedI Tryz.underlying178 (zeroWay w) (zd := .nil) (zp := []) rfl (keyI hi) hx (fun _ _ e => Rf_inv e)).2
theorem FMp.out (h : FMp w b l) (hi : I64 i) (hx : ∀ p ∈ l, p.1 ≠ i) : (Instr.lookup 178 (.map (some b)) (.int .i64 i) false).run Tryz.prog w = .ok .nilFunc w :=
 (GMap.out h keyedI Tryz.underlying178 (zeroWay w) (zd := .nil) (zp := []) rfl (keyI hi) hx (fun _ _ e => Rf_nil e)).2
theorem FMp.put (h : FMp w b l) (i : Int) (hi : I64 i) (hx : ∀ p ∈ l, p.1 ≠ i) (hn : l.length < maxLen) (k : Nat) : ∃ w', (Instr.mapUpdate 178 (.map (some b)) (.int .i64 i) (.func (.func k) #[] #[])).run Tryz.prog w = .ok () w' ∧ FMp w' b (l ++ [(i, k)]) ∧ w.mapTurned w' b :=
 GMap.put Li_ne h keyedI Tryz.underlying178 (keyI hi) (Li_key i) hx hn (show Rf (.func (.func k) #[] #[]) = some (Ef k, []) by simp [Rf])
end
def wayV (k : Int) : Value :=
 if k = 0 then .func (.func 86) #[] #[] else if k = 1 then .func (.func 87) #[] #[] else if k = 3 then .func (.func 88) #[] #[] else if k = 4 then .func (.func 89) #[] #[] else if k = 6 then .func (.func 90) #[] #[] else if k = 8 then .func (.func 91) #[] #[] else if k = 9 then .func (.func 92) #[] #[] else .nilFunc
abbrev ways : List (Int × Nat) := [(0, 86), (1, 87), (3, 88), (4, 89), (6, 90), (8, 91), (9, 92)]
theorem way_look {b : Nat} (h : FMp w b ways) (k : Int) (hk : I64 k) : (Instr.lookup 178 (.map (some b)) (.int .i64 k) false).run Tryz.prog w = .ok (wayV k) w := by
 by_cases h0 : k = 0
 ·subst h0;exact FMp.inn h hk (by simp)
 by_cases h1 : k = 1
 ·subst h1;exact FMp.inn h hk (by simp)
 by_cases h3 : k = 3
 ·subst h3;exact FMp.inn h hk (by simp)
 by_cases h4 : k = 4
 ·subst h4;exact FMp.inn h hk (by simp)
 by_cases h6 : k = 6
 ·subst h6;exact FMp.inn h hk (by simp)
 by_cases h8 : k = 8
 ·subst h8;exact FMp.inn h hk (by simp)
 by_cases h9 : k = 9
 ·subst h9;exact FMp.inn h hk (by simp)
 rw [show wayV k = .nilFunc by simp [wayV, h0, h1, h3, h4, h6, h8, h9]];exact FMp.out h hk (by simp;omega)
theorem Way_any (k : Int) (hk : I64 k) (w : World) : Calls Tryz.prog 53 #[.int .i64 k] w fun e w' => e = .returned (wayV k) ∧ Below w.heap.size w w' := by
 have hmm := @run_makeMap Tryz.prog;have hb0 : Below w.heap.size w (w.alloc (.map #[] 0)) := (Below.refl _ _).alloc (Nat.le_refl _) _;have h0 : FMp (w.alloc (.map #[] 0)) w.heap.size [] := GMap.made (obj_new _ _ _ rfl);obtain ⟨w1, r1, h1, t1⟩ := h0.put 0 (by decide) (by simp) (by decide) 86;obtain ⟨w2, r2, h2, t2⟩ := h1.put 1 (by decide) (by simp) (by decide) 87;obtain ⟨w3, r3, h3, t3⟩ := h2.put 3 (by decide) (by simp) (by decide) 88;obtain ⟨w4, r4, h4, t4⟩ := h3.put 4 (by decide) (by simp) (by decide) 89;obtain ⟨w5, r5, h5, t5⟩ := h4.put 6 (by decide) (by simp) (by decide) 90;obtain ⟨w6, r6, h6, t6⟩ := h5.put 8 (by decide) (by simp) (by decide) 91;obtain ⟨w7, r7, h7, t7⟩ := h6.put 9 (by decide) (by simp) (by decide) 92;have hl := way_look h7 k hk
 have hb : Below w.heap.size w w7 := by
  have hS : ∀ {a b : World}, a.mapTurned b w.heap.size → w.heap.size ≤ a.heap.size → Below w.heap.size a b := fun t ha => (but_turn2 t).below (fun k hk => by omega) ha
  have z1 := hS t1 hb0.size;have y1 := hb0.trans z1;have y2 := y1.trans (hS t2 y1.size);have y3 := y2.trans (hS t3 y2.size);have y4 := y3.trans (hS t4 y3.size);have y5 := y4.trans (hS t5 y4.size);have y6 := y5.trans (hS t6 y5.size);exact y6.trans (hS t7 y6.size)
 clear h0 h1 h2 h3 h4 h5 h6 h7 t1 t2 t3 t4 t5 t6 t7 hb0;go_enter Tryz.func53, Tryz.ntmps53
 go_wp2;go_ret;exact ⟨rfl, hb⟩
open Go Go.RowKit Go.Dr
variable {w w' : World} {n : Nm} {m : Mm} {q q' : Cq}
theorem Placed_then {F : Nat → Prop} {d : Bytes} {x4 x6 x7 x8 x9 x10 : Int} {x11 : Bool} {sa : Option Addr} {sk sc : Nat} {ty fl st : Int} (w : World) (h : Cw w n q F) (hgr : q.greeted = true) (hfo : q.fo = 0) (h9 : ty ≠ 9) :
  Calls Tryz.prog 50 #[Ptr n.c, .agg #[.int .i64 ty, .int .i64 fl, .int .i64 st, S d, .int .i64 x4, .slice sa sk sc, .int .i64 x6, .int .i64 x7, .int .i64 x8, .int .i64 x9, .int .i64 x10, .bool x11, .bool false, .int .i64 0, .int .i64 0]] w fun r w' => r = .returned (.bool false) ∧ Below w.heap.size w w' := by
 obtain ⟨m, hx, rfl⟩ := h;obtain ⟨W, eW⟩ : ∃ W, W = (w.alloc (.cells #[.int .i64 ty, .int .i64 fl, .int .i64 st, S d, .int .i64 x4, .slice sa sk sc, .int .i64 x6, .int .i64 x7, .int .i64 x8, .int .i64 x9, .int .i64 x10, .bool x11, .bool false, .int .i64 0, .int .i64 0] 59)).alloc (.cells #[.int .i64 ty, .int .i64 fl, .int .i64 st, S d, .int .i64 x4, .slice sa sk sc, .int .i64 x6, .int .i64 x7, .int .i64 x8, .int .i64 x9, .int .i64 x10, .bool x11] 36) := ⟨_, rfl⟩;have hI : Blk W w.heap.size 59 #[.int .i64 ty, .int .i64 fl, .int .i64 st, S d, .int .i64 x4, .slice sa sk sc, .int .i64 x6, .int .i64 x7, .int .i64 x8, .int .i64 x9, .int .i64 x10, .bool x11, .bool false, .int .i64 0, .int .i64 0] := (by rw [eW];exact (Blk.new _ _ _).alloc _);have hF : Blk W (w.heap.size + 1) 36 #[.int .i64 ty, .int .i64 fl, .int .i64 st, S d, .int .i64 x4, .slice sa sk sc, .int .i64 x6, .int .i64 x7, .int .i64 x8, .int .i64 x9, .int .i64 x10, .bool x11] := (by rw [eW];exact bnew_at _ _ _ _ (by simp));have hb : Below w.heap.size w W := (by rw [eW];exact ((Below.refl _ _).alloc (Nat.le_refl _) _).alloc (by simp) _);have hx2 := hx.on hb;have y16 : W.cell? ⟨n.c, 16, none⟩ = some (.bool true) := (by rw [← hgr];exact hx2.blk.cell 16);have y14 : W.cell? ⟨n.c, 14, none⟩ = some (.int .i64 0) := (by rw [← hfo];exact hx2.blk.cell 14);have i12 : W.cell? ⟨w.heap.size, 12, none⟩ = some (.bool false) := hI.cell 12;have i0 : W.cell? ⟨w.heap.size + 1, 0, none⟩ = some (.int .i64 ty) := hF.cell 0;go_enter Tryz.func50, Tryz.ntmps50
 go_upto_region 2 with fail;rw [← eW];clear eW;go_wp2;go_ret;exact ⟨congrArg (fun b => Ending.returned (Value.bool b)) (show (ty == 9) = false by simpa using h9), hb⟩
theorem Placed_first {F : Nat → Prop} {d : Bytes} {x4 x6 x7 x8 x9 x10 : Int} {x11 : Bool} {sa : Option Addr} {sk sc : Nat} {st : Int} (w : World) (h : Cw w n q F) (hgr : q.greeted = false) :
  Calls Tryz.prog 50 #[Ptr n.c, .agg #[.int .i64 4, .int .i64 0, .int .i64 st, S d, .int .i64 x4, .slice sa sk sc, .int .i64 x6, .int .i64 x7, .int .i64 x8, .int .i64 x9, .int .i64 x10, .bool x11, .bool false, .int .i64 0, .int .i64 0]] w fun r w' => r = .returned (.bool false) ∧ Below w.heap.size w w' := by
 obtain ⟨m, hx, rfl⟩ := h;obtain ⟨W, eW⟩ : ∃ W, W = (w.alloc (.cells #[.int .i64 4, .int .i64 0, .int .i64 st, S d, .int .i64 x4, .slice sa sk sc, .int .i64 x6, .int .i64 x7, .int .i64 x8, .int .i64 x9, .int .i64 x10, .bool x11, .bool false, .int .i64 0, .int .i64 0] 59)).alloc (.cells #[.int .i64 4, .int .i64 0, .int .i64 st, S d, .int .i64 x4, .slice sa sk sc, .int .i64 x6, .int .i64 x7, .int .i64 x8, .int .i64 x9, .int .i64 x10, .bool x11] 36) := ⟨_, rfl⟩;have hI : Blk W w.heap.size 59 #[.int .i64 4, .int .i64 0, .int .i64 st, S d, .int .i64 x4, .slice sa sk sc, .int .i64 x6, .int .i64 x7, .int .i64 x8, .int .i64 x9, .int .i64 x10, .bool x11, .bool false, .int .i64 0, .int .i64 0] := (by rw [eW];exact (Blk.new _ _ _).alloc _);have hF : Blk W (w.heap.size + 1) 36 #[.int .i64 4, .int .i64 0, .int .i64 st, S d, .int .i64 x4, .slice sa sk sc, .int .i64 x6, .int .i64 x7, .int .i64 x8, .int .i64 x9, .int .i64 x10, .bool x11] := (by rw [eW];exact bnew_at _ _ _ _ (by simp));have hb : Below w.heap.size w W := (by rw [eW];exact ((Below.refl _ _).alloc (Nat.le_refl _) _).alloc (by simp) _);have hx2 := hx.on hb;have y16 : W.cell? ⟨n.c, 16, none⟩ = some (.bool false) := (by rw [← hgr];exact hx2.blk.cell 16);have i12 : W.cell? ⟨w.heap.size, 12, none⟩ = some (.bool false) := hI.cell 12;have i0 : W.cell? ⟨w.heap.size + 1, 0, none⟩ = some (.int .i64 4) := hF.cell 0;have i1 : W.cell? ⟨w.heap.size + 1, 1, none⟩ = some (.int .i64 0) := hF.cell 1;have b01 : bits .and .i64 0 1 = 0 := (by decide);go_enter Tryz.func50, Tryz.ntmps50
 go_upto_region 2 with fail;rw [← eW];clear eW;go_wp2;go_ret;exact ⟨rfl, hb⟩
theorem Item_do {F : Nat → Prop} {d : Bytes} {x4 x6 x7 x8 x9 x10 : Int} {x11 : Bool} {sa : Option Addr} {sk sc : Nat} {ty fl st : Int} (w : World) (h : Cw w n q F) (hty : I64 ty) (k : Nat) (hk : wayV ty = .func (.func k) #[] #[]) (hEn : ∀ (args : Array Value) (w : World), (callFunc k args).run Tryz.prog w = .ok (.enter k args) w)
  (hPl : ∀ w1 F1, Cw w1 n q F1 → Calls Tryz.prog 50 #[Ptr n.c, .agg #[.int .i64 ty, .int .i64 fl, .int .i64 st, S d, .int .i64 x4, .slice sa sk sc, .int .i64 x6, .int .i64 x7, .int .i64 x8, .int .i64 x9, .int .i64 x10, .bool x11, .bool false, .int .i64 0, .int .i64 0]] w1 fun r w' => r = .returned (.bool false) ∧ Below w1.heap.size w1 w')
  (hDo : ∀ w1 F1, But F w w1 → Cw w1 n { q with greeted := true } F1 → Calls Tryz.prog k #[Ptr n.c, .agg #[.int .i64 ty, .int .i64 fl, .int .i64 st, S d, .int .i64 x4, .slice sa sk sc, .int .i64 x6, .int .i64 x7, .int .i64 x8, .int .i64 x9, .int .i64 x10, .bool x11]] w1 fun r w' => r = .returned (.tuple #[]) ∧ Goes w1 n F1 w' q') (q2 : Cq) (hq2 : ({ q' with over := q'.over || (q'.drained && q'.live.isEmpty) } : Cq) = q2) :
  Calls Tryz.prog 26 #[Ptr n.c, .agg #[.int .i64 ty, .int .i64 fl, .int .i64 st, S d, .int .i64 x4, .slice sa sk sc, .int .i64 x6, .int .i64 x7, .int .i64 x8, .int .i64 x9, .int .i64 x10, .bool x11, .bool false, .int .i64 0, .int .i64 0]] w fun r w' => r = .returned (.tuple #[]) ∧ Goes w n F w' q2 := by
 have g0 := GoesF.refl h;obtain ⟨m, hx, rfl⟩ := h;have hW := Way_any ty hty;rw [hk] at hW;have hnq : ∀ w : World, (binOp .neq 141 (.func (.func k) #[] #[]) .nilFunc).run Tryz.prog w = .ok (.bool true) w := fun w => by kernel_rfl
 obtain ⟨W, eW⟩ : ∃ W, W = (w.alloc (.cells #[.int .i64 ty, .int .i64 fl, .int .i64 st, S d, .int .i64 x4, .slice sa sk sc, .int .i64 x6, .int .i64 x7, .int .i64 x8, .int .i64 x9, .int .i64 x10, .bool x11, .bool false, .int .i64 0, .int .i64 0] 59)).alloc (.cells #[.bool false, .int .i64 0, .int .i64 0] 57) := ⟨_, rfl⟩;have hI : Blk W w.heap.size 59 #[.int .i64 ty, .int .i64 fl, .int .i64 st, S d, .int .i64 x4, .slice sa sk sc, .int .i64 x6, .int .i64 x7, .int .i64 x8, .int .i64 x9, .int .i64 x10, .bool x11, .bool false, .int .i64 0, .int .i64 0] := (by rw [eW];exact (Blk.new _ _ _).alloc _);have hF : Blk W (w.heap.size + 1) 57 #[.bool false, .int .i64 0, .int .i64 0] := (by rw [eW];exact bnew_at _ _ _ _ (by simp));have hb : Below w.heap.size w W := (by rw [eW];exact ((Below.refl _ _).alloc (Nat.le_refl _) _).alloc (by simp) _);have g1 := g0.on hb;have hcl := hx.blk.lt;have hP := hPl W _ g1.h;go_enter Tryz.func26, Tryz.ntmps26
 go_upto_region 2 with (go_at_call 50;go_must (rw [← eW];clear eW;(with_reducible refine hP.mono ?_);rintro r w2 ⟨rfl, hb2⟩;have hI2 := hI.on hb2;have hF2 := hF.on hb2;have z0 : w2.cell? ⟨w.heap.size + 1, 0, none⟩ = some (.bool false) := hF2.cell 0))
 have hx2 := (hx.on hb).on hb2;have y16 : w2.cell? ⟨n.c, 16, none⟩ = some (.bool q.greeted) := hx2.blk.cell 16;have v16 := hx2.blk.free 16;go_upto_region 3 with fail;obtain ⟨hx3, k3⟩ := hx2.goesC1 16 (.bool true) { q with greeted := true } rfl rfl rfl;have g3 := (g1.on hb2).comp k3;have hI3 := hI2.other (p := ⟨n.c, 16, none⟩) (by show w.heap.size ≠ n.c;omega) (.bool true);refine wp_cut (R := fun W => GoesF w n (Foot n m q) W { q with greeted := true } (Foot n m { q with greeted := true }) ∧ Blk W w.heap.size 59 #[.int .i64 ty, .int .i64 fl, .int .i64 st, S d, .int .i64 x4, .slice sa sk sc, .int .i64 x6, .int .i64 x7, .int .i64 x8, .int .i64 x9, .int .i64 x10, .bool x11, .bool false, .int .i64 0, .int .i64 0]) ⟨g3, hI3⟩ ?_;clear hI hF hb g1 hP hb2 hI2 hF2 z0 hx2 y16 v16 hx3 k3 g3 hI3 W w2;rintro W3 ⟨g3, hI3⟩;have i0 : W3.cell? ⟨w.heap.size, 0, none⟩ = some (.int .i64 ty) := hI3.cell 0;go_upto_region 5 with (go_at_call 53;go_must ((with_reducible refine (hW _).mono ?_);rintro r w4 ⟨rfl, hb4⟩;have hI4 := hI3.on hb4;have g4 := g3.on hb4))
 obtain ⟨z0, z1, z2, z3, z4, z5, z6, z7, z8, z9, z10, z11⟩ := hI4.c12;have hD := hDo w4 _ g4.b g4.h
 go_wp2_with first
  | (go_at_call 54;go_must ((with_reducible refine (Rest_any _ g5.h).mono ?_);rintro r w6 ⟨rfl, hg6⟩;obtain ⟨F6, g6⟩ := g5.step hg6))
  | ((with_reducible refine hD.mono ?_);rintro r w5 ⟨rfl, hg5⟩;obtain ⟨F5, g5⟩ := g4.step hg5)
 go_end0
 exact ⟨rfl, hq2 ▸ g6.goes⟩
end Go.Proofs.YtcodgfmombehoaaGreatDoor
