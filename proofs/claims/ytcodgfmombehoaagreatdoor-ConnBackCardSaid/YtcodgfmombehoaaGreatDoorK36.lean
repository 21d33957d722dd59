/- Parts of the proof of bk_root: the texts Rtk4 Law22f Cnc3 Law22h Open Cnf4 Cng3. -/
import Derived.Maps.RangeWalk
import Derived.ChangeSame
import Derived.Deep.DeepHandedRow
import Derived.Deep.Fields
import Derived.Deep.Slices
import Derived.Deep.Strs
import Derived.LaidMore
import Derived.Lay
import Derived.Lib.SmallJoins
import Derived.OpenShut
import Derived.ProofKit
import Derived.SevenTiedAt
import Derived.Stop.Joined
import Derived.Test.YtcodgfmombehoaaGreatDoorK32
import Derived.Test.YtcodgfmombehoaaGreatDoorK33
import Derived.Test.YtcodgfmombehoaaGreatDoorK35
set_option linter.unusedSimpArgs false
set_option linter.unusedVariables false
set_option linter.unnecessarySimpa false
set_option maxRecDepth 100000
set_option maxHeartbeats 64000000
namespace Go.Proofs.YtcodgfmombehoaaGreatDoor
open Go Go.RowKit Go.Dr
abbrev flatF (fs : List (Bytes × Fr)) : Bytes := fs.flatMap (·.1)
abbrev frL (f : Fr) (vs : Value) : Value := .agg #[.int .i64 (f.ty : Nat), .int .i64 (f.fl : Nat), .int .i64 (f.st : Nat), S f.data, .int .i64 (f.pad : Nat), vs, .int .i64 (f.code : Nat), .int .i64 (f.last : Nat), .int .i64 (f.inc : Nat), .int .i64 (f.dep : Nat), .int .i64 (f.wt : Nat), .bool f.sole]
theorem drop_flat (fs : List (Bytes × Fr)) (k : Nat) (hk : k < fs.length) : flatF (fs.drop k) = fs[k].1 ++ flatF (fs.drop (k + 1)) := by
 rw [List.drop_eq_getElem_cons hk];rfl
theorem rTk_none {B : Nat} (v : Value) (w : World) (h : By B w v []) : Calls Tryz.prog 36 #[v, .int .i64 16384] w fun e w' => e = .returned (.tuple #[frL {} (.slice none 0 0), .int .i64 0, .agg #[.bool false, .int .i64 0, .int .i64 0]]) ∧ Below w.heap.size w w' := by
 obtain ⟨a, c, rfl, hc, hcm⟩ := h.form;obtain ⟨r, er⟩ : ∃ r, r = w.heap.size := ⟨_, rfl⟩;obtain ⟨W0, eW0⟩ : ∃ W0, W0 = (w.alloc (.cells #[.int .i64 0, .int .i64 0, .int .i64 0, S [], .int .i64 0, .slice none 0 0, .int .i64 0, .int .i64 0, .int .i64 0, .int .i64 0, .int .i64 0, .bool false] 36)).alloc (.cells #[.bool false, .int .i64 0, .int .i64 0] 57) := ⟨_, rfl⟩;have hA : Blk W0 r 36 #[.int .i64 0, .int .i64 0, .int .i64 0, S [], .int .i64 0, .slice none 0 0, .int .i64 0, .int .i64 0, .int .i64 0, .int .i64 0, .int .i64 0, .bool false] := (by rw [eW0, er];exact (Blk.new _ _ _).alloc _);have hC : Blk W0 (r + 1) 57 #[.bool false, .int .i64 0, .int .i64 0] := (by rw [eW0, er];exact bnew_at _ _ _ _ (by simp));have hB : Below r w W0 := (by rw [eW0, er];exact ((Below.refl _ _).alloc (Nat.le_refl _) _).alloc (by simp) _);have hz0 : W0.heap.size = r + 2 := (by rw [eW0, er];simp);have HZ := Lib.hid hz0;have ER := Lib.hid er;clear er hz0;go_enter Tryz.func36, Tryz.ntmps36
 go_upto_region 1 with fail;rw [← ER.out, ← eW0];clear eW0;go_upto_region 3 with fail;refine wp_cut (R := fun W => R3 r W0.heap.size w #[.int .i64 0, .int .i64 0, .int .i64 0, S [], .int .i64 0, .slice none 0 0, .int .i64 0, .int .i64 0, .int .i64 0, .int .i64 0, .int .i64 0, .bool false] W) ⟨hA.alloc _, hC.alloc _, Blk.new _ _ _, hB.alloc (by have := HZ.out;omega) _, by have := HZ.out;omega⟩ ?_;rintro W6 h6
 (have u0 : W6.cell? ⟨W0.heap.size, 0, none⟩ = some (.int .i64 0) := h6.f.cell 0;have u1 : W6.cell? ⟨W0.heap.size, 1, none⟩ = some (.int .i64 0) := h6.f.cell 1;have u2 : W6.cell? ⟨W0.heap.size, 2, none⟩ = some (.int .i64 0) := h6.f.cell 2;have u3 : W6.cell? ⟨W0.heap.size, 3, none⟩ = some (S []) := h6.f.cell 3;have u4 : W6.cell? ⟨W0.heap.size, 4, none⟩ = some (.int .i64 0) := h6.f.cell 4;have u5 : W6.cell? ⟨W0.heap.size, 5, none⟩ = some (.slice none 0 0) := h6.f.cell 5;have u6 : W6.cell? ⟨W0.heap.size, 6, none⟩ = some (.int .i64 0) := h6.f.cell 6;have u7 : W6.cell? ⟨W0.heap.size, 7, none⟩ = some (.int .i64 0) := h6.f.cell 7;have u8 : W6.cell? ⟨W0.heap.size, 8, none⟩ = some (.int .i64 0) := h6.f.cell 8;have u9 : W6.cell? ⟨W0.heap.size, 9, none⟩ = some (.int .i64 0) := h6.f.cell 9;have u10 : W6.cell? ⟨W0.heap.size, 10, none⟩ = some (.int .i64 0) := h6.f.cell 10;have u11 : W6.cell? ⟨W0.heap.size, 11, none⟩ = some (.bool false) := h6.f.cell 11)
 (have x0 : W6.cell? ⟨r, 0, none⟩ = some (.int .i64 0) := h6.a.cell 0;have x1 : W6.cell? ⟨r, 1, none⟩ = some (.int .i64 0) := h6.a.cell 1;have x2 : W6.cell? ⟨r, 2, none⟩ = some (.int .i64 0) := h6.a.cell 2;have x3 : W6.cell? ⟨r, 3, none⟩ = some (S []) := h6.a.cell 3;have x4 : W6.cell? ⟨r, 4, none⟩ = some (.int .i64 0) := h6.a.cell 4;have x5 : W6.cell? ⟨r, 5, none⟩ = some (.slice none 0 0) := h6.a.cell 5;have x6 : W6.cell? ⟨r, 6, none⟩ = some (.int .i64 0) := h6.a.cell 6;have x7 : W6.cell? ⟨r, 7, none⟩ = some (.int .i64 0) := h6.a.cell 7;have x8 : W6.cell? ⟨r, 8, none⟩ = some (.int .i64 0) := h6.a.cell 8;have x9 : W6.cell? ⟨r, 9, none⟩ = some (.int .i64 0) := h6.a.cell 9;have x10 : W6.cell? ⟨r, 10, none⟩ = some (.int .i64 0) := h6.a.cell 10;have x11 : W6.cell? ⟨r, 11, none⟩ = some (.bool false) := h6.a.cell 11)
 (have y0 : W6.cell? ⟨r + 1, 0, none⟩ = some (.bool false) := h6.c.cell 0;have y1 : W6.cell? ⟨r + 1, 1, none⟩ = some (.int .i64 0) := h6.c.cell 1;have y2 : W6.cell? ⟨r + 1, 2, none⟩ = some (.int .i64 0) := h6.c.cell 2)
 have v0 := h6.a.free 0;have v1 := h6.a.free 1;have v2 := h6.a.free 2;have v3 := h6.a.free 3;have v4 := h6.a.free 4;have v5 := h6.a.free 5;have v6 := h6.a.free 6;have v7 := h6.a.free 7;have v8 := h6.a.free 8;have v9 := h6.a.free 9;have v10 := h6.a.free 10;have v11 := h6.a.free 11;have f0 := h6.c.free 0;have f1 := h6.c.free 1;have f2 := h6.c.free 2;go_wp2;exact rret_take rfl rfl rfl (oth3 (set12 h6.a _ _ _ _ _ _ _ _ _ _ _ _) (by omega) _ _ _) (set3 (oth12 h6.c (by omega) _ _ _ _ _ _ _ _ _ _ _ _) _ _ _) ⟨rfl, by rw [← ER.out];exact bel3 (bel12 h6.b (Nat.le_refl _) _ _ _ _ _ _ _ _ _ _ _ _) (by omega) _ _ _⟩
theorem All_of (fs : List (Bytes × Fr)) (hT : ∀ x ∈ fs, RTk x.1 x.2 ∧ 0 < x.1.length) (v : Value) (w : World) (h : By w.heap.size w v (flatF fs)) (hn : fs.length ≤ 1000000) :
  Calls Tryz.prog 13 #[v, .int .i64 16384, .bool false] w fun e w' => ∃ vo its, e = .returned (.tuple #[vo, .int .i64 0, .bool false]) ∧ its.map (fun i => (Itm.f i, Itm.x i)) = fs.map (fun x => (x.2, ({} : Ft))) ∧ w'.ownsRow w.heap.size 59 15 vo fs.length (itcells its) ∧ (∀ i ∈ its, w'.ownsRow w.heap.size 33 2 i.vs i.f.sets.length (scells i.f.sets)) ∧ Below w.heap.size w w' := by
 go_enter Tryz.func13, Tryz.ntmps13
 go_wp2
 go_loopw [0, 10] (fun b out wr => ∃ k its, k ≤ fs.length ∧ By w.heap.size wr b (flatF (fs.drop k)) ∧ its.map (fun i => (Itm.f i, Itm.x i)) = (fs.take k).map (fun x => (x.2, ({} : Ft))) ∧ wr.ownsRow w.heap.size 59 15 out k (itcells its) ∧ (∀ i ∈ its, wr.ownsRow w.heap.size 33 2 i.vs i.f.sets.length (scells i.f.sets)) ∧ Below w.heap.size w wr ∧ ∃ n, n = fs.length - k) (fun b out wr => match out with | .slice _ n _ => fs.length - n | _ => 0)
 case atStart => exact ⟨0, [], Nat.zero_le _, h, rfl, World.ownsRow_nil _ _ _ _, (fun i hi => by cases hi), Below.refl _ _, _, rfl⟩
 case round =>
  obtain ⟨k, its, hk, hb, hits, hrow, hsets, hbel, -⟩ := hrel;have hz := hbel.size;by_cases hlt : k < fs.length
  ·obtain ⟨hTk, hlen⟩ := hT fs[k] (List.getElem_mem _)
   have hdr := drop_flat fs k hlt;obtain ⟨⟨l, f⟩, elf⟩ : ∃ x, x = fs[k] := ⟨_, rfl⟩
   have htk : (fs.take (k + 1)).map (fun x => (x.2, ({} : Ft))) = (fs.take k).map (fun x => (x.2, ({} : Ft))) ++ [(f, ({} : Ft))] := by
    rw [List.take_succ_eq_append_getElem hlt, List.map_append, ← elf];rfl
   rw [← elf] at hTk hlen hdr
   dsimp only at hTk hlen hdr
   rw [hdr] at hb;obtain ⟨rest, er⟩ : ∃ rest, rest = flatF (fs.drop (k + 1)) := ⟨_, rfl⟩;rw [← er] at hb;have hTk := hTk rest u0 wr (hb.mono hz);obtain ⟨a', c', hb', hsl⟩ := hb.from l.length (by rw [List.length_append];omega)
   rw [List.length_append, Nat.add_sub_cancel_left] at hb' hsl;rw [List.drop_left] at hb';obtain ⟨av, cv, rfl⟩ := own_form hrow;have n0 : ((l.length : Int) == 0) = false := beq_eq_false_iff_ne.2 (fun e => by omega);have n0' : (l.length == 0) = false := beq_eq_false_iff_ne.2 (fun e => by omega)
   have HTK := Lib.hid htk;have HITS := Lib.hid hits;have HDR := Lib.hid hdr;have ER := Lib.hid er;clear htk hits elf hdr er hlen hT h hb;go_upto_region 14 with (go_at_call 36;go_must ((with_reducible refine hTk.mono ?_);rintro e w2 ⟨vs, rfl, hs2, hb2⟩;obtain ⟨sa, sc, rfl⟩ := own_form hs2))
   refine wp_cut (R := fun W => Blk W w2.heap.size 36 #[.int .i64 (f.ty : Nat), .int .i64 (f.fl : Nat), .int .i64 (f.st : Nat), S f.data, .int .i64 (f.pad : Nat), .slice sa f.sets.length sc, .int .i64 (f.code : Nat), .int .i64 (f.last : Nat), .int .i64 (f.inc : Nat), .int .i64 (f.dep : Nat), .int .i64 (f.wt : Nat), .bool f.sole] ∧ Blk W (w2.heap.size + 1) 57 #[.bool false, .int .i64 0, .int .i64 0] ∧ Below wr.heap.size wr W ∧ W.ownsRow wr.heap.size 33 2 (.slice sa f.sets.length sc) f.sets.length (scells f.sets)) ⟨(Blk.new _ _ _).alloc _, bnew_at _ _ _ _ (by simp), (hb2.alloc hb2.size _).alloc (by have := hb2.size;simp;omega) _, (hs2.alloc _).alloc _⟩ ?_;clear hs2 hb2 hTk;rintro W3 ⟨hF3, hX3, hb3, hs3⟩;obtain ⟨g0, g1, g2, g3, g4, g5, g6, g7, g8, g9, g10, g11⟩ := hF3.c12;obtain ⟨x0, x1, x2⟩ := hX3.c3;have hrow3 := own_below hrow hb3;have hz3 := hb3.size;go_wp2_with (at_builtin;go_must (refine wpList_appAt rfl _ _ 50 rfl w.heap.size 59 (.agg #[.int .i64 0, .int .i64 0, .int .i64 0, .string ByteArray.empty, .int .i64 0, .slice none 0 0, .int .i64 0, .int .i64 0, .int .i64 0, .int .i64 0, .int .i64 0, .bool false, .bool false, .int .i64 0, .int .i64 0]) 15 144 Tryz.underlying50 (by kernel_rfl) rfl (by decide) _ _ _ rfl (hrow3.alloc _) _ _ 1 [.int .i64 (f.ty : Nat), .int .i64 (f.fl : Nat), .int .i64 (f.st : Nat), S f.data, .int .i64 (f.pad : Nat), .slice sa f.sets.length sc, .int .i64 (f.code : Nat), .int .i64 (f.last : Nat), .int .i64 (f.inc : Nat), .int .i64 (f.dep : Nat), .int .i64 (f.wt : Nat), .bool f.sole, .bool false, .int .i64 0, .int .i64 0] rfl (Rd.lit W3 59 #[.int .i64 (f.ty : Nat), .int .i64 (f.fl : Nat), .int .i64 (f.st : Nat), S f.data, .int .i64 (f.pad : Nat), .slice sa f.sets.length sc, .int .i64 (f.code : Nat), .int .i64 (f.last : Nat), .int .i64 (f.inc : Nat), .int .i64 (f.dep : Nat), .int .i64 (f.wt : Nat), .bool f.sole, .bool false, .int .i64 0, .int .i64 0] 15 1 rfl (by decide)) (item_one f {} sa sc) (by unfold maxLen;omega) (by omega) (by simp;omega) ?_;intro a7 c7 w7 hown7 hg7 hat7))
   have hbT : Below w.heap.size wr w7 := Bl.grown ((hb3.mono hz).alloc (Nat.le_trans hz hz3) _) (hrow3.alloc _) hg7 (by simp;omega) (Nat.le_refl _)
   go_roundw
   case rel =>
    refine ⟨k + 1, its ++ [⟨f, {}, .slice sa f.sets.length sc⟩], by omega, by rw [← ER.out];exact hb'.below hbT, by rw [List.map_append, HITS.out, HTK.out];rfl, ?_, ?_, hbel.trans hbT, _, rfl⟩
    ·have q : itcells (its ++ [⟨f, {}, .slice sa f.sets.length sc⟩]) = itcells its ++ [.int .i64 (f.ty : Nat), .int .i64 (f.fl : Nat), .int .i64 (f.st : Nat), S f.data, .int .i64 (f.pad : Nat), .slice sa f.sets.length sc, .int .i64 (f.code : Nat), .int .i64 (f.last : Nat), .int .i64 (f.inc : Nat), .int .i64 (f.dep : Nat), .int .i64 (f.wt : Nat), .bool f.sole, .bool false, .int .i64 0, .int .i64 0] := by simp [itcells, Itm.cells, Fr.cells]
     rw [q];exact hown7
    ·intro i hi
     have keep : ∀ {v : Value} {n : Nat} {xs : List Value}, W3.ownsRow w.heap.size 33 2 v n xs → w7.ownsRow w.heap.size 33 2 v n xs := fun {v n xs} hv => by
      refine own_block (hv.alloc _) fun g cur hg _ => hg7.block g (Array.getElem?_eq_some_iff.1 hg).1 fun e1 => ?_
      obtain ⟨cur2, hc2⟩ := own_kind (hrow3.alloc _) e1.symm;rw [hc2] at hg;simp at hg
     rcases List.mem_append.1 hi with hi | hi
     ·exact keep (own_below (hsets i hi) hb3)
     ·obtain rfl : i = ⟨f, {}, .slice sa f.sets.length sc⟩ := by simpa using hi
      exact keep (own_base hs3 hz)
   case measure => simp;omega
  ·obtain rfl : k = fs.length := by omega
   rw [List.drop_length] at hb;replace hb : By w.heap.size wr u0 [] := hb
   rw [List.take_length] at hits;obtain ⟨a, c, ea, hc, hcm⟩ := hb.form;rw [List.length_nil] at ea;subst ea;have hN := rTk_none _ wr hb;go_upto_region 14 with (go_at_call 36;go_must ((with_reducible refine hN.mono ?_);rintro e w2 ⟨rfl, hb2⟩))
   refine wp_cut (R := fun W => Blk W (w2.heap.size + 1) 57 #[.bool false, .int .i64 0, .int .i64 0] ∧ Below wr.heap.size wr W) ⟨bnew_at _ _ _ _ (by simp), (hb2.alloc hb2.size _).alloc (by have := hb2.size;simp;omega) _⟩ ?_;rintro W3 ⟨hX3, hb3⟩;obtain ⟨x0, x1, x2⟩ := hX3.c3;go_wp2;refine bodyPost_ret (v := .tuple #[_, .int .i64 0, .bool false]) (by simp [results, Tryz.results13, go_sem];exact rfl) rfl ?_;exact ⟨_, its, rfl, hits, own_below hrow hb3, fun i hi => own_below (hsets i hi) hb3, hbel.trans (hb3.mono hz)⟩
open Go Go.RowKit Go.Dr
variable {w w' : World} {n : Nm} {q q' : Cq}
abbrev dS : Bytes := getB [132]
theorem getX_dS : (32 :: (getX [47]).flatMap encB) = dS := by decide +kernel
theorem dhF_st (ty fl st : Nat) (l : Bytes) (h1 : fl &&& 8 = 0) (h2 : fl &&& 32 = 0) : dhF ty fl st l = some { ty := ty, fl := fl, st := st, data := l } := by
 simp [dhF, h1, h2]
theorem tk_headS {most : Nat} (st : Nat) (h0 : 0 < st) (hst : st < 2147483648) (l : Bytes) (hl : l.length ≤ most) (fl : Nat) (hfl : fl = 4 ∨ fl = 5) : Tk most 1 fl st l { ty := 1, fl := fl, st := st, data := l } := by
 have e0 : (st == 0) = false := beq_eq_false_iff_ne.2 (fun e => by omega)
 rcases hfl with rfl | rfl <;> exact ⟨by decide, by decide, hst, hl, by simp [misF, e0], by simp [sizeF, aheadF], (by rw [openF, if_pos (.inr rfl)];exact dhF_st _ _ _ _ rfl rfl), (by rintro ⟨h, -⟩;cases h), rfl⟩
theorem getS (st : Int) (w : World) : Calls Tryz.prog 9 #[.int .i64 st, .string ⟨#[47]⟩, .bool true] w fun r w' => r = .returned (getV st 5 dS) ∧ Below w.heap.size w w' := by
 have h := Get_any st [47] (.inl rfl) true w;rw [getX_dS] at h;exact h
open Go Go.RowKit Go.Dr
variable {w w' : World} {n : Nm} {m : Mm} {q q' : Cq}
theorem Item_then {F : Nat → Prop} {d : Bytes} {x4 x6 x7 x8 x9 x10 : Int} {x11 : Bool} {sa : Option Addr} {sk sc : Nat} {ty fl st : Int} (w : World) (h : Cw w n q F) (hgr : q.greeted = true) (hfo : q.fo = 0) (hty : I64 ty) (h9 : ty ≠ 9) (k : Nat) (hk : wayV ty = .func (.func k) #[] #[]) (hEn : ∀ (args : Array Value) (w : World), (callFunc k args).run Tryz.prog w = .ok (.enter k args) w)
  (hDo : ∀ w1 F1, Cw w1 n q F1 → Calls Tryz.prog k #[Ptr n.c, .agg #[.int .i64 ty, .int .i64 fl, .int .i64 st, S d, .int .i64 x4, .slice sa sk sc, .int .i64 x6, .int .i64 x7, .int .i64 x8, .int .i64 x9, .int .i64 x10, .bool x11]] w1 fun r w' => r = .returned (.tuple #[]) ∧ Goes w1 n F1 w' q') (q2 : Cq) (hq2 : ({ q' with over := q'.over || (q'.drained && q'.live.isEmpty) } : Cq) = q2) :
  Calls Tryz.prog 26 #[Ptr n.c, .agg #[.int .i64 ty, .int .i64 fl, .int .i64 st, S d, .int .i64 x4, .slice sa sk sc, .int .i64 x6, .int .i64 x7, .int .i64 x8, .int .i64 x9, .int .i64 x10, .bool x11, .bool false, .int .i64 0, .int .i64 0]] w fun r w' => r = .returned (.tuple #[]) ∧ Goes w n F w' q2 := by
 have eg : ({ q with greeted := true } : Cq) = q := by
  cases q
  simp only [] at hgr;rw [hgr]
 exact Item_do w h hty k hk hEn (fun w1 F1 h1 => Placed_then w1 h1 hgr hfo h9) (fun w1 F1 _ h1 => hDo w1 F1 (eg ▸ h1)) q2 hq2
open Go Go.RowKit Go.Dr
variable {w w' : World} {n : Nm} {q q' : Cq}
theorem Cw.sort {F : Nat → Prop} (h : Cw w n q F) {g : Nat} (hg : F g) : kd w g = 0 ∨ kd w g = 78 + 1 ∨ kd w g = 122 + 1 ∨ kd w g = 127 + 1 ∨ kd w g = 176 + 1 ∨ kd w g = 129 + 1 ∨ kd w g = 132 + 1 ∨ kd w g = 5 + 1 ∨ kd w g = 68 + 1 ∨ kd w g = 3 + 1 ∨ kd w g = 101 + 1 := by
 obtain ⟨m, hx, rfl⟩ := h;obtain ⟨k1, k2, k3, k4, k5, k6, k7, k8, k9, k10, k11, k12, k13, k14, kbv, knv, kcv, ksd⟩ := hx.kinds
 rcases hg with hg | hg | hg | ⟨p, hp, hg⟩
 ·rcases hg with rfl | rfl | rfl | rfl | rfl | rfl | rfl | rfl | rfl | rfl <;> omega
 ·rcases hg with rfl | rfl | rfl | rfl <;> omega
 ·rcases hg with hg | hg | hg
  ·have := kbv g hg;omega
  ·have := knv g hg;omega
  ·have := kcv g hg;omega
 ·rcases hg with rfl | hg
  ·have := (ksd p hp).1;omega
  ·have := (ksd p hp).2 g hg;omega
end Go.Proofs.YtcodgfmombehoaaGreatDoor
namespace Go.Dr
open Go.RowKit Go.ChangeShapes Go.WideShapes Go.Deep
open Go.ChangeMaps (open_string)
section
variable {H : Type} {enc : TypeId × Value → H} {P : Program}
theorem TrodAll_below (hl : laidOutB P = true) {W W' : World} (hb : Below W.heap.size W W') : ∀ (ts : List TypeId) (vs : List Value) (ds : List (DataW H)) (ps : List MemPlace),
    (ts.all fun t => P.readableRec t && decide (t < P.types.size)) = true → DataW.TrodAll enc P W 0 (fun _ => true) true ts vs ds ps → (∀ x ∈ ps, x.block < W.heap.size) →
    DataW.TrodAll enc P W' 0 (fun b => decide (b < W.heap.size)) true ts vs ds ps
  | [], [], [], _, _, h, _ => h
  | t :: ts, v :: vs, d :: ds, ps, hr, h, hlt => by
    obtain ⟨p, q, h1, h2, rfl⟩ := h;simp only [List.all_cons, Bool.and_eq_true, decide_eq_true_eq] at hr
    exact ⟨p, q, Below.trod hl hr.1.1 hr.1.2 h1 hb (fun x hx => hlt x (List.mem_append_left _ hx)),
      TrodAll_below hl hb ts vs ds q hr.2 h2 (fun x hx => hlt x (List.mem_append_right _ hx)), rfl⟩
theorem law_post {f : Func} {s : ChangeSpec} {W W' : World} {args : Array Value} {ds gs : List (DataW H)} {before : List MemPlace} {bt : TypeId}
  (hW : DataW.Whole enc P f.params.toList s.vars false W args.toList ds gs before) (hv : s.vars = []) (hfn : s.fn H (ds ++ gs) = { results := [.lit (.bool true)], args := ds })
  (hres : f.resultTypes = #[bt]) (hbt : P.underlying bt = some .bool) (hl : laidOutB P = true) (hr : (f.params.toList.all fun t => P.readableRec t && decide (t < P.types.size)) = true)
  (hb : Below W.heap.size W W') : s.post enc P f false true false false W args (.bool true) W' := by
 have hlt := fun p hp => DataW.Whole.lt hW p hp
 have hW' := hW
 obtain ⟨p, q, hA, hV, rfl, hfz, hnd⟩ := hW;rw [hv] at hV;obtain ⟨rfl, rfl⟩ := trodVars_none hV;refine ⟨ds, [], _, [], p, [], hW', ?_, ?_, ?_, hb.frame _, fun h => by cases h⟩
 ·rw [hfn, hres]
  exact trodAll_mk1 (shut_bool hbt true)
 ·rw [hfn]
  exact TrodAll_below hl hb _ _ _ _ hr hA fun x hx => hlt x (by simpa using hx)
 ·rw [hfn, hv]
  rfl
variable {w : World} {base : Nat} {spare : Nat → Bool} {held : Bool}
theorem flat_get {α : Type} (cells : α → List Value) (size : Nat) (hlen : ∀ x, (cells x).length = size) (l : List α) (i : Nat) (hi : i < l.length) (j : Nat) (hj : j < size) : (l.flatMap cells)[i * size + j]? = (cells l[i])[j]? := by
 induction l generalizing i with
 | nil => simp at hi
 | cons x l ih =>
  rw [List.flatMap_cons]
  cases i with
  | zero => rw [List.getElem?_append_left (by rw [hlen];omega)];simp
  | succ i =>
   have h1 : (i + 1) * size + j = size + (i * size + j) := (by rw [Nat.add_mul];omega);rw [List.getElem?_append_right (by rw [hlen, h1];omega), hlen, h1, Nat.add_sub_cancel_left];exact ih i (by simpa using hi)
theorem flat_length {α : Type} (cells : α → List Value) (size : Nat) (hlen : ∀ x, (cells x).length = size) (l : List α) : (l.flatMap cells).length = l.length * size := by
 induction l with
 | nil => simp
 | cons x l ih => rw [List.flatMap_cons, List.length_append, hlen, ih, List.length_cons, Nat.add_mul];omega
theorem weights_at {e : TypeId} {elems : List (DataW H)} (h : (DataW.weightsAll P e elems).all (· ≤ reachBytes) = true) {d : DataW H} (hd : d ∈ elems) : (d.weights P e).all (· ≤ reachBytes) = true := by
 induction elems with
 | nil => cases hd
 | cons y r ih =>
  simp only [DataW.weightsAll, List.all_append, Bool.and_eq_true] at h
  cases hd with
  | head => exact h.1
  | tail _ hd => exact ih h.2 hd
theorem open_seq {α : Type} [Inhabited α] {t e : TypeId} (size : Nat) (cells : α → List Value) (R : α → Prop) (hs0 : 0 < size) (hsize : P.cellsOf e = size) (hlen : ∀ x, (cells x).length = size)
  (hel : ∀ n cs' y, DataW.trod enc P w base spare held n e cs' = some y → (y.1.weights P e).all (· ≤ reachBytes) = true → ∃ x, cs' = cells x ∧ R x)
  {fuel : Nat} {cs : List Value} {x : DataW H × List MemPlace} (ht : P.underlying t = some (.slice e)) (h : DataW.trod enc P w base spare held fuel t cs = some x) (hw : (x.1.weights P t).all (· ≤ reachBytes) = true) :
  ∃ (v : Value) (l : List α), cs = [v] ∧ Rd w.heap.size w size v l.length (l.flatMap cells) ∧ (∀ x ∈ l, R x) ∧ l.length * P.bytesOf e ≤ reachBytes := by
 rcases open_slice ht h with ⟨rfl, rfl⟩ | ⟨a, len, cap, m, n, D, Pl, rfl, hb, hl, hm, hmm, rfl, hi⟩
 ·exact ⟨_, [], rfl, Rd.nil _ _ _, by simp, by rw [List.length_nil, Nat.zero_mul];exact Nat.zero_le _⟩
 ·have hlm : len ≤ m := by rw [hmm];split <;> omega
  simp only [DataW.weights, ht, List.all_cons, List.all_append, Bool.and_eq_true, decide_eq_true_eq] at hw;have hlb : len * P.bytesOf e ≤ reachBytes := Nat.le_trans (Nat.mul_le_mul_right _ (by simp)) hw.1
  obtain ⟨V, hV⟩ := choose_lt (α := α) (n := len) (p := fun i v => (∀ j, j < size → w.cell? (a.add (i * size + j)) = (cells v)[j]?) ∧ R v) (fun i hil => by
   obtain ⟨cs', h1, h2⟩ := hi i (by omega);obtain ⟨v, rfl, hR⟩ := hel _ _ _ h2 (weights_at hw.2.1 (by simp;exact ⟨i, hil, rfl⟩));obtain ⟨_, hcl, hat⟩ := World.cells?_some h1;refine ⟨v, fun j hj => ?_, hR⟩;rw [← Go.Deep.add_add, ← hsize]
   exact hat j (by omega))
  refine ⟨_, (List.range len).map V, rfl, ?_, ?_, by rw [List.length_map, List.length_range];exact hlb⟩
  ·refine ⟨some a, cap, by simp, by simpa using hl, hm, by rw [flat_length cells size hlen], by simp, fun j u hu => ?_⟩
   have hjl : j < len * size := by
    have := (List.getElem?_eq_some_iff.1 hu).1
    rw [flat_length cells size hlen] at this;simpa using this
   have hdiv : j / size < len := Nat.div_lt_of_lt_mul (by rw [Nat.mul_comm];exact hjl);have hmod : j % size < size := Nat.mod_lt _ hs0;have hj : j = j / size * size + j % size := (by rw [Nat.mul_comm];exact (Nat.div_add_mod j size).symm);have hc := (hV (j / size) hdiv).1 (j % size) hmod;have hg := flat_get cells size hlen ((List.range len).map V) (j / size) (by simpa using hdiv) (j % size) hmod;rw [← hj] at hc hg;rw [hu] at hg;have hcell : w.cell? (a.add j) = some u := (by rw [hc, hg];simp);have hblk := World.block_lt_of_cell? w _ hcell;obtain ⟨b, off, sp⟩ := a
   cases sp with
   | some s =>
    have h00 := (hV 0 (Nat.lt_of_le_of_lt (Nat.zero_le _) hdiv)).1 0 hs0
    have hn : w.cell? ((⟨b, off, some s⟩ : Addr).add (0 * size + 0)) = none := by
     simp only [Nat.zero_mul, Nat.add_zero, Addr.add, if_true, World.cell?]
     split <;> rfl
    rw [hn] at h00;have h01 := List.getElem?_eq_getElem (l := cells (V 0)) (i := 0) (by rw [hlen];exact hs0);rw [h01] at h00
    cases h00
   | none =>
    rw [Addr.add_lit] at hcell hblk;exact ⟨b, off, rfl, hblk, hcell⟩
  ·intro y hy
   obtain ⟨i, hi', rfl⟩ := List.mem_map.1 hy;exact (hV i (List.mem_range.1 hi')).2
theorem open_S {r : Reach} {b0 : Nat} {t : TypeId} {v : Value} {d : DataW H} {ps : List MemPlace} (ht : P.underlying t = some .string) (hval : Value.okWide P w r b0 t v) (hd : DataW.Trod enc P w base spare held t v d ps)
  (hw : (d.weights P t).all (· ≤ reachBytes) = true) : ∃ l : Bytes, v = S l ∧ l.length ≤ 140737488351232 := by
 obtain ⟨s, rfl, rfl, _, _⟩ := open_string ht hval hd;refine ⟨s.data.toList, rfl, ?_⟩;simp only [DataW.weights, reachBytes, List.all_cons, List.all_nil, Bool.and_true] at hw;exact of_decide_eq_true hw
end
open Go.RowKit Go.ChangeShapes Go.WideShapes Go.Deep Go.Joins
open Go.ChangeMaps (open_string)
section
variable {H : Type} {enc : TypeId × Value → H} {P : Program} {w : World} {base : Nat} {spare : Nat → Bool} {held : Bool}
structure Rq where
 m : Bytes
 s : Bytes
 a : Bytes
 p : Bytes
 v : Value
def Rq.val (r : Rq) : Value := .agg #[S r.m, S r.s, S r.a, S r.p, r.v]
structure En where
 key : Bytes
 vp : Value
 st : Int
 vf : Value
 body : Bytes
 asked : Int
 came : Int
def En.val (e : En) : Value := .agg #[S e.key, e.vp, .int .i64 e.st, e.vf, S e.body, .int .i64 e.asked, .int .i64 e.came]
def I64 (n : Int) : Prop := -9223372036854775808 ≤ n ∧ n ≤ 9223372036854775807
theorem wf_u16 {n : Int} (h : (Lit.int .u16 n).wf = true) : 0 ≤ n ∧ n ≤ 65535 := by
 simpa [Lit.wf, IntKind.min, IntKind.max, IntKind.signed, IntKind.bits] using h
end
open Go.RowKit Go.ChangeShapes Go.WideShapes Go.Deep
section
variable {H : Type} {enc : TypeId × Value → H} {P : Program} {w : World} {base : Nat} {spare : Nat → Bool} {held : Bool}
end
end Go.Dr
namespace Go.Proofs.YtcodgfmombehoaaGreatDoor
open Go Go.RowKit Go.Dr
theorem BookFirst_none {bk om : Nat} {all first : Int} (n : Int) (w : World) (hob : om ≠ bk) (hB : Blk w bk 132 #[.int .i64 all, .int .i64 first, .map (some om)]) (hm : IMp w om []) (hn0 : 0 ≤ n) (hn : n ≤ 2147483647) :
  Calls Tryz.prog 124 #[Ptr bk, .int .i64 n] w fun e w' => e = .returned (.int .i64 0) ∧ Blk w' bk 132 #[.int .i64 all, .int .i64 n, .map (some om)] ∧ IMp w' om [] ∧ But (fun k => k = bk) w w' := by
 have t1 : decide (n < 0) = false := (by simp;omega);have t2 : decide (2147483647 < n) = false := (by simp;omega);have y2 : w.cell? ⟨bk, 2, none⟩ = some (.map (some om)) := hB.cell 2;have hmm := hm;obtain ⟨D, hown, -, -, -, hhas, -⟩ := hmm;have hhas : ∀ i : Int, Maps.has D (Li i) = false := fun i => by rw [hhas];rfl
 go_enter Tryz.func124, Tryz.ntmps124
 go_wp2_with (first
  | (at_range;refine wpList_range_own _ rfl _ 130 rfl 3 2 keyedI Tryz.underlying130 Ri om _ D rfl hown ?_;intro w0 hrg0 hg0 hs0)
  | fail)
 try go_frame
 have hbW0 : Below w.heap.size w w0 := ⟨hg0.os, hg0.tape, hg0.output, hg0.size, fun i hi => hg0.block i hi (by simp)⟩
 go_loopw [6] (fun _ wr => ∃ (left : Lit → Bool) (cnt : Nat), wr.ranges Tryz.prog 3 Ri om w.heap.size 0 D left cnt ∧ (∀ i : Int, left (Li i) = false) ∧ Below w.heap.size w wr) (fun _ wr => wr.rangeLeft om w.heap.size)
 case atStart => exact ⟨_, _, hrg0, fun i => hhas i, hbW0⟩
 case round =>
  obtain ⟨left, cnt, hrg, hle, hbr⟩ := hrel
  go_wp2_with (first
   | (at_next;refine wpList_next_ranges _ rfl _ rfl 3 keyedI Ri (Value.int .i64) (fun v : Value => v) (fun key kl hkey => by obtain ⟨x, rfl, _⟩ := Maps.keyOf_int_inv Tryz.underlying3 hkey;exact ⟨x, rfl⟩) (fun v y _ => ⟨v, rfl⟩) om w.heap.size _ _ _ _ rfl hrg ?_ ?_)
   | fail)
  ·intro _ hl0
   have f1 := (hB.on hbr).free 1;have c1 : wr.cell? ⟨bk, 1, none⟩ = some (.int .i64 first) := (hB.on hbr).cell 1;go_wp2;go_ret;exact ⟨rfl, (hB.on hbr).set 1 _, (GMap.on hm hbr).far hob _, (But.of_below (S := fun k => k = bk) hbr).setCell (p := ⟨bk, 1, none⟩) (.inl rfl) _⟩
  ·intro x c kl y1 y2 w1 cnt1 hkey hlx
   obtain ⟨x', ex, e2, -⟩ := Maps.keyOf_int_inv Tryz.underlying3 hkey
   cases ex
   rw [show kl = Li x from e2, hle x] at hlx
   cases hlx
open Go Go.RowKit Go.Dr
variable {w w' : World} {n : Nm} {m : Mm} {q q' : Cq}
theorem Cx.foot_set (hx : Cx w n m q) {g : Nat} (hg : Foot n m q g) : kd w g ≠ 33 + 1 := by
 obtain ⟨kc, kfb, kd1, kt1, ke, kt2, kbk, klm, khm, kom, kb1, kn1, kb2, kn2, kbv, knv, kcv, ksd⟩ := hx.kinds
 rcases hg with hg | hg | hg | ⟨p, hp, hg⟩
 ·rcases hg with rfl | rfl | rfl | rfl | rfl | rfl | rfl | rfl | rfl | rfl <;> omega
 ·rcases hg with rfl | rfl | rfl | rfl <;> omega
 ·rcases hg with hg | hg | hg
  ·have := kbv g hg;omega
  ·have := knv g hg;omega
  ·have := kcv g hg;omega
 ·rcases hg with rfl | hg
  ·have := (ksd p hp).1;omega
  ·have := (ksd p hp).2 g hg;omega
theorem set_stays {b : Nat} {v : Value} {k : Nat} {xs : List Value} {F : Nat → Prop} (h : Cw w n q F) (hr : w.ownsRow b 33 2 v k xs) (hb : But F w w') : w'.ownsRow b 33 2 v k xs := by
 obtain ⟨m, hx, rfl⟩ := h;exact own_same hr fun g hg => hb.block g (own_lt hr hg).2 fun hf => hx.foot_set hf (kd_own hr hg)
theorem Settings_one {F : Nat → Prop} {c2 c3 c4 c6 c7 c8 c9 c10 c11 : Value} {sa : Option Addr} {sc b : Nat} (w : World) (h : Cw w n q F) (hoff : q.off = []) (v : Nat) (hv : v ≤ 2147483647) (hr : w.ownsRow b 33 2 (.slice sa 1 sc) 1 [.int .i64 4, .int .i64 (v : Int)]) (hbl : q.bytes.length ≤ 1000000) :
  Calls Tryz.prog 89 #[Ptr n.c, .agg #[.int .i64 4, .int .i64 0, c2, c3, c4, .slice sa 1 sc, c6, c7, c8, c9, c10, c11]] w fun r w' => r = .returned (.tuple #[]) ∧ Goes w n F w' { q with first := v, bytes := q.bytes ++ frB 4 1 0 [] } := by
 have g0 := GoesF.refl h;obtain ⟨g, rfl, hcell⟩ := own_cell hr (by decide);have s0 := hcell 0 _ rfl;have s1 := hcell 1 _ rfl
 have hgl : g < w.heap.size := by
  by_cases hgl : g < w.heap.size
  ·exact hgl
  ·have : w.heap[g]? = none := Array.getElem?_eq_none (by omega)
   simp [World.cell?, this] at s0
 obtain ⟨m, hx, rfl⟩ := h;obtain ⟨W, eW⟩ : ∃ W, W = w.alloc (.cells #[.int .i64 4, .int .i64 0, c2, c3, c4, .slice (some ⟨g, 0, none⟩) 1 sc, c6, c7, c8, c9, c10, c11] 36) := ⟨_, rfl⟩;have hF : Blk W w.heap.size 36 #[.int .i64 4, .int .i64 0, c2, c3, c4, .slice (some ⟨g, 0, none⟩) 1 sc, c6, c7, c8, c9, c10, c11] := (by rw [eW];exact Blk.new _ _ _);have hb : Below w.heap.size w W := (by rw [eW];exact (Below.refl _ _).alloc (Nat.le_refl _) _);have f1 : W.cell? ⟨w.heap.size, 1, none⟩ = some (.int .i64 0) := hF.cell 1;have f5 : W.cell? ⟨w.heap.size, 5, none⟩ = some (.slice (some ⟨g, 0, none⟩) 1 sc) := hF.cell 5;have t0 : W.cell? ⟨g, 0, none⟩ = some (.int .i64 4) := (hb.cell (p := ⟨g, 0, none⟩) hgl).trans s0;have t1 : W.cell? ⟨g, 1, none⟩ = some (.int .i64 (v : Int)) := (hb.cell (p := ⟨g, 1, none⟩) hgl).trans s1;have g1 := g0.on hb;have b01 : bits .and .i64 0 1 = 0 := (by decide);have hxW := hx.on hb;obtain ⟨W2, eW2⟩ : ∃ W2, W2 = W.alloc (.cells #[.int .i64 4, .int .i64 (v : Int)] 33) := ⟨_, rfl⟩;have hS2 : Blk W2 W.heap.size 33 #[.int .i64 4, .int .i64 (v : Int)] := (by rw [eW2];exact Blk.new _ _ _);have hb2 : Below W.heap.size W W2 := (by rw [eW2];exact (Below.refl _ _).alloc (Nat.le_refl _) _);go_enter Tryz.func89, Tryz.ntmps89
 go_upto_region 3 with fail;rw [← eW];clear eW;refine wp_loop_rounds 2 ?_;rw [rounds_succ];go_upto_region 5 with fail;rw [← eW2];clear eW2;have hx2 := hxW.on hb2;have g2 := g1.on hb2;have z0 : W2.cell? ⟨W.heap.size, 0, none⟩ = some (.int .i64 4) := hS2.cell 0;have z1 : W2.cell? ⟨W.heap.size, 1, none⟩ = some (.int .i64 (v : Int)) := hS2.cell 1;have y4 : W2.cell? ⟨n.c, 7, none⟩ = some (Ptr n.bk) := hx2.blk.cell 7;have ho := hx2.off;rw [hoff] at ho;have hFi := BookFirst_none (v : Int) W2.drew (fun e => hx2.om_bk e.symm) (hx2.drew).book ho.drew (by omega) (by omega);go_upto_region 9 with fail
 go_region_with (go_at_call 124;go_must ((with_reducible refine hFi.mono ?_);rintro r w3 ⟨rfl, hB3, ho3, hb3⟩))
 all_goals
  obtain ⟨hx3, k3⟩ := hx2.drew.goesO hb3 (fun g hg => .inr hg) hB3 ho3;have g3 := (g2.on (Below.refl _ _).drew).comp k3;rw [show ({ q with all := q.all, first := (v : Int), off := [] } : Cq) = { q with first := (v : Int) } by cases q;simp only [] at hoff;rw [hoff]] at g3;have hW := Write_any (c0 := .int .i64 4) (c1 := .int .i64 1) (c2 := .int .i64 0) (c3 := S []) (c4 := .int .i64 0) (c5 := .slice none 0 0) (c6 := .int .i64 0) (c7 := .int .i64 0) (c8 := .int .i64 0) (c9 := .int .i64 0) (c10 := .int .i64 0) (c11 := .bool false) w3 g3.h (frB 4 1 0 []) (fun w1 _ => pPut_Set 1 0 (by decide) (by decide) w1) (by rw [frB_length];simp;omega);clear hx3 k3 hFi ho hB3 ho3 hb3 hx2 g2 z1 y4 t0 t1 f1 f5;go_wp2;rw [rounds_succ]
  go_wp2_with first
   | (go_at_call 24;go_must ((with_reducible refine hW.mono ?_);rintro r w6 ⟨rfl, hg6⟩;obtain ⟨F6, g6⟩ := g3.step hg6))
  go_end0
  exact ⟨rfl, g6.goes⟩
abbrev qg1 (bs : Bytes) (v : Nat) : Cq := { q22a bs with first := v }
theorem Item_set1 {F : Nat → Prop} {sa : Option Addr} {sc : Nat} (bs : Bytes) (hbs : bs.length ≤ 1000000) (v : Nat) (hv : v ≤ 2147483647) (w : World) (h : Cw w n { q22 bs with pre := 24 } F) (hs : ∃ b, w.ownsRow b 33 2 (.slice sa 1 sc) 1 (scells [(4, v)])) :
  Calls Tryz.prog 26 #[Ptr n.c, itmV { ty := 4, sets := [(4, v)] } (.slice sa 1 sc) {}] w fun r w' => r = .returned (.tuple #[]) ∧ Goes w n F w' (qg1 bs v) := by
 obtain ⟨b, hr⟩ := hs
 exact Item_do (d := []) (ty := 4) (fl := 0) (st := 0) (x4 := 0) (x6 := 0) (x7 := 0) (x8 := 0) (x9 := 0) (x10 := 0) (x11 := false) (q' := qg1 bs v) w h (by decide) 89 rfl (run_en Tryz.func89 (by kernel_rfl) rfl)
  (fun w1 F1 h1 => Placed_first w1 h1 rfl) (fun w1 F1 hb1 h1 => Settings_one w1 h1 rfl v hv (set_stays h hr hb1) hbs) (qg1 bs v) rfl
end Go.Proofs.YtcodgfmombehoaaGreatDoor
