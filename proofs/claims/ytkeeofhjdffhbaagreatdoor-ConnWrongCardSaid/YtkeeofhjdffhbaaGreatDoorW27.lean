/- Parts of the proof of wr_root: the texts Rtk4 Law22f Cnd1. -/
import Derived.Test.YtkeeofhjdffhbaaGreatDoorW23
import Derived.Test.YtkeeofhjdffhbaaGreatDoorW24
import Derived.Test.YtkeeofhjdffhbaaGreatDoorW26
set_option linter.unusedSimpArgs false
set_option linter.unusedVariables false
set_option linter.unnecessarySimpa false
namespace Go.Proofs.YtkeeofhjdffhbaaGreatDoor
open Go Go.RowKit Go.Dr
/-- frames as they were written, and what they say -/
abbrev flatF (fs : List (Bytes × Fr)) : Bytes := fs.flatMap (·.1)
abbrev frL (f : Fr) (vs : Value) : Value := .agg #[.int .i64 (f.ty : Nat), .int .i64 (f.fl : Nat), .int .i64 (f.st : Nat), S f.data, .int .i64 (f.pad : Nat), vs, .int .i64 (f.code : Nat), .int .i64 (f.last : Nat), .int .i64 (f.inc : Nat), .int .i64 (f.dep : Nat), .int .i64 (f.wt : Nat), .bool f.sole]
theorem drop_flat (fs : List (Bytes × Fr)) (k : Nat) (hk : k < fs.length) : flatF (fs.drop k) = fs[k].1 ++ flatF (fs.drop (k + 1)) := by
 rw [List.drop_eq_getElem_cons hk]
 rfl
set_option maxRecDepth 100000 in
set_option maxHeartbeats 8000000 in
theorem rTk_none {B : Nat} (v : Value) (w : World) (h : By B w v []) : Calls Tryz.prog 65 #[v, .int .i64 16384] w fun e w' => e = .returned (.tuple #[frL {} (.slice none 0 0), .int .i64 0, .agg #[.bool false, .int .i64 0, .int .i64 0]]) ∧ Below w.heap.size w w' := by
 obtain ⟨a, c, rfl, hc, hcm⟩ := h.form
 obtain ⟨r, er⟩ : ∃ r, r = w.heap.size := ⟨_, rfl⟩
 obtain ⟨W0, eW0⟩ : ∃ W0, W0 = (w.alloc (.cells #[.int .i64 0, .int .i64 0, .int .i64 0, S [], .int .i64 0, .slice none 0 0, .int .i64 0, .int .i64 0, .int .i64 0, .int .i64 0, .int .i64 0, .bool false] 34)).alloc (.cells #[.bool false, .int .i64 0, .int .i64 0] 72) := ⟨_, rfl⟩
 have hA : Blk W0 r 34 #[.int .i64 0, .int .i64 0, .int .i64 0, S [], .int .i64 0, .slice none 0 0, .int .i64 0, .int .i64 0, .int .i64 0, .int .i64 0, .int .i64 0, .bool false] := by rw [eW0, er];exact (Blk.new _ _ _).alloc _
 have hC : Blk W0 (r + 1) 72 #[.bool false, .int .i64 0, .int .i64 0] := by rw [eW0, er];exact bnew_at _ _ _ _ (by simp)
 have hB : Below r w W0 := by rw [eW0, er];exact ((Below.refl _ _).alloc (Nat.le_refl _) _).alloc (by simp) _
 have hz0 : W0.heap.size = r + 2 := by rw [eW0, er];simp
 have HZ := Lib.hid hz0
 have ER := Lib.hid er
 clear er hz0
 go_enter Tryz.func65, Tryz.ntmps65
 go_upto_region 1 with fail
 rw [← ER.out, ← eW0]
 clear eW0
 go_upto_region 3 with fail
 refine wp_cut (R := fun W => R3 r W0.heap.size w #[.int .i64 0, .int .i64 0, .int .i64 0, S [], .int .i64 0, .slice none 0 0, .int .i64 0, .int .i64 0, .int .i64 0, .int .i64 0, .int .i64 0, .bool false] W) ⟨hA.alloc _, hC.alloc _, Blk.new _ _ _, hB.alloc (by have := HZ.out;omega) _, by have := HZ.out;omega⟩ ?_
 rintro W6 h6
 (have u0 : W6.cell? ⟨W0.heap.size, 0, none⟩ = some (.int .i64 0) := h6.f.cell 0;have u1 : W6.cell? ⟨W0.heap.size, 1, none⟩ = some (.int .i64 0) := h6.f.cell 1;have u2 : W6.cell? ⟨W0.heap.size, 2, none⟩ = some (.int .i64 0) := h6.f.cell 2;have u3 : W6.cell? ⟨W0.heap.size, 3, none⟩ = some (S []) := h6.f.cell 3;have u4 : W6.cell? ⟨W0.heap.size, 4, none⟩ = some (.int .i64 0) := h6.f.cell 4;have u5 : W6.cell? ⟨W0.heap.size, 5, none⟩ = some (.slice none 0 0) := h6.f.cell 5;have u6 : W6.cell? ⟨W0.heap.size, 6, none⟩ = some (.int .i64 0) := h6.f.cell 6;have u7 : W6.cell? ⟨W0.heap.size, 7, none⟩ = some (.int .i64 0) := h6.f.cell 7;have u8 : W6.cell? ⟨W0.heap.size, 8, none⟩ = some (.int .i64 0) := h6.f.cell 8;have u9 : W6.cell? ⟨W0.heap.size, 9, none⟩ = some (.int .i64 0) := h6.f.cell 9;have u10 : W6.cell? ⟨W0.heap.size, 10, none⟩ = some (.int .i64 0) := h6.f.cell 10;have u11 : W6.cell? ⟨W0.heap.size, 11, none⟩ = some (.bool false) := h6.f.cell 11)
 (have x0 : W6.cell? ⟨r, 0, none⟩ = some (.int .i64 0) := h6.a.cell 0;have x1 : W6.cell? ⟨r, 1, none⟩ = some (.int .i64 0) := h6.a.cell 1;have x2 : W6.cell? ⟨r, 2, none⟩ = some (.int .i64 0) := h6.a.cell 2;have x3 : W6.cell? ⟨r, 3, none⟩ = some (S []) := h6.a.cell 3;have x4 : W6.cell? ⟨r, 4, none⟩ = some (.int .i64 0) := h6.a.cell 4;have x5 : W6.cell? ⟨r, 5, none⟩ = some (.slice none 0 0) := h6.a.cell 5;have x6 : W6.cell? ⟨r, 6, none⟩ = some (.int .i64 0) := h6.a.cell 6;have x7 : W6.cell? ⟨r, 7, none⟩ = some (.int .i64 0) := h6.a.cell 7;have x8 : W6.cell? ⟨r, 8, none⟩ = some (.int .i64 0) := h6.a.cell 8;have x9 : W6.cell? ⟨r, 9, none⟩ = some (.int .i64 0) := h6.a.cell 9;have x10 : W6.cell? ⟨r, 10, none⟩ = some (.int .i64 0) := h6.a.cell 10;have x11 : W6.cell? ⟨r, 11, none⟩ = some (.bool false) := h6.a.cell 11)
 (have y0 : W6.cell? ⟨r + 1, 0, none⟩ = some (.bool false) := h6.c.cell 0;have y1 : W6.cell? ⟨r + 1, 1, none⟩ = some (.int .i64 0) := h6.c.cell 1;have y2 : W6.cell? ⟨r + 1, 2, none⟩ = some (.int .i64 0) := h6.c.cell 2)
 have v0 := h6.a.free 0
 have v1 := h6.a.free 1
 have v2 := h6.a.free 2
 have v3 := h6.a.free 3
 have v4 := h6.a.free 4
 have v5 := h6.a.free 5
 have v6 := h6.a.free 6
 have v7 := h6.a.free 7
 have v8 := h6.a.free 8
 have v9 := h6.a.free 9
 have v10 := h6.a.free 10
 have v11 := h6.a.free 11
 have f0 := h6.c.free 0
 have f1 := h6.c.free 1
 have f2 := h6.c.free 2
 go_wp2
 exact rret_take rfl rfl rfl (oth3 (set12 h6.a _ _ _ _ _ _ _ _ _ _ _ _) (by omega) _ _ _) (set3 (oth12 h6.c (by omega) _ _ _ _ _ _ _ _ _ _ _ _) _ _ _) ⟨rfl, by rw [← ER.out];exact bel3 (bel12 h6.b (Nat.le_refl _) _ _ _ _ _ _ _ _ _ _ _ _) (by omega) _ _ _⟩
set_option maxRecDepth 100000 in
set_option maxHeartbeats 8000000 in
theorem All_of (fs : List (Bytes × Fr)) (hT : ∀ x ∈ fs, RTk x.1 x.2 ∧ 0 < x.1.length) (v : Value) (w : World) (h : By w.heap.size w v (flatF fs)) (hn : fs.length ≤ 1000000) :
  Calls Tryz.prog 25 #[v, .int .i64 16384, .bool false] w fun e w' => ∃ vo its, e = .returned (.tuple #[vo, .int .i64 0, .bool false]) ∧ its.map (fun i => (Itm.f i, Itm.x i)) = fs.map (fun x => (x.2, ({} : Ft))) ∧ w'.ownsRow w.heap.size 74 15 vo fs.length (itcells its) ∧ (∀ i ∈ its, w'.ownsRow w.heap.size 31 2 i.vs i.f.sets.length (scells i.f.sets)) ∧ Below w.heap.size w w' := by
 go_enter Tryz.func25, Tryz.ntmps25
 go_wp2
 go_loopw [0, 10] (fun b out wr => ∃ k its, k ≤ fs.length ∧ By w.heap.size wr b (flatF (fs.drop k)) ∧ its.map (fun i => (Itm.f i, Itm.x i)) = (fs.take k).map (fun x => (x.2, ({} : Ft))) ∧ wr.ownsRow w.heap.size 74 15 out k (itcells its) ∧ (∀ i ∈ its, wr.ownsRow w.heap.size 31 2 i.vs i.f.sets.length (scells i.f.sets)) ∧ Below w.heap.size w wr ∧ ∃ n, n = fs.length - k) (fun b out wr => match out with | .slice _ n _ => fs.length - n | _ => 0)
 case atStart => exact ⟨0, [], Nat.zero_le _, h, rfl, World.ownsRow_nil _ _ _ _, (fun i hi => by cases hi), Below.refl _ _, _, rfl⟩
 case round =>
  obtain ⟨k, its, hk, hb, hits, hrow, hsets, hbel, -⟩ := hrel
  have hz := hbel.size
  by_cases hlt : k < fs.length
  ·obtain ⟨hTk, hlen⟩ := hT fs[k] (List.getElem_mem _)
   have hdr := drop_flat fs k hlt
   obtain ⟨⟨l, f⟩, elf⟩ : ∃ x, x = fs[k] := ⟨_, rfl⟩
   have htk : (fs.take (k + 1)).map (fun x => (x.2, ({} : Ft))) = (fs.take k).map (fun x => (x.2, ({} : Ft))) ++ [(f, ({} : Ft))] := by
    rw [List.take_succ_eq_append_getElem hlt, List.map_append, ← elf]
    rfl
   rw [← elf] at hTk hlen hdr
   dsimp only at hTk hlen hdr
   rw [hdr] at hb
   obtain ⟨rest, er⟩ : ∃ rest, rest = flatF (fs.drop (k + 1)) := ⟨_, rfl⟩
   rw [← er] at hb
   have hTk := hTk rest u0 wr (hb.mono hz)
   obtain ⟨a', c', hb', hsl⟩ := hb.from l.length (by rw [List.length_append];omega)
   rw [List.length_append, Nat.add_sub_cancel_left] at hb' hsl
   rw [List.drop_left] at hb'
   obtain ⟨av, cv, rfl⟩ := own_form hrow
   have n0 : ((l.length : Int) == 0) = false := beq_eq_false_iff_ne.2 (fun e => by omega)
   have n0' : (l.length == 0) = false := beq_eq_false_iff_ne.2 (fun e => by omega)
   have HTK := Lib.hid htk
   have HITS := Lib.hid hits
   have HDR := Lib.hid hdr
   have ER := Lib.hid er
   clear htk hits elf hdr er hlen hT h hb
   go_upto_region 14 with (go_at_call 65;go_must ((with_reducible refine hTk.mono ?_);rintro e w2 ⟨vs, rfl, hs2, hb2⟩;obtain ⟨sa, sc, rfl⟩ := own_form hs2))
   refine wp_cut (R := fun W => Blk W w2.heap.size 34 #[.int .i64 (f.ty : Nat), .int .i64 (f.fl : Nat), .int .i64 (f.st : Nat), S f.data, .int .i64 (f.pad : Nat), .slice sa f.sets.length sc, .int .i64 (f.code : Nat), .int .i64 (f.last : Nat), .int .i64 (f.inc : Nat), .int .i64 (f.dep : Nat), .int .i64 (f.wt : Nat), .bool f.sole] ∧ Blk W (w2.heap.size + 1) 72 #[.bool false, .int .i64 0, .int .i64 0] ∧ Below wr.heap.size wr W ∧ W.ownsRow wr.heap.size 31 2 (.slice sa f.sets.length sc) f.sets.length (scells f.sets)) ⟨(Blk.new _ _ _).alloc _, bnew_at _ _ _ _ (by simp), (hb2.alloc hb2.size _).alloc (by have := hb2.size;simp;omega) _, (hs2.alloc _).alloc _⟩ ?_
   clear hs2 hb2 hTk
   rintro W3 ⟨hF3, hX3, hb3, hs3⟩
   (have g0 : W3.cell? ⟨w2.heap.size, 0, none⟩ = some (.int .i64 (f.ty : Nat)) := hF3.cell 0;have g1 : W3.cell? ⟨w2.heap.size, 1, none⟩ = some (.int .i64 (f.fl : Nat)) := hF3.cell 1;have g2 : W3.cell? ⟨w2.heap.size, 2, none⟩ = some (.int .i64 (f.st : Nat)) := hF3.cell 2;have g3 : W3.cell? ⟨w2.heap.size, 3, none⟩ = some (S f.data) := hF3.cell 3;have g4 : W3.cell? ⟨w2.heap.size, 4, none⟩ = some (.int .i64 (f.pad : Nat)) := hF3.cell 4;have g5 : W3.cell? ⟨w2.heap.size, 5, none⟩ = some (.slice sa f.sets.length sc) := hF3.cell 5;have g6 : W3.cell? ⟨w2.heap.size, 6, none⟩ = some (.int .i64 (f.code : Nat)) := hF3.cell 6;have g7 : W3.cell? ⟨w2.heap.size, 7, none⟩ = some (.int .i64 (f.last : Nat)) := hF3.cell 7;have g8 : W3.cell? ⟨w2.heap.size, 8, none⟩ = some (.int .i64 (f.inc : Nat)) := hF3.cell 8;have g9 : W3.cell? ⟨w2.heap.size, 9, none⟩ = some (.int .i64 (f.dep : Nat)) := hF3.cell 9;have g10 : W3.cell? ⟨w2.heap.size, 10, none⟩ = some (.int .i64 (f.wt : Nat)) := hF3.cell 10;have g11 : W3.cell? ⟨w2.heap.size, 11, none⟩ = some (.bool f.sole) := hF3.cell 11)
   (have x0 : W3.cell? ⟨w2.heap.size + 1, 0, none⟩ = some (.bool false) := hX3.cell 0;have x1 : W3.cell? ⟨w2.heap.size + 1, 1, none⟩ = some (.int .i64 0) := hX3.cell 1;have x2 : W3.cell? ⟨w2.heap.size + 1, 2, none⟩ = some (.int .i64 0) := hX3.cell 2)
   have hrow3 := own_below hrow hb3
   have hz3 := hb3.size
   go_wp2_with (at_builtin;go_must (refine wpList_appAt rfl _ _ 65 rfl w.heap.size 74 (.agg #[.int .i64 0, .int .i64 0, .int .i64 0, .string ByteArray.empty, .int .i64 0, .slice none 0 0, .int .i64 0, .int .i64 0, .int .i64 0, .int .i64 0, .int .i64 0, .bool false, .bool false, .int .i64 0, .int .i64 0]) 15 144 Tryz.underlying65 (by kernel_rfl) rfl (by decide) _ _ _ rfl (hrow3.alloc _) _ _ 1 [.int .i64 (f.ty : Nat), .int .i64 (f.fl : Nat), .int .i64 (f.st : Nat), S f.data, .int .i64 (f.pad : Nat), .slice sa f.sets.length sc, .int .i64 (f.code : Nat), .int .i64 (f.last : Nat), .int .i64 (f.inc : Nat), .int .i64 (f.dep : Nat), .int .i64 (f.wt : Nat), .bool f.sole, .bool false, .int .i64 0, .int .i64 0] rfl (Rd.lit W3 74 #[.int .i64 (f.ty : Nat), .int .i64 (f.fl : Nat), .int .i64 (f.st : Nat), S f.data, .int .i64 (f.pad : Nat), .slice sa f.sets.length sc, .int .i64 (f.code : Nat), .int .i64 (f.last : Nat), .int .i64 (f.inc : Nat), .int .i64 (f.dep : Nat), .int .i64 (f.wt : Nat), .bool f.sole, .bool false, .int .i64 0, .int .i64 0] 15 1 rfl (by decide)) (item_one f {} sa sc) (by unfold maxLen;omega) (by omega) (by simp;omega) ?_;intro a7 c7 w7 hown7 hg7 hat7))
   have hbT : Below w.heap.size wr w7 := Bl.grown ((hb3.mono hz).alloc (Nat.le_trans hz hz3) _) (hrow3.alloc _) hg7 (by simp;omega) (Nat.le_refl _)
   go_roundw
   case rel =>
    refine ⟨k + 1, its ++ [⟨f, {}, .slice sa f.sets.length sc⟩], by omega, by rw [← ER.out];exact hb'.below hbT, by rw [List.map_append, HITS.out, HTK.out];rfl, ?_, ?_, hbel.trans hbT, _, rfl⟩
    ·have q : itcells (its ++ [⟨f, {}, .slice sa f.sets.length sc⟩]) = itcells its ++ [.int .i64 (f.ty : Nat), .int .i64 (f.fl : Nat), .int .i64 (f.st : Nat), S f.data, .int .i64 (f.pad : Nat), .slice sa f.sets.length sc, .int .i64 (f.code : Nat), .int .i64 (f.last : Nat), .int .i64 (f.inc : Nat), .int .i64 (f.dep : Nat), .int .i64 (f.wt : Nat), .bool f.sole, .bool false, .int .i64 0, .int .i64 0] := by simp [itcells, Itm.cells, Fr.cells]
     rw [q]
     exact hown7
    ·intro i hi
     have keep : ∀ {v : Value} {n : Nat} {xs : List Value}, W3.ownsRow w.heap.size 31 2 v n xs → w7.ownsRow w.heap.size 31 2 v n xs := fun {v n xs} hv => by
      refine own_block (hv.alloc _) fun g cur hg _ => hg7.block g (Array.getElem?_eq_some_iff.1 hg).1 fun e1 => ?_
      obtain ⟨cur2, hc2⟩ := own_kind (hrow3.alloc _) e1.symm
      rw [hc2] at hg
      simp at hg
     rcases List.mem_append.1 hi with hi | hi
     ·exact keep (own_below (hsets i hi) hb3)
     ·obtain rfl : i = ⟨f, {}, .slice sa f.sets.length sc⟩ := by simpa using hi
      exact keep (own_base hs3 hz)
   case measure => simp;omega
  ·obtain rfl : k = fs.length := by omega
   rw [List.drop_length] at hb
   replace hb : By w.heap.size wr u0 [] := hb
   rw [List.take_length] at hits
   obtain ⟨a, c, ea, hc, hcm⟩ := hb.form
   rw [List.length_nil] at ea
   subst ea
   have hN := rTk_none _ wr hb
   go_upto_region 14 with (go_at_call 65;go_must ((with_reducible refine hN.mono ?_);rintro e w2 ⟨rfl, hb2⟩))
   refine wp_cut (R := fun W => Blk W (w2.heap.size + 1) 72 #[.bool false, .int .i64 0, .int .i64 0] ∧ Below wr.heap.size wr W) ⟨bnew_at _ _ _ _ (by simp), (hb2.alloc hb2.size _).alloc (by have := hb2.size;simp;omega) _⟩ ?_
   rintro W3 ⟨hX3, hb3⟩
   (have x0 : W3.cell? ⟨w2.heap.size + 1, 0, none⟩ = some (.bool false) := hX3.cell 0;have x1 : W3.cell? ⟨w2.heap.size + 1, 1, none⟩ = some (.int .i64 0) := hX3.cell 1;have x2 : W3.cell? ⟨w2.heap.size + 1, 2, none⟩ = some (.int .i64 0) := hX3.cell 2)
   go_wp2
   refine bodyPost_ret (v := .tuple #[_, .int .i64 0, .bool false]) (by simp [results, Tryz.results25, go_sem];exact rfl) rfl ?_
   exact ⟨_, its, rfl, hits, own_below hrow hb3, fun i hi => own_below (hsets i hi) hb3, hbel.trans (hb3.mono hz)⟩
end Go.Proofs.YtkeeofhjdffhbaaGreatDoor
namespace Go.Proofs.YtkeeofhjdffhbaaGreatDoor
open Go Go.RowKit Go.Dr
variable {w w' : World} {n : Nm} {q q' : Cq}
/-- the block of a request for '/' -/
abbrev dS : Bytes := getB [132]
theorem getX_dS : (32 :: (getX [47]).flatMap encB) = dS := by decide +kernel
theorem dhF_st (ty fl st : Nat) (l : Bytes) (h1 : fl &&& 8 = 0) (h2 : fl &&& 32 = 0) : dhF ty fl st l = some { ty := ty, fl := fl, st := st, data := l } := by
 simp [dhF, h1, h2]
theorem tk_headS {most : Nat} (st : Nat) (h0 : 0 < st) (hst : st < 2147483648) (l : Bytes) (hl : l.length ≤ most) (fl : Nat) (hfl : fl = 4 ∨ fl = 5) : Tk most 1 fl st l { ty := 1, fl := fl, st := st, data := l } := by
 have e0 : (st == 0) = false := beq_eq_false_iff_ne.2 (fun e => by omega)
 rcases hfl with rfl | rfl <;> exact ⟨by decide, by decide, hst, hl, by simp [misF, e0], by simp [sizeF, aheadF], (by rw [openF, if_pos (.inr rfl)];exact dhF_st _ _ _ _ rfl rfl), (by rintro ⟨h, -⟩;cases h), rfl⟩
theorem getS (st : Int) (w : World) : Calls Tryz.prog 21 #[.int .i64 st, .string ⟨#[47]⟩, .bool true] w fun r w' => r = .returned (getV st 5 dS) ∧ Below w.heap.size w w' := by
 have h := Get_any st [47] (.inl rfl) true w
 rw [getX_dS] at h
 exact h
set_option maxHeartbeats 4000000 in
/-- one frame comes -/
theorem Take_one {F : Nat → Prop} {ty fl st : Nat} {pl : Bytes} {f : Fr} (hk : Tk 16384 ty fl st pl f) (w : World) (h : Cw w n q F) (hov : q.over = false) (hpre : q.pre = 24) (vb : Value) (hb : By w.heap.size w vb (frB ty fl st pl)) (q' : Cq)
    (hIt : ∀ w1 F1 sa sc, Cw w1 n { q with news := [] } F1 → (∃ b, w1.ownsRow b 31 2 (.slice sa f.sets.length sc) f.sets.length (scells f.sets)) → Calls Tryz.prog 58 #[Ptr n.c, itmV f (.slice sa f.sets.length sc) {}] w1 fun r w' => r = .returned (.tuple #[]) ∧ Goes w1 n F1 w' q') :
    Calls Tryz.prog 19 #[Ptr n.c, vb] w fun e w' => ∃ v j, e = .returned v ∧ w'.ownsRow n.B 84 10 v j q'.news ∧ Goes w n F w' q' := by
  have hlen := frB_length ty fl st pl
  have hpl := hk.len
  exact Taken_any w h hov vb [(f, ({} : Ft))] (fun k => if k = 0 then { q with news := [], pre := 24 } else q') rfl
    (by intro k hk;obtain rfl : k = 0 := by simpa using hk
        exact hov)
    (fun W F1 hbW eW hW => by
      obtain ⟨m', hx', -⟩ := hW
      have hfd := hx'.feed
      rw [show ({ q with news := [] } : Cq).pre = 24 from hpre] at hfd
      refine take_then (l := frB ty fl st pl) hfd ?_ (by omega) (itemsF_1 hk (by decide) (by omega))
      rw [eW]
      obtain ⟨m, hx, rfl⟩ := h
      exact (hb.off hx.blk hx.no_b8 21 (.slice none 0 0)).mono (Nat.le_of_eq (by simp)))
    (fun k hkl w1 F1 sa sc h1 hs => by
      obtain rfl : k = 0 := by simpa using hkl
      have e : ({ q with news := [], pre := 24 } : Cq) = { q with news := [] } := by rw [← hpre]
      exact hIt w1 F1 sa sc (e ▸ h1) hs)

theorem its_one {its : List Itm} {f : Fr} {x : Ft} (h : its.map (fun i => (Itm.f i, Itm.x i)) = [(f, x)]) : ∃ vs, its = [⟨f, x, vs⟩] := by
 match its, h with
 | [⟨f', x', vs⟩], h =>
  simp only [List.map_cons, List.map_nil, List.cons.injEq, Prod.mk.injEq, and_true] at h
  obtain ⟨rfl, rfl⟩ := h
  exact ⟨vs, rfl⟩
end Go.Proofs.YtkeeofhjdffhbaaGreatDoor
namespace Go.Proofs.YtkeeofhjdffhbaaGreatDoor
open Go Go.RowKit Go.Dr
abbrev f204 : F := ⟨[58, 115, 116, 97, 116, 117, 115], [50, 48, 52], false⟩
set_option maxRecDepth 100000 in
set_option maxHeartbeats 8000000 in
theorem Find_s204 {t : Nat} (w : World) : Calls Tryz.prog 141 #[Ptr t, .agg #[S [58, 115, 116, 97, 116, 117, 115], S [50, 48, 52], .bool false]] w fun e w' => e = .returned (.tuple #[.int .i64 9, .bool true]) ∧ Below w.heap.size w w' := by
 have hi0 : ∀ w : World, (Instr.index 275 (.agg statC) (.int .i64 0)).run Tryz.prog w = .ok (.agg #[S [58, 97, 117, 116, 104, 111, 114, 105, 116, 121], S []]) w := fun w => by kernel_rfl
 have hi1 : ∀ w : World, (Instr.index 275 (.agg statC) (.int .i64 1)).run Tryz.prog w = .ok (.agg #[S [58, 109, 101, 116, 104, 111, 100], S [71, 69, 84]]) w := fun w => by kernel_rfl
 have hi2 : ∀ w : World, (Instr.index 275 (.agg statC) (.int .i64 2)).run Tryz.prog w = .ok (.agg #[S [58, 109, 101, 116, 104, 111, 100], S [80, 79, 83, 84]]) w := fun w => by kernel_rfl
 have hi3 : ∀ w : World, (Instr.index 275 (.agg statC) (.int .i64 3)).run Tryz.prog w = .ok (.agg #[S [58, 112, 97, 116, 104], S [47]]) w := fun w => by kernel_rfl
 have hi4 : ∀ w : World, (Instr.index 275 (.agg statC) (.int .i64 4)).run Tryz.prog w = .ok (.agg #[S [58, 112, 97, 116, 104], S [47, 105, 110, 100, 101, 120, 46, 104, 116, 109, 108]]) w := fun w => by kernel_rfl
 have hi5 : ∀ w : World, (Instr.index 275 (.agg statC) (.int .i64 5)).run Tryz.prog w = .ok (.agg #[S [58, 115, 99, 104, 101, 109, 101], S [104, 116, 116, 112]]) w := fun w => by kernel_rfl
 have hi6 : ∀ w : World, (Instr.index 275 (.agg statC) (.int .i64 6)).run Tryz.prog w = .ok (.agg #[S [58, 115, 99, 104, 101, 109, 101], S [104, 116, 116, 112, 115]]) w := fun w => by kernel_rfl
 have hi7 : ∀ w : World, (Instr.index 275 (.agg statC) (.int .i64 7)).run Tryz.prog w = .ok (.agg #[S [58, 115, 116, 97, 116, 117, 115], S [50, 48, 48]]) w := fun w => by kernel_rfl
 have hi8 : ∀ w : World, (Instr.index 275 (.agg statC) (.int .i64 8)).run Tryz.prog w = .ok (.agg #[S [58, 115, 116, 97, 116, 117, 115], S [50, 48, 52]]) w := fun w => by kernel_rfl
 obtain ⟨W, eW⟩ : ∃ W, W = (w.alloc (.cells #[Ptr t] 159)).alloc (.cells #[S [58, 115, 116, 97, 116, 117, 115], S [50, 48, 52], .bool false] 41) := ⟨_, rfl⟩
 have hF : Blk W (w.heap.size + 1) 41 #[S [58, 115, 116, 97, 116, 117, 115], S [50, 48, 52], .bool false] := by rw [eW];exact bnew_at _ _ _ _ (by simp)
 have hb : Below w.heap.size w W := by rw [eW];exact ((Below.refl _ _).alloc (Nat.le_refl _) _).alloc (by simp) _
 go_enter Tryz.func141, Tryz.ntmps141
 go_wp2_with (go_at_call 189;go_must (rw [← eW];clear eW;(with_reducible refine (Fixed_any _).mono ?_);rintro e w2 ⟨rfl, hb2⟩;have hF2 := hF.on hb2;have hz2 := hF2.lt;have hb02 := hb.trans (hb2.mono hb.size);have z0 : w2.cell? ⟨w.heap.size + 1, 0, none⟩ = some (S [58, 115, 116, 97, 116, 117, 115]) := hF2.cell 0;have z1 : w2.cell? ⟨w.heap.size + 1, 1, none⟩ = some (S [50, 48, 52]) := hF2.cell 1))
 refine wp_loop_rounds 9 ?_
 rw [rounds_succ]
 refine wp_cut (R := fun W => Blk W (w.heap.size + 1) 41 #[S [58, 115, 116, 97, 116, 117, 115], S [50, 48, 52], .bool false] ∧ Below w.heap.size w W) ⟨hF2, hb02⟩ ?_
 clear hb2 z0 z1 hz2 hF2 hb02
 rintro w2 ⟨hF2, hb02⟩
 have hz2 := hF2.lt
 have z0 : w2.cell? ⟨w.heap.size + 1, 0, none⟩ = some (S [58, 115, 116, 97, 116, 117, 115]) := hF2.cell 0
 have z1 : w2.cell? ⟨w.heap.size + 1, 1, none⟩ = some (S [50, 48, 52]) := hF2.cell 1
 go_wp2
 rw [rounds_succ]
 refine wp_cut (R := fun W => Blk W (w.heap.size + 1) 41 #[S [58, 115, 116, 97, 116, 117, 115], S [50, 48, 52], .bool false] ∧ Below w.heap.size w W) ⟨hF2.alloc _, hb02.alloc hb02.size _⟩ ?_
 clear z0 z1 hz2 hF2 hb02
 rintro w2 ⟨hF2, hb02⟩
 have hz2 := hF2.lt
 have z0 : w2.cell? ⟨w.heap.size + 1, 0, none⟩ = some (S [58, 115, 116, 97, 116, 117, 115]) := hF2.cell 0
 have z1 : w2.cell? ⟨w.heap.size + 1, 1, none⟩ = some (S [50, 48, 52]) := hF2.cell 1
 go_wp2
 rw [rounds_succ]
 refine wp_cut (R := fun W => Blk W (w.heap.size + 1) 41 #[S [58, 115, 116, 97, 116, 117, 115], S [50, 48, 52], .bool false] ∧ Below w.heap.size w W) ⟨hF2.alloc _, hb02.alloc hb02.size _⟩ ?_
 clear z0 z1 hz2 hF2 hb02
 rintro w2 ⟨hF2, hb02⟩
 have hz2 := hF2.lt
 have z0 : w2.cell? ⟨w.heap.size + 1, 0, none⟩ = some (S [58, 115, 116, 97, 116, 117, 115]) := hF2.cell 0
 have z1 : w2.cell? ⟨w.heap.size + 1, 1, none⟩ = some (S [50, 48, 52]) := hF2.cell 1
 go_wp2
 rw [rounds_succ]
 refine wp_cut (R := fun W => Blk W (w.heap.size + 1) 41 #[S [58, 115, 116, 97, 116, 117, 115], S [50, 48, 52], .bool false] ∧ Below w.heap.size w W) ⟨hF2.alloc _, hb02.alloc hb02.size _⟩ ?_
 clear z0 z1 hz2 hF2 hb02
 rintro w2 ⟨hF2, hb02⟩
 have hz2 := hF2.lt
 have z0 : w2.cell? ⟨w.heap.size + 1, 0, none⟩ = some (S [58, 115, 116, 97, 116, 117, 115]) := hF2.cell 0
 have z1 : w2.cell? ⟨w.heap.size + 1, 1, none⟩ = some (S [50, 48, 52]) := hF2.cell 1
 go_wp2
 rw [rounds_succ]
 refine wp_cut (R := fun W => Blk W (w.heap.size + 1) 41 #[S [58, 115, 116, 97, 116, 117, 115], S [50, 48, 52], .bool false] ∧ Below w.heap.size w W) ⟨hF2.alloc _, hb02.alloc hb02.size _⟩ ?_
 clear z0 z1 hz2 hF2 hb02
 rintro w2 ⟨hF2, hb02⟩
 have hz2 := hF2.lt
 have z0 : w2.cell? ⟨w.heap.size + 1, 0, none⟩ = some (S [58, 115, 116, 97, 116, 117, 115]) := hF2.cell 0
 have z1 : w2.cell? ⟨w.heap.size + 1, 1, none⟩ = some (S [50, 48, 52]) := hF2.cell 1
 go_wp2
 rw [rounds_succ]
 refine wp_cut (R := fun W => Blk W (w.heap.size + 1) 41 #[S [58, 115, 116, 97, 116, 117, 115], S [50, 48, 52], .bool false] ∧ Below w.heap.size w W) ⟨hF2.alloc _, hb02.alloc hb02.size _⟩ ?_
 clear z0 z1 hz2 hF2 hb02
 rintro w2 ⟨hF2, hb02⟩
 have hz2 := hF2.lt
 have z0 : w2.cell? ⟨w.heap.size + 1, 0, none⟩ = some (S [58, 115, 116, 97, 116, 117, 115]) := hF2.cell 0
 have z1 : w2.cell? ⟨w.heap.size + 1, 1, none⟩ = some (S [50, 48, 52]) := hF2.cell 1
 go_wp2
 rw [rounds_succ]
 refine wp_cut (R := fun W => Blk W (w.heap.size + 1) 41 #[S [58, 115, 116, 97, 116, 117, 115], S [50, 48, 52], .bool false] ∧ Below w.heap.size w W) ⟨hF2.alloc _, hb02.alloc hb02.size _⟩ ?_
 clear z0 z1 hz2 hF2 hb02
 rintro w2 ⟨hF2, hb02⟩
 have hz2 := hF2.lt
 have z0 : w2.cell? ⟨w.heap.size + 1, 0, none⟩ = some (S [58, 115, 116, 97, 116, 117, 115]) := hF2.cell 0
 have z1 : w2.cell? ⟨w.heap.size + 1, 1, none⟩ = some (S [50, 48, 52]) := hF2.cell 1
 go_wp2
 rw [rounds_succ]
 refine wp_cut (R := fun W => Blk W (w.heap.size + 1) 41 #[S [58, 115, 116, 97, 116, 117, 115], S [50, 48, 52], .bool false] ∧ Below w.heap.size w W) ⟨hF2.alloc _, hb02.alloc hb02.size _⟩ ?_
 clear z0 z1 hz2 hF2 hb02
 rintro w2 ⟨hF2, hb02⟩
 have hz2 := hF2.lt
 have z0 : w2.cell? ⟨w.heap.size + 1, 0, none⟩ = some (S [58, 115, 116, 97, 116, 117, 115]) := hF2.cell 0
 have z1 : w2.cell? ⟨w.heap.size + 1, 1, none⟩ = some (S [50, 48, 52]) := hF2.cell 1
 go_wp2
 rw [rounds_succ]
 refine wp_cut (R := fun W => Blk W (w.heap.size + 1) 41 #[S [58, 115, 116, 97, 116, 117, 115], S [50, 48, 52], .bool false] ∧ Below w.heap.size w W) ⟨hF2.alloc _, hb02.alloc hb02.size _⟩ ?_
 clear z0 z1 hz2 hF2 hb02
 rintro w2 ⟨hF2, hb02⟩
 have hz2 := hF2.lt
 have z0 : w2.cell? ⟨w.heap.size + 1, 0, none⟩ = some (S [58, 115, 116, 97, 116, 117, 115]) := hF2.cell 0
 have z1 : w2.cell? ⟨w.heap.size + 1, 1, none⟩ = some (S [50, 48, 52]) := hF2.cell 1
 go_wp2
 go_ret2
 exact ⟨rfl, hb02.alloc hb02.size _⟩
set_option maxRecDepth 100000 in
set_option maxHeartbeats 8000000 in
theorem PutInt_nine (w : World) : Calls Tryz.prog 187 #[.int .u8 128, .int .i64 7, .int .u32 9] w fun e w' => e = .returned (.tuple #[.slice (some ⟨w.heap.size, 0, none⟩) 1 1, .int .i64 0]) ∧ Blk w' w.heap.size 5 #[.int .u8 137] ∧ Below w.heap.size w w' := by
 go_enter Tryz.func187, Tryz.ntmps187
 go_wp2
 go_ret2
 exact ⟨rfl, Blk.new _ _ _, (Below.refl _ _).alloc (Nat.le_refl _) _⟩
set_option maxRecDepth 100000 in
set_option maxHeartbeats 8000000 in
theorem Number_nine (w : World) : Calls Tryz.prog 139 #[.int .u8 128, .int .i64 7, .int .i64 9] w fun e w' => e = .returned (.slice (some ⟨w.heap.size, 0, none⟩) 1 1) ∧ Blk w' w.heap.size 5 #[.int .u8 137] ∧ Below w.heap.size w w' := by
 go_enter Tryz.func139, Tryz.ntmps139
 go_wp2_with (go_at_call 187;go_must ((with_reducible refine (PutInt_nine _).mono ?_);rintro e w2 ⟨rfl, hB2, hb2⟩))
 go_ret
 exact ⟨rfl, hB2, hb2⟩
set_option maxRecDepth 100000 in
set_option maxHeartbeats 8000000 in
theorem Way_s204 {e t : Nat} (w : World) (hE : Blk w e 181 #[.int .i64 4096, .int .i64 4096, .int .i64 4096, Ptr t]) : Calls Tryz.prog 101 #[Ptr e, .agg #[S f204.n, S f204.v, .bool false]] w fun r w' => r = .returned (.func (.func 142) #[Ptr e] #[]) ∧ Below w.heap.size w w' := by
 have hmf : ∀ (fn : Fn) (first cap : Array Value) (w : World), (Instr.makeFunc fn first cap).run Tryz.prog w = .ok (.func fn first cap) w := fun _ _ _ _ => rfl
 obtain ⟨W, eW⟩ : ∃ W, W = w.alloc (.cells #[S f204.n, S f204.v, .bool false] 41) := ⟨_, rfl⟩
 have hF : Blk W w.heap.size 41 #[S f204.n, S f204.v, .bool false] := by rw [eW];exact Blk.new _ _ _
 have hb : Below w.heap.size w W := by rw [eW];exact (Below.refl _ _).alloc (Nat.le_refl _) _
 have z0 : W.cell? ⟨w.heap.size, 0, none⟩ = some (S f204.n) := hF.cell 0
 have z1 : W.cell? ⟨w.heap.size, 1, none⟩ = some (S f204.v) := hF.cell 1
 have z2 : W.cell? ⟨w.heap.size, 2, none⟩ = some (.bool false) := hF.cell 2
 have y3 : W.cell? ⟨e, 3, none⟩ = some (Ptr t) := (hE.on hb).cell 3
 go_enter Tryz.func101, Tryz.ntmps101
 go_upto_region 1 with fail
 rw [← eW]
 clear eW
 go_wp2
 go_region_with (go_at_call 141;go_must ((with_reducible refine (Find_s204 _).mono ?_);rintro e w2 ⟨rfl, hb2⟩))
 all_goals go_wp2
 all_goals go_ret
 all_goals exact ⟨rfl, hb.drew.trans (hb2.mono hb.size)⟩
set_option maxRecDepth 100000 in
set_option maxHeartbeats 8000000 in
theorem Found_s204 {e t : Nat} (w : World) (hE : Blk w e 181 #[.int .i64 4096, .int .i64 4096, .int .i64 4096, Ptr t]) : Calls Tryz.prog 142 #[Ptr e, .agg #[S f204.n, S f204.v, .bool false]] w fun r w' => ∃ g, w.heap.size ≤ g ∧ r = .returned (.slice (some ⟨g, 0, none⟩) 1 1) ∧ Blk w' g 5 #[.int .u8 137] ∧ Below w.heap.size w w' := by
 obtain ⟨W, eW⟩ : ∃ W, W = w.alloc (.cells #[S f204.n, S f204.v, .bool false] 41) := ⟨_, rfl⟩
 have hF : Blk W w.heap.size 41 #[S f204.n, S f204.v, .bool false] := by rw [eW];exact Blk.new _ _ _
 have hb : Below w.heap.size w W := by rw [eW];exact (Below.refl _ _).alloc (Nat.le_refl _) _
 have z0 : W.cell? ⟨w.heap.size, 0, none⟩ = some (S f204.n) := hF.cell 0
 have z1 : W.cell? ⟨w.heap.size, 1, none⟩ = some (S f204.v) := hF.cell 1
 have z2 : W.cell? ⟨w.heap.size, 2, none⟩ = some (.bool false) := hF.cell 2
 have y3 : W.cell? ⟨e, 3, none⟩ = some (Ptr t) := (hE.on hb).cell 3
 go_enter Tryz.func142, Tryz.ntmps142
 go_upto_region 1 with fail
 rw [← eW]
 clear eW
 go_region_with (go_at_call 141;go_must ((with_reducible refine (Find_s204 _).mono ?_);rintro r w2 ⟨rfl, hb2⟩))
 all_goals (
  go_wp2_with (go_at_call 139;go_must ((with_reducible refine (Number_nine _).mono ?_);rintro r w3 ⟨rfl, hB3, hb3⟩))
  go_ret
  have hb02 := hb.drew.trans (hb2.mono hb.size)
  exact ⟨_, hb02.size, rfl, hB3, hb02.trans (hb3.mono hb02.size)⟩)
set_option maxRecDepth 100000 in
set_option maxHeartbeats 8000000 in
theorem Encode_s204 {e t B : Nat} {v : Value} (w : World) (hE : Blk w e 181 #[.int .i64 4096, .int .i64 4096, .int .i64 4096, Ptr t]) (ht : w.cell? ⟨t, 0, none⟩ = some (.int .i64 4096)) (hte : t ≠ e) (hv : w.ownsRow B 41 3 v 1 (fcells [f204])) (heB : e < B) :
  Calls Tryz.prog 61 #[Ptr e, v] w fun r w' => ∃ x, r = .returned x ∧ w'.ownsRow w.heap.size 5 1 x 1 [B8 137] ∧ Blk w' e 181 #[.int .i64 4096, .int .i64 4096, .int .i64 4096, Ptr t] ∧ But (fun k => k = e) w w' := by
 have hSz := Sizes_same w hE ht hte
 obtain ⟨va, vc, rfl⟩ := own_form hv
 go_enter Tryz.func61, Tryz.ntmps61
 go_wp2_with (go_at_call 100;go_must ((with_reducible refine hSz.mono ?_);rintro r w2 ⟨rfl, hE2, hb2⟩))
 have hv2 := own_same hv (fun g hg => hb2.block g (hv.lt g hg.symm).2 (fun h => by have := (hv.lt g hg.symm).1;omega))
 obtain ⟨b, off, eab, hbl, x0, x1, x2⟩ := Fs.at (Fs.own hv2) 0 (by decide)
 subst eab
 rw [Nat.zero_mul, Nat.add_zero] at x0 x1 x2
 have x0 : w2.cell? ⟨b, off, none⟩ = some (S f204.n) := x0
 have x1 : w2.cell? ⟨b, off + 1, none⟩ = some (S f204.v) := x1
 have x2 : w2.cell? ⟨b, off + 2, none⟩ = some (.bool false) := x2
 have hz2 := hb2.size
 obtain ⟨W, eW⟩ : ∃ W, W = w2.alloc (.cells #[S f204.n, S f204.v, .bool false] 41) := ⟨_, rfl⟩
 have hF : Blk W w2.heap.size 41 #[S f204.n, S f204.v, .bool false] := by rw [eW];exact Blk.new _ _ _
 have hb : Below w2.heap.size w2 W := by rw [eW];exact (Below.refl _ _).alloc (Nat.le_refl _) _
 have z0 : W.cell? ⟨w2.heap.size, 0, none⟩ = some (S f204.n) := hF.cell 0
 have z1 : W.cell? ⟨w2.heap.size, 1, none⟩ = some (S f204.v) := hF.cell 1
 have z2 : W.cell? ⟨w2.heap.size, 2, none⟩ = some (.bool false) := hF.cell 2
 have hEW := hE2.on hb
 have hWy := Way_s204 W hEW
 refine wp_loop_rounds 2 ?_
 rw [rounds_succ]
 go_upto_region 7 with fail
 rw [← eW]
 clear eW
 go_wp2_with first
  | (go_at_call 101;go_must ((with_reducible refine hWy.mono ?_);rintro r w3 ⟨rfl, hb3⟩;have hF3 := hF.on hb3;have y0 : w3.cell? ⟨w2.heap.size, 0, none⟩ = some (S f204.n) := hF3.cell 0;have y1 : w3.cell? ⟨w2.heap.size, 1, none⟩ = some (S f204.v) := hF3.cell 1;have y2 : w3.cell? ⟨w2.heap.size, 2, none⟩ = some (.bool false) := hF3.cell 2;have hFo := Found_s204 w3 (hEW.on hb3);have hb23 := hb.trans (hb3.mono hb.size)))
  | (go_at_call 142;go_must ((with_reducible refine hFo.mono ?_);rintro r w4 ⟨g, hg, rfl, hB4, hb4⟩;have hb24 := hb23.trans (hb4.mono hb23.size)))
  | (at_builtin;refine wpList_appAt rfl _ _ 26 rfl w.heap.size 5 (.int .u8 0) 1 1 Tryz.underlying26 (by kernel_rfl) rfl (by decide) _ _ _ rfl (World.ownsRow_nil _ _ _ _) w4.heap.size _ 1 [B8 137] rfl (Rd.own (own_of_blk hB4 hg rfl rfl (by unfold maxLen;omega))) (by intro u hu;simp at hu;subst hu;rfl) (by unfold maxLen;omega) (by omega) (by have := hb24.size;omega) ?_;intro a5 c5 w5 hown5 hg5 hat5)
 rw [rounds_succ]
 go_wp2
 go_ret
 refine ⟨_, rfl, hown5, ((hEW.on hb3).on hb4).but (but_grow hg5) (fun h => by cases h), ?_⟩
 exact (hb2.trans (But.of_below (S := fun k => k = e) hb24)).trans ((but_grow hg5).more fun g hg => by cases hg)
set_option maxRecDepth 100000 in
set_option maxHeartbeats 8000000 in
theorem Digits_204 (w : World) : Calls Tryz.prog 98 #[.int .i64 204] w fun e w' => e = .returned (S [50, 48, 52]) ∧ Below w.heap.size w w' := by
 have h := Digits_any 204 w (by decide)
 rw [show digs 204 = [50, 48, 52] by decide +kernel] at h
 exact h
set_option maxRecDepth 100000 in
set_option maxHeartbeats 8000000 in
theorem Answer_204 (w : World) : Calls Tryz.prog 60 #[.int .i64 204, .slice none 0 0] w fun e w' => ∃ B v, e = .returned (.tuple #[v, .int .i64 0]) ∧ w.heap.size ≤ B ∧ w'.ownsRow B 41 3 v 1 (fcells [f204]) ∧ Below w.heap.size w w' := by
 go_enter Tryz.func60, Tryz.ntmps60
 go_wp2_with (go_at_call 98;go_must ((with_reducible refine (Digits_204 _).mono ?_);rintro r w2 ⟨rfl, hb2⟩))
 refine wp_loop_rounds 1 ?_
 rw [rounds_succ]
 go_wp2
 go_ret2
 exact ⟨w2.heap.size, _, rfl, hb2.size, own_of_blk (Blk.new _ _ _) (Nat.le_refl _) rfl rfl (by unfold maxLen;omega), hb2.alloc hb2.size _⟩
end Go.Proofs.YtkeeofhjdffhbaaGreatDoor
