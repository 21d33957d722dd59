/- Parts of the proof of dp_root: the texts Rtk4 Law22f. -/
import Derived.Test.YtlkfmhbmcicmfaaGreatDoorQ27
import Derived.Test.YtlkfmhbmcicmfaaGreatDoorQ28
import Derived.Test.YtlkfmhbmcicmfaaGreatDoorQ30
set_option linter.unusedSimpArgs false
set_option linter.unusedVariables false
set_option linter.unnecessarySimpa false
namespace Go.Proofs.YtlkfmhbmcicmfaaGreatDoor
open Go Go.RowKit Go.Dr

/-- frames as they were written, and what they say -/
abbrev flatF (fs : List (Bytes × Fr)) : Bytes := fs.flatMap (·.1)
abbrev frL (f : Fr) (vs : Value) : Value := .agg #[.int .i64 (f.ty : Nat), .int .i64 (f.fl : Nat), .int .i64 (f.st : Nat), S f.data, .int .i64 (f.pad : Nat), vs, .int .i64 (f.code : Nat), .int .i64 (f.last : Nat), .int .i64 (f.inc : Nat), .int .i64 (f.dep : Nat), .int .i64 (f.wt : Nat), .bool f.sole]
theorem drop_flat (fs : List (Bytes × Fr)) (k : Nat) (hk : k < fs.length) : flatF (fs.drop k) = fs[k].1 ++ flatF (fs.drop (k + 1)) := by
  rw [List.drop_eq_getElem_cons hk]
  rfl

set_option maxRecDepth 100000 in
set_option maxHeartbeats 8000000 in
theorem rTk_none {B : Nat} (v : Value) (w : World) (h : By B w v []) : Calls Tryz.prog 68 #[v, .int .i64 16384] w fun e w' => e = .returned (.tuple #[frL {} (.slice none 0 0), .int .i64 0, .agg #[.bool false, .int .i64 0, .int .i64 0]]) ∧ Below w.heap.size w w' := by
  obtain ⟨a, c, rfl, hc, hcm⟩ := h.form
  obtain ⟨r, er⟩ : ∃ r, r = w.heap.size := ⟨_, rfl⟩
  obtain ⟨W0, eW0⟩ : ∃ W0, W0 = (w.alloc (.cells #[.int .i64 0, .int .i64 0, .int .i64 0, S [], .int .i64 0, .slice none 0 0, .int .i64 0, .int .i64 0, .int .i64 0, .int .i64 0, .int .i64 0, .bool false] 34)).alloc (.cells #[.bool false, .int .i64 0, .int .i64 0] 70) := ⟨_, rfl⟩
  have hA : Blk W0 r 34 #[.int .i64 0, .int .i64 0, .int .i64 0, S [], .int .i64 0, .slice none 0 0, .int .i64 0, .int .i64 0, .int .i64 0, .int .i64 0, .int .i64 0, .bool false] := by rw [eW0, er]; exact (Blk.new _ _ _).alloc _
  have hC : Blk W0 (r + 1) 70 #[.bool false, .int .i64 0, .int .i64 0] := by rw [eW0, er]; exact bnew_at _ _ _ _ (by simp)
  have hB : Below r w W0 := by rw [eW0, er]; exact ((Below.refl _ _).alloc (Nat.le_refl _) _).alloc (by simp) _
  have hz0 : W0.heap.size = r + 2 := by rw [eW0, er]; simp
  have HZ := Lib.hid hz0
  have ER := Lib.hid er
  clear er hz0
  go_enter Tryz.func68, Tryz.ntmps68
  go_upto_region 1 with fail
  rw [← ER.out, ← eW0]
  clear eW0
  go_upto_region 3 with fail
  refine wp_cut (R := fun W => R3 r W0.heap.size w #[.int .i64 0, .int .i64 0, .int .i64 0, S [], .int .i64 0, .slice none 0 0, .int .i64 0, .int .i64 0, .int .i64 0, .int .i64 0, .int .i64 0, .bool false] W) ⟨hA.alloc _, hC.alloc _, Blk.new _ _ _, hB.alloc (by have := HZ.out; omega) _, by have := HZ.out; omega⟩ ?_
  rintro W6 h6
  (have u0 : W6.cell? ⟨W0.heap.size, 0, none⟩ = some (.int .i64 0) := h6.f.cell 0; have u1 : W6.cell? ⟨W0.heap.size, 1, none⟩ = some (.int .i64 0) := h6.f.cell 1; have u2 : W6.cell? ⟨W0.heap.size, 2, none⟩ = some (.int .i64 0) := h6.f.cell 2; have u3 : W6.cell? ⟨W0.heap.size, 3, none⟩ = some (S []) := h6.f.cell 3; have u4 : W6.cell? ⟨W0.heap.size, 4, none⟩ = some (.int .i64 0) := h6.f.cell 4; have u5 : W6.cell? ⟨W0.heap.size, 5, none⟩ = some (.slice none 0 0) := h6.f.cell 5; have u6 : W6.cell? ⟨W0.heap.size, 6, none⟩ = some (.int .i64 0) := h6.f.cell 6; have u7 : W6.cell? ⟨W0.heap.size, 7, none⟩ = some (.int .i64 0) := h6.f.cell 7; have u8 : W6.cell? ⟨W0.heap.size, 8, none⟩ = some (.int .i64 0) := h6.f.cell 8; have u9 : W6.cell? ⟨W0.heap.size, 9, none⟩ = some (.int .i64 0) := h6.f.cell 9; have u10 : W6.cell? ⟨W0.heap.size, 10, none⟩ = some (.int .i64 0) := h6.f.cell 10; have u11 : W6.cell? ⟨W0.heap.size, 11, none⟩ = some (.bool false) := h6.f.cell 11)
  (have x0 : W6.cell? ⟨r, 0, none⟩ = some (.int .i64 0) := h6.a.cell 0; have x1 : W6.cell? ⟨r, 1, none⟩ = some (.int .i64 0) := h6.a.cell 1; have x2 : W6.cell? ⟨r, 2, none⟩ = some (.int .i64 0) := h6.a.cell 2; have x3 : W6.cell? ⟨r, 3, none⟩ = some (S []) := h6.a.cell 3; have x4 : W6.cell? ⟨r, 4, none⟩ = some (.int .i64 0) := h6.a.cell 4; have x5 : W6.cell? ⟨r, 5, none⟩ = some (.slice none 0 0) := h6.a.cell 5; have x6 : W6.cell? ⟨r, 6, none⟩ = some (.int .i64 0) := h6.a.cell 6; have x7 : W6.cell? ⟨r, 7, none⟩ = some (.int .i64 0) := h6.a.cell 7; have x8 : W6.cell? ⟨r, 8, none⟩ = some (.int .i64 0) := h6.a.cell 8; have x9 : W6.cell? ⟨r, 9, none⟩ = some (.int .i64 0) := h6.a.cell 9; have x10 : W6.cell? ⟨r, 10, none⟩ = some (.int .i64 0) := h6.a.cell 10; have x11 : W6.cell? ⟨r, 11, none⟩ = some (.bool false) := h6.a.cell 11)
  (have y0 : W6.cell? ⟨r + 1, 0, none⟩ = some (.bool false) := h6.c.cell 0; have y1 : W6.cell? ⟨r + 1, 1, none⟩ = some (.int .i64 0) := h6.c.cell 1; have y2 : W6.cell? ⟨r + 1, 2, none⟩ = some (.int .i64 0) := h6.c.cell 2)
  have v0 := h6.a.free 0
  have v1 := h6.a.free 1
  have v2 := h6.a.free 2
  have v3 := h6.a.free 3
  have v4 := h6.a.free 4
  have v5 := h6.a.free 5
  have v6 := h6.a.free 6
  have v7 := h6.a.free 7
  have v8 := h6.a.free 8
  have v9 := h6.a.free 9
  have v10 := h6.a.free 10
  have v11 := h6.a.free 11
  have f0 := h6.c.free 0
  have f1 := h6.c.free 1
  have f2 := h6.c.free 2
  go_wp2
  exact rret_take rfl rfl rfl (oth3 (set12 h6.a _ _ _ _ _ _ _ _ _ _ _ _) (by omega) _ _ _) (set3 (oth12 h6.c (by omega) _ _ _ _ _ _ _ _ _ _ _ _) _ _ _) ⟨rfl, by rw [← ER.out]; exact bel3 (bel12 h6.b (Nat.le_refl _) _ _ _ _ _ _ _ _ _ _ _ _) (by omega) _ _ _⟩

set_option maxRecDepth 100000 in
set_option maxHeartbeats 8000000 in
theorem All_of (fs : List (Bytes × Fr)) (hT : ∀ x ∈ fs, RTk x.1 x.2 ∧ 0 < x.1.length) (v : Value) (w : World) (h : By w.heap.size w v (flatF fs)) (hn : fs.length ≤ 1000000) :
    Calls Tryz.prog 29 #[v, .int .i64 16384, .bool false] w fun e w' => ∃ vo its, e = .returned (.tuple #[vo, .int .i64 0, .bool false]) ∧ its.map (fun i => (Itm.f i, Itm.x i)) = fs.map (fun x => (x.2, ({} : Ft))) ∧ w'.ownsRow w.heap.size 72 15 vo fs.length (itcells its) ∧ (∀ i ∈ its, w'.ownsRow w.heap.size 31 2 i.vs i.f.sets.length (scells i.f.sets)) ∧ Below w.heap.size w w' := by
  go_enter Tryz.func29, Tryz.ntmps29
  go_wp2
  go_loopw [0, 10] (fun b out wr => ∃ k its, k ≤ fs.length ∧ By w.heap.size wr b (flatF (fs.drop k)) ∧ its.map (fun i => (Itm.f i, Itm.x i)) = (fs.take k).map (fun x => (x.2, ({} : Ft))) ∧ wr.ownsRow w.heap.size 72 15 out k (itcells its) ∧ (∀ i ∈ its, wr.ownsRow w.heap.size 31 2 i.vs i.f.sets.length (scells i.f.sets)) ∧ Below w.heap.size w wr ∧ ∃ n, n = fs.length - k) (fun b out wr => match out with | .slice _ n _ => fs.length - n | _ => 0)
  case atStart => exact ⟨0, [], Nat.zero_le _, h, rfl, World.ownsRow_nil _ _ _ _, (fun i hi => by cases hi), Below.refl _ _, _, rfl⟩
  case round =>
    obtain ⟨k, its, hk, hb, hits, hrow, hsets, hbel, -⟩ := hrel
    have hz := hbel.size
    by_cases hlt : k < fs.length
    · obtain ⟨hTk, hlen⟩ := hT fs[k] (List.getElem_mem _)
      have hdr := drop_flat fs k hlt
      obtain ⟨⟨l, f⟩, elf⟩ : ∃ x, x = fs[k] := ⟨_, rfl⟩
      have htk : (fs.take (k + 1)).map (fun x => (x.2, ({} : Ft))) = (fs.take k).map (fun x => (x.2, ({} : Ft))) ++ [(f, ({} : Ft))] := by
        rw [List.take_succ_eq_append_getElem hlt, List.map_append, ← elf]
        rfl
      rw [← elf] at hTk hlen hdr
      dsimp only at hTk hlen hdr
      rw [hdr] at hb
      obtain ⟨rest, er⟩ : ∃ rest, rest = flatF (fs.drop (k + 1)) := ⟨_, rfl⟩
      rw [← er] at hb
      have hTk := hTk rest u0 wr (hb.mono hz)
      obtain ⟨a', c', hb', hsl⟩ := hb.from l.length (by rw [List.length_append]; omega)
      rw [List.length_append, Nat.add_sub_cancel_left] at hb' hsl
      rw [List.drop_left] at hb'
      obtain ⟨av, cv, rfl⟩ := own_form hrow
      have n0 : ((l.length : Int) == 0) = false := beq_eq_false_iff_ne.2 (fun e => by omega)
      have n0' : (l.length == 0) = false := beq_eq_false_iff_ne.2 (fun e => by omega)
      have HTK := Lib.hid htk
      have HITS := Lib.hid hits
      have HDR := Lib.hid hdr
      have ER := Lib.hid er
      clear htk hits elf hdr er hlen hT h hb
      go_upto_region 14 with (go_at_call 68; go_must ((with_reducible refine hTk.mono ?_); rintro e w2 ⟨vs, rfl, hs2, hb2⟩; obtain ⟨sa, sc, rfl⟩ := own_form hs2))
      refine wp_cut (R := fun W => Blk W w2.heap.size 34 #[.int .i64 (f.ty : Nat), .int .i64 (f.fl : Nat), .int .i64 (f.st : Nat), S f.data, .int .i64 (f.pad : Nat), .slice sa f.sets.length sc, .int .i64 (f.code : Nat), .int .i64 (f.last : Nat), .int .i64 (f.inc : Nat), .int .i64 (f.dep : Nat), .int .i64 (f.wt : Nat), .bool f.sole] ∧ Blk W (w2.heap.size + 1) 70 #[.bool false, .int .i64 0, .int .i64 0] ∧ Below wr.heap.size wr W ∧ W.ownsRow wr.heap.size 31 2 (.slice sa f.sets.length sc) f.sets.length (scells f.sets)) ⟨(Blk.new _ _ _).alloc _, bnew_at _ _ _ _ (by simp), (hb2.alloc hb2.size _).alloc (by have := hb2.size; simp; omega) _, (hs2.alloc _).alloc _⟩ ?_
      clear hs2 hb2 hTk
      rintro W3 ⟨hF3, hX3, hb3, hs3⟩
      (have g0 : W3.cell? ⟨w2.heap.size, 0, none⟩ = some (.int .i64 (f.ty : Nat)) := hF3.cell 0; have g1 : W3.cell? ⟨w2.heap.size, 1, none⟩ = some (.int .i64 (f.fl : Nat)) := hF3.cell 1; have g2 : W3.cell? ⟨w2.heap.size, 2, none⟩ = some (.int .i64 (f.st : Nat)) := hF3.cell 2; have g3 : W3.cell? ⟨w2.heap.size, 3, none⟩ = some (S f.data) := hF3.cell 3; have g4 : W3.cell? ⟨w2.heap.size, 4, none⟩ = some (.int .i64 (f.pad : Nat)) := hF3.cell 4; have g5 : W3.cell? ⟨w2.heap.size, 5, none⟩ = some (.slice sa f.sets.length sc) := hF3.cell 5; have g6 : W3.cell? ⟨w2.heap.size, 6, none⟩ = some (.int .i64 (f.code : Nat)) := hF3.cell 6; have g7 : W3.cell? ⟨w2.heap.size, 7, none⟩ = some (.int .i64 (f.last : Nat)) := hF3.cell 7; have g8 : W3.cell? ⟨w2.heap.size, 8, none⟩ = some (.int .i64 (f.inc : Nat)) := hF3.cell 8; have g9 : W3.cell? ⟨w2.heap.size, 9, none⟩ = some (.int .i64 (f.dep : Nat)) := hF3.cell 9; have g10 : W3.cell? ⟨w2.heap.size, 10, none⟩ = some (.int .i64 (f.wt : Nat)) := hF3.cell 10; have g11 : W3.cell? ⟨w2.heap.size, 11, none⟩ = some (.bool f.sole) := hF3.cell 11)
      (have x0 : W3.cell? ⟨w2.heap.size + 1, 0, none⟩ = some (.bool false) := hX3.cell 0; have x1 : W3.cell? ⟨w2.heap.size + 1, 1, none⟩ = some (.int .i64 0) := hX3.cell 1; have x2 : W3.cell? ⟨w2.heap.size + 1, 2, none⟩ = some (.int .i64 0) := hX3.cell 2)
      have hrow3 := own_below hrow hb3
      have hz3 := hb3.size
      go_wp2_with (at_builtin; go_must (refine wpList_appAt rfl _ _ 66 rfl w.heap.size 72 (.agg #[.int .i64 0, .int .i64 0, .int .i64 0, .string ByteArray.empty, .int .i64 0, .slice none 0 0, .int .i64 0, .int .i64 0, .int .i64 0, .int .i64 0, .int .i64 0, .bool false, .bool false, .int .i64 0, .int .i64 0]) 15 144 Tryz.underlying66 (by kernel_rfl) rfl (by decide) _ _ _ rfl (hrow3.alloc _) _ _ 1 [.int .i64 (f.ty : Nat), .int .i64 (f.fl : Nat), .int .i64 (f.st : Nat), S f.data, .int .i64 (f.pad : Nat), .slice sa f.sets.length sc, .int .i64 (f.code : Nat), .int .i64 (f.last : Nat), .int .i64 (f.inc : Nat), .int .i64 (f.dep : Nat), .int .i64 (f.wt : Nat), .bool f.sole, .bool false, .int .i64 0, .int .i64 0] rfl (Rd.lit W3 72 #[.int .i64 (f.ty : Nat), .int .i64 (f.fl : Nat), .int .i64 (f.st : Nat), S f.data, .int .i64 (f.pad : Nat), .slice sa f.sets.length sc, .int .i64 (f.code : Nat), .int .i64 (f.last : Nat), .int .i64 (f.inc : Nat), .int .i64 (f.dep : Nat), .int .i64 (f.wt : Nat), .bool f.sole, .bool false, .int .i64 0, .int .i64 0] 15 1 rfl (by decide)) (item_one f {} sa sc) (by unfold maxLen; omega) (by omega) (by simp; omega) ?_; intro a7 c7 w7 hown7 hg7 hat7))
      have hbT : Below w.heap.size wr w7 := Bl.grown ((hb3.mono hz).alloc (Nat.le_trans hz hz3) _) (hrow3.alloc _) hg7 (by simp; omega) (Nat.le_refl _)
      go_roundw
      case rel =>
        refine ⟨k + 1, its ++ [⟨f, {}, .slice sa f.sets.length sc⟩], by omega, by rw [← ER.out]; exact hb'.below hbT, by rw [List.map_append, HITS.out, HTK.out]; rfl, ?_, ?_, hbel.trans hbT, _, rfl⟩
        · have q : itcells (its ++ [⟨f, {}, .slice sa f.sets.length sc⟩]) = itcells its ++ [.int .i64 (f.ty : Nat), .int .i64 (f.fl : Nat), .int .i64 (f.st : Nat), S f.data, .int .i64 (f.pad : Nat), .slice sa f.sets.length sc, .int .i64 (f.code : Nat), .int .i64 (f.last : Nat), .int .i64 (f.inc : Nat), .int .i64 (f.dep : Nat), .int .i64 (f.wt : Nat), .bool f.sole, .bool false, .int .i64 0, .int .i64 0] := by simp [itcells, Itm.cells, Fr.cells]
          rw [q]
          exact hown7
        · intro i hi
          have keep : ∀ {v : Value} {n : Nat} {xs : List Value}, W3.ownsRow w.heap.size 31 2 v n xs → w7.ownsRow w.heap.size 31 2 v n xs := fun {v n xs} hv => by
            refine own_block (hv.alloc _) fun g cur hg _ => hg7.block g (Array.getElem?_eq_some_iff.1 hg).1 fun e1 => ?_
            obtain ⟨cur2, hc2⟩ := own_kind (hrow3.alloc _) e1.symm
            rw [hc2] at hg
            simp at hg
          rcases List.mem_append.1 hi with hi | hi
          · exact keep (own_below (hsets i hi) hb3)
          · obtain rfl : i = ⟨f, {}, .slice sa f.sets.length sc⟩ := by simpa using hi
            exact keep (own_base hs3 hz)
      case measure => simp; omega
    · obtain rfl : k = fs.length := by omega
      rw [List.drop_length] at hb
      replace hb : By w.heap.size wr u0 [] := hb
      rw [List.take_length] at hits
      obtain ⟨a, c, ea, hc, hcm⟩ := hb.form
      rw [List.length_nil] at ea
      subst ea
      have hN := rTk_none _ wr hb
      go_upto_region 14 with (go_at_call 68; go_must ((with_reducible refine hN.mono ?_); rintro e w2 ⟨rfl, hb2⟩))
      refine wp_cut (R := fun W => Blk W (w2.heap.size + 1) 70 #[.bool false, .int .i64 0, .int .i64 0] ∧ Below wr.heap.size wr W) ⟨bnew_at _ _ _ _ (by simp), (hb2.alloc hb2.size _).alloc (by have := hb2.size; simp; omega) _⟩ ?_
      rintro W3 ⟨hX3, hb3⟩
      (have x0 : W3.cell? ⟨w2.heap.size + 1, 0, none⟩ = some (.bool false) := hX3.cell 0; have x1 : W3.cell? ⟨w2.heap.size + 1, 1, none⟩ = some (.int .i64 0) := hX3.cell 1; have x2 : W3.cell? ⟨w2.heap.size + 1, 2, none⟩ = some (.int .i64 0) := hX3.cell 2)
      go_wp2
      refine bodyPost_ret (v := .tuple #[_, .int .i64 0, .bool false]) (by simp [results, Tryz.results29, go_sem]; exact rfl) rfl ?_
      exact ⟨_, its, rfl, hits, own_below hrow hb3, fun i hi => own_below (hsets i hi) hb3, hbel.trans (hb3.mono hz)⟩
end Go.Proofs.YtlkfmhbmcicmfaaGreatDoor

namespace Go.Proofs.YtlkfmhbmcicmfaaGreatDoor
open Go Go.RowKit Go.Dr
variable {w w' : World} {n : Nm} {q q' : Cq}

/-- the block of a request for '/' -/
abbrev dS : Bytes := getB [132]
theorem getX_dS : (32 :: (getX [47]).flatMap encB) = dS := by decide +kernel
theorem dhF_st (ty fl st : Nat) (l : Bytes) (h1 : fl &&& 8 = 0) (h2 : fl &&& 32 = 0) : dhF ty fl st l = some { ty := ty, fl := fl, st := st, data := l } := by
  simp [dhF, h1, h2]
theorem tk_headS {most : Nat} (st : Nat) (h0 : 0 < st) (hst : st < 2147483648) (l : Bytes) (hl : l.length ≤ most) (fl : Nat) (hfl : fl = 4 ∨ fl = 5) : Tk most 1 fl st l { ty := 1, fl := fl, st := st, data := l } := by
  have e0 : (st == 0) = false := beq_eq_false_iff_ne.2 (fun e => by omega)
  rcases hfl with rfl | rfl <;> exact ⟨by decide, by decide, hst, hl, by simp [misF, e0], by simp [sizeF, aheadF], (by rw [openF, if_pos (.inr rfl)]; exact dhF_st _ _ _ _ rfl rfl), (by rintro ⟨h, -⟩; cases h), rfl⟩

theorem getS (st : Int) (w : World) : Calls Tryz.prog 26 #[.int .i64 st, .string ⟨#[47]⟩, .bool true] w fun r w' => r = .returned (getV st 5 dS) ∧ Below w.heap.size w w' := by
  have h := Get_any st [47] (.inl rfl) true w
  rw [getX_dS] at h
  exact h
theorem bytesS {g : Nat} (st : Nat) (hst : st < 2147483648) (w : World) (hg : Blk w g 34 #[.int .i64 1, .int .i64 5, .int .i64 (st : Int), S dS, .int .i64 0, .slice none 0 0, .int .i64 0, .int .i64 0, .int .i64 0, .int .i64 0, .int .i64 0, .bool false]) : Calls Tryz.prog 25 #[.slice (some ⟨g, 0, none⟩) 1 1] w (OutC (frB 1 5 st dS) w) :=
  Bytes_one (frB 1 5 st dS) w hg (by rw [frB_length]; omega) (by rw [frB_length]; decide) (fun w1 => by rw [frB_length]; exact put_HdS5 st hst dS (by decide) w1)

set_option maxHeartbeats 4000000 in
/-- one frame comes -/
theorem Take_one {F : Nat → Prop} {ty fl st : Nat} {pl : Bytes} {f : Fr} (hk : Tk 16384 ty fl st pl f) (w : World) (h : Cw w n q F) (hov : q.over = false) (hpre : q.pre = 24) (vb : Value) (hb : By w.heap.size w vb (frB ty fl st pl)) (q' : Cq)
    (hIt : ∀ w1 F1 sa sc, Cw w1 n { q with news := [] } F1 → (∃ b, w1.ownsRow b 31 2 (.slice sa f.sets.length sc) f.sets.length (scells f.sets)) → Calls Tryz.prog 66 #[Ptr n.c, itmV f (.slice sa f.sets.length sc) {}] w1 fun r w' => r = .returned (.tuple #[]) ∧ Goes w1 n F1 w' q') :
    Calls Tryz.prog 23 #[Ptr n.c, vb] w fun e w' => ∃ v j, e = .returned v ∧ w'.ownsRow n.B 65 10 v j q'.news ∧ Goes w n F w' q' := by
  have hlen := frB_length ty fl st pl
  have hpl := hk.len
  exact Taken_any w h hov vb [(f, ({} : Ft))] (fun k => if k = 0 then { q with news := [], pre := 24 } else q') rfl
    (by intro k hk; obtain rfl : k = 0 := by simpa using hk
        exact hov)
    (fun W F1 hbW eW hW => by
      obtain ⟨m', hx', -⟩ := hW
      have hfd := hx'.feed
      rw [show ({ q with news := [] } : Cq).pre = 24 from hpre] at hfd
      refine take_then (l := frB ty fl st pl) hfd ?_ (by omega) (itemsF_1 hk (by decide) (by omega))
      rw [eW]
      obtain ⟨m, hx, rfl⟩ := h
      exact (hb.off hx.blk hx.no_b8 21 (.slice none 0 0)).mono (Nat.le_of_eq (by simp)))
    (fun k hkl w1 F1 sa sc h1 hs => by
      obtain rfl : k = 0 := by simpa using hkl
      have e : ({ q with news := [], pre := 24 } : Cq) = { q with news := [] } := by rw [← hpre]
      exact hIt w1 F1 sa sc (e ▸ h1) hs)

set_option maxHeartbeats 4000000 in
/-- a client's first bytes come -/
theorem Take_hello {F : Nat → Prop} {w : World} (h : Cw w n (q22 bs22) F) (vb : Value) (hb : By w.heap.size w vb helloB) :
    Calls Tryz.prog 23 #[Ptr n.c, vb] w fun e w' => ∃ v j, e = .returned v ∧ w'.ownsRow n.B 65 10 v j (q22a bs22).news ∧ Goes w n F w' (q22a bs22) :=
  Taken_any w h rfl vb [(({ ty := 4 } : Fr), ({} : Ft))] (qs22 bs22) rfl
    (by intro k hk; obtain rfl : k = 0 := by simpa using hk
        rfl)
    (fun W F1 hbW eW hW => by
      obtain ⟨m', hx', -⟩ := hW
      refine take_first (l := frB 4 0 0 []) hx'.feed ?_ (by rw [frB_length]; decide) (itemsF_1 tk_set0 (by decide) (by rw [frB_length]; decide))
      rw [eW]
      obtain ⟨m, hx, rfl⟩ := h
      exact (hb.off hx.blk hx.no_b8 21 (.slice none 0 0)).mono (Nat.le_of_eq (by simp)))
    (fun k hk w1 F1 sa sc h1 hs => by
      obtain rfl : k = 0 := by simpa using hk
      exact Item_set bs22 (by decide) w1 h1)

theorem its_one {its : List Itm} {f : Fr} {x : Ft} (h : its.map (fun i => (Itm.f i, Itm.x i)) = [(f, x)]) : ∃ vs, its = [⟨f, x, vs⟩] := by
  match its, h with
  | [⟨f', x', vs⟩], h =>
    simp only [List.map_cons, List.map_nil, List.cons.injEq, Prod.mk.injEq, and_true] at h
    obtain ⟨rfl, rfl⟩ := h
    exact ⟨vs, rfl⟩
/-- what becomes of a connection -/
theorem goes_on {w0 w w' : World} {F : Nat → Prop} (hC : Cw w n q F) (hb : Below w0.heap.size w0 w) (hB : w0.heap.size ≤ n.B) (hz : n.B ≤ w.heap.size) (hG : Goes w n F w' q') : ∃ F', Cw w' n q' F' ∧ Below w0.heap.size w0 w' ∧ n.B ≤ w'.heap.size := by
  have h := hG.below hC hz
  obtain ⟨F', hC', -⟩ := hG
  exact ⟨F', hC', hb.trans (h.mono hB), Nat.le_trans hz h.size⟩
theorem cw_on {w0 w w' : World} {F : Nat → Prop} (hC : Cw w n q F) (hb : Below w0.heap.size w0 w) (hz : n.B ≤ w.heap.size) (h : Below w.heap.size w w') : Cw w' n q F ∧ Below w0.heap.size w0 w' ∧ n.B ≤ w'.heap.size := ⟨hC.on h, hb.trans (h.mono hb.size), Nat.le_trans hz h.size⟩
end Go.Proofs.YtlkfmhbmcicmfaaGreatDoor

