/- Parts of the proof of wr_root: the texts Cna6 Cnb1 Cnb2 Cnb3 Dig2 Cnb4. -/
import Derived.Test.YtkeeofhjdffhbaaGreatDoorW19
import Derived.Test.YtkeeofhjdffhbaaGreatDoorW18
import Derived.Test.YtkeeofhjdffhbaaGreatDoorRows
set_option linter.unusedSimpArgs false
set_option linter.unusedVariables false
set_option linter.unnecessarySimpa false
namespace Go.Proofs.YtkeeofhjdffhbaaGreatDoor
open Go Go.RowKit Go.Dr
variable {w w' : World} {n : Nm} {m : Mm} {q q' : Cq}
theorem itm_len15 (i : Itm) : i.cells.length = 15 := rfl
theorem itcells_get2 (l : List Itm) (k : Nat) (h : k < l.length) (j : Nat) (hj : j < 15) : (itcells l)[k * 15 + j]? = (l[k].cells)[j]? := by
 induction l generalizing k with
 | nil => simp at h
 | cons x l ih =>
  have e : itcells (x :: l) = x.cells ++ itcells l := by simp [itcells]
  cases k with
  | zero => rw [e, List.getElem?_append_left (by rw [itm_len15];omega)];simp
  | succ k =>
   rw [e, List.getElem?_append_right (by rw [itm_len15];omega)]
   simp only [List.getElem_cons_succ]
   rw [← ih k (by simpa using h)]
   congr 1
   rw [itm_len15]
   omega
theorem its_at2 {w : World} {base : Nat} {ar : Option Addr} {n c : Nat} {its : List Itm} (h : w.ownsRow base 74 15 (.slice ar n c) its.length (itcells its)) (k : Nat) (hk : k < its.length) :
  ∃ g, ar = some ⟨g, 0, none⟩ ∧ ∀ j, j < 15 → w.cell? ⟨g, k * 15 + j, none⟩ = (its[k].cells)[j]? := by
 rcases h.2 with ⟨-, h0⟩ | ⟨g, cap, cur, hv, -, hg, -, -, -, ht⟩
 ·omega
 ·simp only [Value.slice.injEq] at hv
  refine ⟨g, hv.1, fun j hj => ?_⟩
  rw [← itcells_get2 its k hk j hj, ← ht]
  simp only [World.cell?, hg]
  rw [List.getElem?_take_of_lt (by omega)]
  simp
/-- what a feed's Take makes of bytes -/
abbrev TakeOf (W : World) (fb : Nat) (vb : Value) (items : List (Fr × Ft)) : Prop :=
 Calls Tryz.prog 40 #[Ptr fb, vb] W fun e w' => ∃ v its, e = .returned v ∧ its.map (fun i => (Itm.f i, Itm.x i)) = items ∧ w'.ownsRow W.heap.size 74 15 v its.length (itcells its) ∧ (∀ i ∈ its, w'.ownsRow W.heap.size 31 2 i.vs i.f.sets.length (scells i.f.sets)) ∧ Blk w' fb 158 (feedC 16384 24 (.slice none 0 0) false) ∧ But (fun k => k = fb) W w'
theorem take_first {W : World} {fb : Nat} {vb : Value} {l : Bytes} {items : List (Fr × Ft)} (hf : Blk W fb 158 (feedC 16384 0 (.slice none 0 0) false)) (hb : By W.heap.size W vb (prefB ++ l)) (hl : l.length ≤ 1048576) (hi : itemsF 16384 (l.length + 1) l = (items, [], false)) : TakeOf W fb vb items := by
 refine (Feed_first l vb W (by decide) hf hb hl).mono ?_
 rintro e w1 ⟨v, its, v', rfl, h1, h2, h3, h4, h5, h6, h7⟩
 rw [hi] at h1 h4 h5 h7
 have := h7 rfl
 subst this
 exact ⟨v, its, rfl, h1, h2, h3, h4, h6⟩
theorem take_then {W : World} {fb : Nat} {vb : Value} {l : Bytes} {items : List (Fr × Ft)} (hf : Blk W fb 158 (feedC 16384 24 (.slice none 0 0) false)) (hb : By W.heap.size W vb l) (hl : l.length ≤ 1048576) (hi : itemsF 16384 (l.length + 1) l = (items, [], false)) : TakeOf W fb vb items := by
 refine (Feed_take l vb W (by decide) hf hb hl).mono ?_
 rintro e w1 ⟨v, its, v', rfl, h1, h2, h3, h4, h5, h6, h7⟩
 rw [hi] at h1 h4 h5 h7
 have := h7 rfl
 subst this
 exact ⟨v, its, rfl, h1, h2, h3, h4, h6⟩
/-- nothing happened yet -/
theorem Cx.goesW (hx : Cx w n m q) : Cx (w.setCell ⟨n.c, 21, none⟩ (.slice none 0 0)) n { m with nv := .slice none 0 0 } { q with news := [] } ∧ GoesF w n (Foot n m q) (w.setCell ⟨n.c, 21, none⟩ (.slice none 0 0)) { q with news := [] } (Foot n { m with nv := .slice none 0 0 } { q with news := [] }) := by
 have hbt : But (fun g => g = n.c) w (w.setCell ⟨n.c, 21, none⟩ (.slice none 0 0)) := (But.refl (fun g => g = n.c) w).setCell (p := ⟨n.c, 21, none⟩) (.inl rfl) _
 obtain ⟨kc, -, -, -, -, -, -, -, -, -, -, -, -, -, kbv, knv, kcv, ksd⟩ := hx.kinds
 have hX := hx.upC hbt (fun g hg => .inl (by rw [hg];exact kc)) { m with nv := .slice none 0 0 } { q with news := [] } (hx.blk.set 21 _)
  (own_same hx.bytes fun g hg => hbt.block g (own_lt hx.bytes hg).2 (by
   have := kbv g hg
   intro e
   rw [e] at this
   omega))
  ⟨0, World.ownsRow_nil _ _ _ _⟩
  (own_same hx.closed fun g hg => hbt.block g (own_lt hx.closed hg).2 (by
   have := kcv g hg
   intro e
   rw [e] at this
   omega))
  (fun p hp g hg => ⟨by
   have := (ksd p hp).2 g hg
   intro e
   rw [e] at this
   omega, hx.bp p hp g hg⟩) rfl rfl rfl
 refine ⟨hX, hX.goesF (hbt.more fun g hg => by rw [hg];exact Foot.c _ _ _) fun g hg => ?_⟩
 rcases foot_rows (m := m) (q := q) hg rfl rfl rfl with hg | hg | hg | hg
 ·exact .inl hg
 ·exact .inl (Foot.bv hg)
 ·cases hg
 ·exact .inl (Foot.cv hg)
/-- the feed went on -/
theorem Cx.goesFd (hx : Cx w n m q) (hb : But (fun k => k = n.fb) w w') {pre : Nat} (hf : Blk w' n.fb 158 (feedC 16384 pre (.slice none 0 0) false)) : Cx w' n m { q with pre := pre } ∧ GoesF w n (Foot n m q) w' { q with pre := pre } (Foot n m { q with pre := pre }) := by
 have h := hx.upF hb (fun g hg => by rw [hg];exact kd_blk hx.feed) pre hf
 exact ⟨h, h.goesF (hb.more fun g hg => by rw [hg];exact Foot.fb) fun g hg => .inl hg⟩
abbrev itmV (f : Fr) (vs : Value) (x : Ft) : Value := .agg #[.int .i64 (f.ty : Nat), .int .i64 (f.fl : Nat), .int .i64 (f.st : Nat), S f.data, .int .i64 (f.pad : Nat), vs, .int .i64 (f.code : Nat), .int .i64 (f.last : Nat), .int .i64 (f.inc : Nat), .int .i64 (f.dep : Nat), .int .i64 (f.wt : Nat), .bool f.sole, .bool x.is, .int .i64 (x.code : Nat), .int .i64 (x.st : Nat)]
set_option maxRecDepth 100000 in
set_option maxHeartbeats 8000000 in
/-- Take of bytes that are some items, by a table of states -/
theorem Taken_any {F : Nat → Prop} (w : World) (h : Cw w n q F) (hov : q.over = false) (vb : Value) (items : List (Fr × Ft)) (Q : Nat → Cq) (hQ0 : Q 0 = { q with news := [], pre := 24 }) (hQo : ∀ k, k < items.length → (Q k).over = false)
  (hT : ∀ W F1, But (fun g => g = n.c) w W → W = w.setCell ⟨n.c, 21, none⟩ (.slice none 0 0) → Cw W n { q with news := [] } F1 → TakeOf W n.fb vb items)
  (hIt : ∀ k (hk : k < items.length) w1 F1 sa sc, Cw w1 n (Q k) F1 → (∃ b, w1.ownsRow b 31 2 (.slice sa items[k].1.sets.length sc) items[k].1.sets.length (scells items[k].1.sets)) → Calls Tryz.prog 58 #[Ptr n.c, itmV items[k].1 (.slice sa items[k].1.sets.length sc) items[k].2] w1 fun r w' => r = .returned (.tuple #[]) ∧ Goes w1 n F1 w' (Q (k + 1))) :
  Calls Tryz.prog 19 #[Ptr n.c, vb] w fun e w' => ∃ v j, e = .returned v ∧ w'.ownsRow n.B 84 10 v j (Q items.length).news ∧ Goes w n F w' (Q items.length) := by
 have g0 := GoesF.refl h
 obtain ⟨m, hx, rfl⟩ := h
 have y19 : w.cell? ⟨n.c, 19, none⟩ = some (.bool false) := by rw [← hov];exact hx.blk.cell 19
 have y21 : w.cell? ⟨n.c, 21, none⟩ = some m.nv := hx.blk.cell 21
 have v21 := hx.blk.free 21
 have y4 : w.cell? ⟨n.c, 4, none⟩ = some (Ptr n.fb) := hx.blk.cell 4
 obtain ⟨hxW, gW⟩ := hx.goesW
 have hTk := hT _ _ ((But.refl (fun g => g = n.c) w).setCell (p := ⟨n.c, 21, none⟩) (.inl rfl) _) rfl gW.h
 go_enter Tryz.func19, Tryz.ntmps19
 go_wp2_with (go_at_call 40;go_must ((with_reducible refine hTk.mono ?_);rintro e w1 ⟨v, its, rfl, hits, hrow, hsets, hFd, hb1⟩;obtain ⟨ar, cr, rfl⟩ := own_form hrow))
 obtain ⟨hx1, g1⟩ := hxW.goesFd hb1 hFd
 have hz1 : (w.setCell ⟨n.c, 21, none⟩ (.slice none 0 0)).heap.size ≤ w1.heap.size := hb1.size
 have hC0 : Cw w1 n (Q 0) (Foot n { m with nv := .slice none 0 0 } { q with news := [], pre := 24 }) := by rw [hQ0];exact g1.h
 have hFlt : ∀ g, Foot n { m with nv := .slice none 0 0 } { q with news := [], pre := 24 } g → g < (w.setCell ⟨n.c, 21, none⟩ (.slice none 0 0)).heap.size := fun g hg => hxW.foot_lt (show Foot n { m with nv := .slice none 0 0 } { q with news := [] } g from hg)
 have g01 := gW.comp g1
 generalize (w.setCell ⟨n.c, 21, none⟩ (.slice none 0 0)).heap.size = NB at hrow hsets hFlt
 have gF1 : ∀ g, Foot n { m with nv := .slice none 0 0 } { q with news := [], pre := 24 } g → Foot n m q g ∨ w.heap.size ≤ g := g01.s
 have gB1 : But (Foot n m q) w w1 := g01.b
 generalize Foot n { m with nv := .slice none 0 0 } { q with news := [], pre := 24 } = F1 at hC0 hFlt gF1
 have HN := Lib.hid (show its.length = items.length by rw [← hits];simp)
 have hmx : its.length ≤ 9223372036854775807 := (Rd.own hrow).len
 have HQ := Lib.hid hQ0
 clear hQ0 hxW gW hTk hT hFd hb1 hx1 g1 g01 y4 y19 y21 v21
 go_loopw [25] (fun i wr => ∃ k : Nat, k ≤ items.length ∧ i = .int .i64 (k : Int) ∧ ∃ Fk, GoesF w1 n F1 wr (Q k) Fk) (fun i _ => items.length - (intOf i).toNat)
 case atStart => exact ⟨0, Nat.zero_le _, rfl, F1, GoesF.refl hC0⟩
 case round =>
  obtain ⟨k, hk, rfl, Fk, hG⟩ := hrel
  by_cases hlt : k < items.length
  ·have hlt2 : k < its.length := by rw [HN.out];exact hlt
   obtain ⟨⟨f, x, vs⟩, hi⟩ : ∃ i, i = its[k] := ⟨_, rfl⟩
   have hvs := hsets ⟨f, x, vs⟩ (hi ▸ List.getElem_mem _)
   dsimp only at hvs
   obtain ⟨sa, sc, rfl⟩ := own_form hvs
   have hqi : items[k] = (f, x) := by subst hits;rw [List.getElem_map, ← hi]
   have hrw := own_same hrow (fun g hg => hG.b.block g (hrow.lt g hg.symm).2 (fun hf => by have := hFlt g hf;have := (hrow.lt g hg.symm).1;omega))
   have hvw := own_same hvs (fun g hg => hG.b.block g (hvs.lt g hg.symm).2 (fun hf => by have := hFlt g hf;have := (hvs.lt g hg.symm).1;omega))
   obtain ⟨g, rfl, hcell⟩ := its_at2 hrw k hlt2
   rw [← hi] at hcell
   have y0 : wr.cell? ⟨g, k * 15, none⟩ = some (.int .i64 (f.ty : Nat)) := hcell 0 (by decide)
   have y1 : wr.cell? ⟨g, k * 15 + 1, none⟩ = some (.int .i64 (f.fl : Nat)) := hcell 1 (by decide)
   have y2 : wr.cell? ⟨g, k * 15 + 2, none⟩ = some (.int .i64 (f.st : Nat)) := hcell 2 (by decide)
   have y3 : wr.cell? ⟨g, k * 15 + 3, none⟩ = some (S f.data) := hcell 3 (by decide)
   have y4 : wr.cell? ⟨g, k * 15 + 4, none⟩ = some (.int .i64 (f.pad : Nat)) := hcell 4 (by decide)
   have y5 : wr.cell? ⟨g, k * 15 + 5, none⟩ = some (.slice sa f.sets.length sc) := hcell 5 (by decide)
   have y6 : wr.cell? ⟨g, k * 15 + 6, none⟩ = some (.int .i64 (f.code : Nat)) := hcell 6 (by decide)
   have y7 : wr.cell? ⟨g, k * 15 + 7, none⟩ = some (.int .i64 (f.last : Nat)) := hcell 7 (by decide)
   have y8 : wr.cell? ⟨g, k * 15 + 8, none⟩ = some (.int .i64 (f.inc : Nat)) := hcell 8 (by decide)
   have y9 : wr.cell? ⟨g, k * 15 + 9, none⟩ = some (.int .i64 (f.dep : Nat)) := hcell 9 (by decide)
   have y10 : wr.cell? ⟨g, k * 15 + 10, none⟩ = some (.int .i64 (f.wt : Nat)) := hcell 10 (by decide)
   have y11 : wr.cell? ⟨g, k * 15 + 11, none⟩ = some (.bool f.sole) := hcell 11 (by decide)
   have y12 : wr.cell? ⟨g, k * 15 + 12, none⟩ = some (.bool x.is) := hcell 12 (by decide)
   have y13 : wr.cell? ⟨g, k * 15 + 13, none⟩ = some (.int .i64 (x.code : Nat)) := hcell 13 (by decide)
   have y14 : wr.cell? ⟨g, k * 15 + 14, none⟩ = some (.int .i64 (x.st : Nat)) := hcell 14 (by decide)
   obtain ⟨wr1, ewr⟩ : ∃ wr1, wr1 = wr.alloc (.cells #[.int .i64 (f.ty : Nat), .int .i64 (f.fl : Nat), .int .i64 (f.st : Nat), S f.data, .int .i64 (f.pad : Nat), .slice sa f.sets.length sc, .int .i64 (f.code : Nat), .int .i64 (f.last : Nat), .int .i64 (f.inc : Nat), .int .i64 (f.dep : Nat), .int .i64 (f.wt : Nat), .bool f.sole, .bool x.is, .int .i64 (x.code : Nat), .int .i64 (x.st : Nat)] 74) := ⟨_, rfl⟩
   have hb1 : Below wr.heap.size wr wr1 := by rw [ewr];exact (Below.refl _ _).alloc (Nat.le_refl _) _
   have hS : ∃ b, wr1.ownsRow b 31 2 (.slice sa f.sets.length sc) f.sets.length (scells f.sets) := ⟨_, own_below hvw hb1⟩
   have hI1 : Blk wr1 wr.heap.size 74 #[.int .i64 (f.ty : Nat), .int .i64 (f.fl : Nat), .int .i64 (f.st : Nat), S f.data, .int .i64 (f.pad : Nat), .slice sa f.sets.length sc, .int .i64 (f.code : Nat), .int .i64 (f.last : Nat), .int .i64 (f.inc : Nat), .int .i64 (f.dep : Nat), .int .i64 (f.wt : Nat), .bool f.sole, .bool x.is, .int .i64 (x.code : Nat), .int .i64 (x.st : Nat)] := by rw [ewr];exact Blk.new _ _ _
   have hG1 := hG.on hb1
   have hCk := hIt k hlt wr1 Fk sa sc
   rw [hqi] at hCk
   dsimp only at hCk
   have hCk := hCk hG1.h hS
   have y19 : wr1.cell? ⟨n.c, 19, none⟩ = some (.bool false) := by
    obtain ⟨m', hx', -⟩ := hG1.h
    rw [← hQo k hlt]
    exact hx'.blk.cell 19
   have z0 : wr1.cell? ⟨wr.heap.size, 0, none⟩ = some (.int .i64 (f.ty : Nat)) := hI1.cell 0
   have z1 : wr1.cell? ⟨wr.heap.size, 1, none⟩ = some (.int .i64 (f.fl : Nat)) := hI1.cell 1
   have z2 : wr1.cell? ⟨wr.heap.size, 2, none⟩ = some (.int .i64 (f.st : Nat)) := hI1.cell 2
   have z3 : wr1.cell? ⟨wr.heap.size, 3, none⟩ = some (S f.data) := hI1.cell 3
   have z4 : wr1.cell? ⟨wr.heap.size, 4, none⟩ = some (.int .i64 (f.pad : Nat)) := hI1.cell 4
   have z5 : wr1.cell? ⟨wr.heap.size, 5, none⟩ = some (.slice sa f.sets.length sc) := hI1.cell 5
   have z6 : wr1.cell? ⟨wr.heap.size, 6, none⟩ = some (.int .i64 (f.code : Nat)) := hI1.cell 6
   have z7 : wr1.cell? ⟨wr.heap.size, 7, none⟩ = some (.int .i64 (f.last : Nat)) := hI1.cell 7
   have z8 : wr1.cell? ⟨wr.heap.size, 8, none⟩ = some (.int .i64 (f.inc : Nat)) := hI1.cell 8
   have z9 : wr1.cell? ⟨wr.heap.size, 9, none⟩ = some (.int .i64 (f.dep : Nat)) := hI1.cell 9
   have z10 : wr1.cell? ⟨wr.heap.size, 10, none⟩ = some (.int .i64 (f.wt : Nat)) := hI1.cell 10
   have z11 : wr1.cell? ⟨wr.heap.size, 11, none⟩ = some (.bool f.sole) := hI1.cell 11
   have z12 : wr1.cell? ⟨wr.heap.size, 12, none⟩ = some (.bool x.is) := hI1.cell 12
   have z13 : wr1.cell? ⟨wr.heap.size, 13, none⟩ = some (.int .i64 (x.code : Nat)) := hI1.cell 13
   have z14 : wr1.cell? ⟨wr.heap.size, 14, none⟩ = some (.int .i64 (x.st : Nat)) := hI1.cell 14
   clear hcell hi hqi hrow hsets hvs hits hS hI1 hrw hvw hb1
   go_upto_region 7 with fail
   rw [← ewr]
   clear ewr
   go_wp2_with (go_at_call 58;go_must ((with_reducible refine hCk.mono ?_);rintro r w2 ⟨rfl, hg2⟩;obtain ⟨F2, hG2⟩ := hG1.step hg2))
   refine ⟨⟨k + 1, by omega, by go_num, F2, hG2⟩, ?_⟩
   simp [intOf]
   omega
  ·obtain rfl : k = items.length := by omega
   have hn' : ¬ (items.length < its.length) := by rw [HN.out];omega
   obtain ⟨m', hx', eF⟩ := hG.h
   have y21 : wr.cell? ⟨n.c, 21, none⟩ = some m'.nv := hx'.blk.cell 21
   obtain ⟨j, hj⟩ := hx'.news
   go_wp2
   go_ret
   refine ⟨_, j, rfl, hj, Fk, hG.h, gB1.trans2 hG.b gF1, fun g hg => ?_⟩
   rcases hG.s g hg with h | h
   ·exact gF1 g h
   ·exact .inr (Nat.le_trans gB1.size h)
end Go.Proofs.YtkeeofhjdffhbaaGreatDoor
namespace Go.Proofs.YtkeeofhjdffhbaaGreatDoor
open Go Go.RowKit Go.Dr
variable {w w' : World} {n : Nm} {m : Mm} {q q' : Cq}
/-- the bytes are given away -/
theorem Cx.goesY (hx : Cx w n m q) : Cx (w.setCell ⟨n.c, 20, none⟩ (.slice none 0 0)) n { m with bv := .slice none 0 0 } { q with bytes := [] } ∧ GoesF w n (Foot n m q) (w.setCell ⟨n.c, 20, none⟩ (.slice none 0 0)) { q with bytes := [] } (Foot n { m with bv := .slice none 0 0 } { q with bytes := [] }) := by
 have hbt : But (fun g => g = n.c) w (w.setCell ⟨n.c, 20, none⟩ (.slice none 0 0)) := (But.refl (fun g => g = n.c) w).setCell (p := ⟨n.c, 20, none⟩) (.inl rfl) _
 obtain ⟨kc, -, -, -, -, -, -, -, -, -, -, -, -, -, kbv, knv, kcv, ksd⟩ := hx.kinds
 have hX := hx.upC hbt (fun g hg => .inl (by rw [hg];exact kc)) { m with bv := .slice none 0 0 } { q with bytes := [] } (hx.blk.set 20 _)
  (World.ownsRow_nil _ _ _ _)
  (by
   obtain ⟨k, hn⟩ := hx.news
   exact ⟨k, own_same hn fun g hg => hbt.block g (own_lt hn hg).2 (by
    have := knv g hg
    intro e
    rw [e] at this
    omega)⟩)
  (own_same hx.closed fun g hg => hbt.block g (own_lt hx.closed hg).2 (by
   have := kcv g hg
   intro e
   rw [e] at this
   omega))
  (fun p hp g hg => ⟨by
   have := (ksd p hp).2 g hg
   intro e
   rw [e] at this
   omega, fun e => by cases e⟩) rfl rfl rfl
 refine ⟨hX, hX.goesF (hbt.more fun g hg => by rw [hg];exact Foot.c _ _ _) fun g hg => ?_⟩
 rcases foot_rows (m := m) (q := q) hg rfl rfl rfl with hg | hg | hg | hg
 ·exact .inl hg
 ·cases hg
 ·exact .inl (Foot.nv hg)
 ·exact .inl (Foot.cv hg)
set_option maxRecDepth 100000 in
set_option maxHeartbeats 4000000 in
theorem Out_any {F : Nat → Prop} (w : World) (h : Cw w n q F) : Calls Tryz.prog 26 #[Ptr n.c] w fun e w' => ∃ v, e = .returned v ∧ w'.ownsRow n.B 5 1 v q.bytes.length (q.bytes.map B8) ∧ (∀ g, some g = v.ownBlock → F g) ∧ Goes w n F w' { q with bytes := [] } := by
 obtain ⟨m, hx, rfl⟩ := h
 have y20 : w.cell? ⟨n.c, 20, none⟩ = some m.bv := hx.blk.cell 20
 have v20 := hx.blk.free 20
 obtain ⟨hxW, gW⟩ := hx.goesY
 go_enter Tryz.func26, Tryz.ntmps26
 go_wp2
 go_ret
 refine ⟨m.bv, rfl, own_same hx.bytes fun g hg => ?_, fun g hg => Foot.bv hg, gW.goes⟩
 obtain ⟨kc, -, -, -, -, -, -, -, -, -, -, -, -, -, kbv, knv, kcv, ksd⟩ := hx.kinds
 have := kbv g hg
 exact Below.heap_setCell _ _ _ _ (fun e => by rw [e] at this;have e2 : kd w n.c = _ := this;omega)
set_option maxRecDepth 100000 in
set_option maxHeartbeats 4000000 in
theorem Over_any2 {F : Nat → Prop} (w : World) (h : Cw w n q F) : Calls Tryz.prog 32 #[Ptr n.c] w fun e w' => e = .returned (.bool q.over) ∧ w' = w := by
 obtain ⟨m, hx, rfl⟩ := h
 have y19 : w.cell? ⟨n.c, 19, none⟩ = some (.bool q.over) := hx.blk.cell 19
 go_enter Tryz.func32, Tryz.ntmps32
 go_wp2
 go_ret
 exact ⟨rfl, rfl⟩
end Go.Proofs.YtkeeofhjdffhbaaGreatDoor
namespace Go.Proofs.YtkeeofhjdffhbaaGreatDoor
open Go Go.RowKit Go.Dr
set_option maxRecDepth 100000 in
set_option maxHeartbeats 8000000 in
theorem Find_stat {t : Nat} (w : World) : Calls Tryz.prog 141 #[Ptr t, .agg #[S [58, 115, 116, 97, 116, 117, 115], S [50, 48, 48], .bool false]] w fun e w' => e = .returned (.tuple #[.int .i64 8, .bool true]) ∧ Below w.heap.size w w' := by
 have hi0 : ∀ w : World, (Instr.index 275 (.agg statC) (.int .i64 0)).run Tryz.prog w = .ok (.agg #[S [58, 97, 117, 116, 104, 111, 114, 105, 116, 121], S []]) w := fun w => by kernel_rfl
 have hi1 : ∀ w : World, (Instr.index 275 (.agg statC) (.int .i64 1)).run Tryz.prog w = .ok (.agg #[S [58, 109, 101, 116, 104, 111, 100], S [71, 69, 84]]) w := fun w => by kernel_rfl
 have hi2 : ∀ w : World, (Instr.index 275 (.agg statC) (.int .i64 2)).run Tryz.prog w = .ok (.agg #[S [58, 109, 101, 116, 104, 111, 100], S [80, 79, 83, 84]]) w := fun w => by kernel_rfl
 have hi3 : ∀ w : World, (Instr.index 275 (.agg statC) (.int .i64 3)).run Tryz.prog w = .ok (.agg #[S [58, 112, 97, 116, 104], S [47]]) w := fun w => by kernel_rfl
 have hi4 : ∀ w : World, (Instr.index 275 (.agg statC) (.int .i64 4)).run Tryz.prog w = .ok (.agg #[S [58, 112, 97, 116, 104], S [47, 105, 110, 100, 101, 120, 46, 104, 116, 109, 108]]) w := fun w => by kernel_rfl
 have hi5 : ∀ w : World, (Instr.index 275 (.agg statC) (.int .i64 5)).run Tryz.prog w = .ok (.agg #[S [58, 115, 99, 104, 101, 109, 101], S [104, 116, 116, 112]]) w := fun w => by kernel_rfl
 have hi6 : ∀ w : World, (Instr.index 275 (.agg statC) (.int .i64 6)).run Tryz.prog w = .ok (.agg #[S [58, 115, 99, 104, 101, 109, 101], S [104, 116, 116, 112, 115]]) w := fun w => by kernel_rfl
 have hi7 : ∀ w : World, (Instr.index 275 (.agg statC) (.int .i64 7)).run Tryz.prog w = .ok (.agg #[S [58, 115, 116, 97, 116, 117, 115], S [50, 48, 48]]) w := fun w => by kernel_rfl
 obtain ⟨W, eW⟩ : ∃ W, W = (w.alloc (.cells #[Ptr t] 159)).alloc (.cells #[S [58, 115, 116, 97, 116, 117, 115], S [50, 48, 48], .bool false] 41) := ⟨_, rfl⟩
 have hF : Blk W (w.heap.size + 1) 41 #[S [58, 115, 116, 97, 116, 117, 115], S [50, 48, 48], .bool false] := by rw [eW];exact bnew_at _ _ _ _ (by simp)
 have hb : Below w.heap.size w W := by rw [eW];exact ((Below.refl _ _).alloc (Nat.le_refl _) _).alloc (by simp) _
 go_enter Tryz.func141, Tryz.ntmps141
 go_wp2_with (go_at_call 189;go_must (rw [← eW];clear eW;(with_reducible refine (Fixed_any _).mono ?_);rintro e w2 ⟨rfl, hb2⟩;have hF2 := hF.on hb2;have hz2 := hF2.lt;have hb02 := hb.trans (hb2.mono hb.size);have z0 : w2.cell? ⟨w.heap.size + 1, 0, none⟩ = some (S [58, 115, 116, 97, 116, 117, 115]) := hF2.cell 0;have z1 : w2.cell? ⟨w.heap.size + 1, 1, none⟩ = some (S [50, 48, 48]) := hF2.cell 1))
 refine wp_loop_rounds 8 ?_
 rw [rounds_succ]
 refine wp_cut (R := fun W => Blk W (w.heap.size + 1) 41 #[S [58, 115, 116, 97, 116, 117, 115], S [50, 48, 48], .bool false] ∧ Below w.heap.size w W) ⟨hF2, hb02⟩ ?_
 clear hb2 z0 z1 hz2 hF2 hb02
 rintro w2 ⟨hF2, hb02⟩
 have hz2 := hF2.lt
 have z0 : w2.cell? ⟨w.heap.size + 1, 0, none⟩ = some (S [58, 115, 116, 97, 116, 117, 115]) := hF2.cell 0
 have z1 : w2.cell? ⟨w.heap.size + 1, 1, none⟩ = some (S [50, 48, 48]) := hF2.cell 1
 go_wp2
 rw [rounds_succ]
 refine wp_cut (R := fun W => Blk W (w.heap.size + 1) 41 #[S [58, 115, 116, 97, 116, 117, 115], S [50, 48, 48], .bool false] ∧ Below w.heap.size w W) ⟨hF2.alloc _, hb02.alloc hb02.size _⟩ ?_
 clear z0 z1 hz2 hF2 hb02
 rintro w2 ⟨hF2, hb02⟩
 have hz2 := hF2.lt
 have z0 : w2.cell? ⟨w.heap.size + 1, 0, none⟩ = some (S [58, 115, 116, 97, 116, 117, 115]) := hF2.cell 0
 have z1 : w2.cell? ⟨w.heap.size + 1, 1, none⟩ = some (S [50, 48, 48]) := hF2.cell 1
 go_wp2
 rw [rounds_succ]
 refine wp_cut (R := fun W => Blk W (w.heap.size + 1) 41 #[S [58, 115, 116, 97, 116, 117, 115], S [50, 48, 48], .bool false] ∧ Below w.heap.size w W) ⟨hF2.alloc _, hb02.alloc hb02.size _⟩ ?_
 clear z0 z1 hz2 hF2 hb02
 rintro w2 ⟨hF2, hb02⟩
 have hz2 := hF2.lt
 have z0 : w2.cell? ⟨w.heap.size + 1, 0, none⟩ = some (S [58, 115, 116, 97, 116, 117, 115]) := hF2.cell 0
 have z1 : w2.cell? ⟨w.heap.size + 1, 1, none⟩ = some (S [50, 48, 48]) := hF2.cell 1
 go_wp2
 rw [rounds_succ]
 refine wp_cut (R := fun W => Blk W (w.heap.size + 1) 41 #[S [58, 115, 116, 97, 116, 117, 115], S [50, 48, 48], .bool false] ∧ Below w.heap.size w W) ⟨hF2.alloc _, hb02.alloc hb02.size _⟩ ?_
 clear z0 z1 hz2 hF2 hb02
 rintro w2 ⟨hF2, hb02⟩
 have hz2 := hF2.lt
 have z0 : w2.cell? ⟨w.heap.size + 1, 0, none⟩ = some (S [58, 115, 116, 97, 116, 117, 115]) := hF2.cell 0
 have z1 : w2.cell? ⟨w.heap.size + 1, 1, none⟩ = some (S [50, 48, 48]) := hF2.cell 1
 go_wp2
 rw [rounds_succ]
 refine wp_cut (R := fun W => Blk W (w.heap.size + 1) 41 #[S [58, 115, 116, 97, 116, 117, 115], S [50, 48, 48], .bool false] ∧ Below w.heap.size w W) ⟨hF2.alloc _, hb02.alloc hb02.size _⟩ ?_
 clear z0 z1 hz2 hF2 hb02
 rintro w2 ⟨hF2, hb02⟩
 have hz2 := hF2.lt
 have z0 : w2.cell? ⟨w.heap.size + 1, 0, none⟩ = some (S [58, 115, 116, 97, 116, 117, 115]) := hF2.cell 0
 have z1 : w2.cell? ⟨w.heap.size + 1, 1, none⟩ = some (S [50, 48, 48]) := hF2.cell 1
 go_wp2
 rw [rounds_succ]
 refine wp_cut (R := fun W => Blk W (w.heap.size + 1) 41 #[S [58, 115, 116, 97, 116, 117, 115], S [50, 48, 48], .bool false] ∧ Below w.heap.size w W) ⟨hF2.alloc _, hb02.alloc hb02.size _⟩ ?_
 clear z0 z1 hz2 hF2 hb02
 rintro w2 ⟨hF2, hb02⟩
 have hz2 := hF2.lt
 have z0 : w2.cell? ⟨w.heap.size + 1, 0, none⟩ = some (S [58, 115, 116, 97, 116, 117, 115]) := hF2.cell 0
 have z1 : w2.cell? ⟨w.heap.size + 1, 1, none⟩ = some (S [50, 48, 48]) := hF2.cell 1
 go_wp2
 rw [rounds_succ]
 refine wp_cut (R := fun W => Blk W (w.heap.size + 1) 41 #[S [58, 115, 116, 97, 116, 117, 115], S [50, 48, 48], .bool false] ∧ Below w.heap.size w W) ⟨hF2.alloc _, hb02.alloc hb02.size _⟩ ?_
 clear z0 z1 hz2 hF2 hb02
 rintro w2 ⟨hF2, hb02⟩
 have hz2 := hF2.lt
 have z0 : w2.cell? ⟨w.heap.size + 1, 0, none⟩ = some (S [58, 115, 116, 97, 116, 117, 115]) := hF2.cell 0
 have z1 : w2.cell? ⟨w.heap.size + 1, 1, none⟩ = some (S [50, 48, 48]) := hF2.cell 1
 go_wp2
 rw [rounds_succ]
 refine wp_cut (R := fun W => Blk W (w.heap.size + 1) 41 #[S [58, 115, 116, 97, 116, 117, 115], S [50, 48, 48], .bool false] ∧ Below w.heap.size w W) ⟨hF2.alloc _, hb02.alloc hb02.size _⟩ ?_
 clear z0 z1 hz2 hF2 hb02
 rintro w2 ⟨hF2, hb02⟩
 have hz2 := hF2.lt
 have z0 : w2.cell? ⟨w.heap.size + 1, 0, none⟩ = some (S [58, 115, 116, 97, 116, 117, 115]) := hF2.cell 0
 have z1 : w2.cell? ⟨w.heap.size + 1, 1, none⟩ = some (S [50, 48, 48]) := hF2.cell 1
 go_wp2
 go_ret2
 exact ⟨rfl, hb02.alloc hb02.size _⟩
end Go.Proofs.YtkeeofhjdffhbaaGreatDoor
namespace Go.Proofs.YtkeeofhjdffhbaaGreatDoor
open Go Go.RowKit Go.Dr
abbrev fStat : F := ⟨[58, 115, 116, 97, 116, 117, 115], [50, 48, 48], false⟩
set_option maxRecDepth 100000 in
set_option maxHeartbeats 8000000 in
theorem PutInt_eight (w : World) : Calls Tryz.prog 187 #[.int .u8 128, .int .i64 7, .int .u32 8] w fun e w' => e = .returned (.tuple #[.slice (some ⟨w.heap.size, 0, none⟩) 1 1, .int .i64 0]) ∧ Blk w' w.heap.size 5 #[.int .u8 136] ∧ Below w.heap.size w w' := by
 go_enter Tryz.func187, Tryz.ntmps187
 go_wp2
 go_ret2
 exact ⟨rfl, Blk.new _ _ _, (Below.refl _ _).alloc (Nat.le_refl _) _⟩
set_option maxRecDepth 100000 in
set_option maxHeartbeats 8000000 in
theorem Number_eight (w : World) : Calls Tryz.prog 139 #[.int .u8 128, .int .i64 7, .int .i64 8] w fun e w' => e = .returned (.slice (some ⟨w.heap.size, 0, none⟩) 1 1) ∧ Blk w' w.heap.size 5 #[.int .u8 136] ∧ Below w.heap.size w w' := by
 go_enter Tryz.func139, Tryz.ntmps139
 go_wp2_with (go_at_call 187;go_must ((with_reducible refine (PutInt_eight _).mono ?_);rintro e w2 ⟨rfl, hB2, hb2⟩))
 go_ret
 exact ⟨rfl, hB2, hb2⟩
set_option maxRecDepth 100000 in
theorem Most_any {t : Nat} {x : Value} (w : World) (ht : w.cell? ⟨t, 0, none⟩ = some x) : Calls Tryz.prog 138 #[Ptr t] w fun r w' => r = .returned x ∧ w' = w := by
 go_enter Tryz.func138, Tryz.ntmps138
 go_wp2
 go_ret
 exact ⟨rfl, rfl⟩
set_option maxRecDepth 100000 in
set_option maxHeartbeats 8000000 in
theorem Sizes_same {e t : Nat} (w : World) (hE : Blk w e 181 #[.int .i64 4096, .int .i64 4096, .int .i64 4096, Ptr t]) (ht : w.cell? ⟨t, 0, none⟩ = some (.int .i64 4096)) (hte : t ≠ e) : Calls Tryz.prog 100 #[Ptr e] w fun r w' => r = .returned (.slice none 0 0) ∧ Blk w' e 181 #[.int .i64 4096, .int .i64 4096, .int .i64 4096, Ptr t] ∧ But (fun k => k = e) w w' := by
 have y1 : w.cell? ⟨e, 1, none⟩ = some (.int .i64 4096) := hE.cell 1
 have y2 : w.cell? ⟨e, 2, none⟩ = some (.int .i64 4096) := hE.cell 2
 have y3 : w.cell? ⟨e, 3, none⟩ = some (Ptr t) := hE.cell 3
 have v1 := hE.free 1
 have v2 := hE.free 2
 go_enter Tryz.func100, Tryz.ntmps100
 go_wp2_with (go_at_call 138;go_must ((with_reducible refine (Most_any _ ht).mono ?_);rintro r w2 ⟨rfl, e2⟩;subst e2))
 go_region
 all_goals go_wp2
 go_ret
 exact ⟨rfl, ((hE.set 1 _).set 2 _).drew, (((But.refl (fun k => k = e) _).setCell (p := ⟨e, 1, none⟩) (.inl rfl) _).setCell (p := ⟨e, 2, none⟩) (.inl rfl) _).drew⟩
set_option maxRecDepth 100000 in
set_option maxHeartbeats 8000000 in
theorem Way_stat {e t : Nat} (w : World) (hE : Blk w e 181 #[.int .i64 4096, .int .i64 4096, .int .i64 4096, Ptr t]) : Calls Tryz.prog 101 #[Ptr e, .agg #[S fStat.n, S fStat.v, .bool false]] w fun r w' => r = .returned (.func (.func 142) #[Ptr e] #[]) ∧ Below w.heap.size w w' := by
 have hmf : ∀ (fn : Fn) (first cap : Array Value) (w : World), (Instr.makeFunc fn first cap).run Tryz.prog w = .ok (.func fn first cap) w := fun _ _ _ _ => rfl
 obtain ⟨W, eW⟩ : ∃ W, W = w.alloc (.cells #[S fStat.n, S fStat.v, .bool false] 41) := ⟨_, rfl⟩
 have hF : Blk W w.heap.size 41 #[S fStat.n, S fStat.v, .bool false] := by rw [eW];exact Blk.new _ _ _
 have hb : Below w.heap.size w W := by rw [eW];exact (Below.refl _ _).alloc (Nat.le_refl _) _
 have z0 : W.cell? ⟨w.heap.size, 0, none⟩ = some (S fStat.n) := hF.cell 0
 have z1 : W.cell? ⟨w.heap.size, 1, none⟩ = some (S fStat.v) := hF.cell 1
 have z2 : W.cell? ⟨w.heap.size, 2, none⟩ = some (.bool false) := hF.cell 2
 have y3 : W.cell? ⟨e, 3, none⟩ = some (Ptr t) := (hE.on hb).cell 3
 go_enter Tryz.func101, Tryz.ntmps101
 go_upto_region 1 with fail
 rw [← eW]
 clear eW
 go_wp2
 go_region_with (go_at_call 141;go_must ((with_reducible refine (Find_stat _).mono ?_);rintro e w2 ⟨rfl, hb2⟩))
 all_goals go_wp2
 all_goals go_ret
 all_goals exact ⟨rfl, hb.drew.trans (hb2.mono hb.size)⟩
set_option maxRecDepth 100000 in
set_option maxHeartbeats 8000000 in
theorem Found_stat {e t : Nat} (w : World) (hE : Blk w e 181 #[.int .i64 4096, .int .i64 4096, .int .i64 4096, Ptr t]) : Calls Tryz.prog 142 #[Ptr e, .agg #[S fStat.n, S fStat.v, .bool false]] w fun r w' => ∃ g, w.heap.size ≤ g ∧ r = .returned (.slice (some ⟨g, 0, none⟩) 1 1) ∧ Blk w' g 5 #[.int .u8 136] ∧ Below w.heap.size w w' := by
 obtain ⟨W, eW⟩ : ∃ W, W = w.alloc (.cells #[S fStat.n, S fStat.v, .bool false] 41) := ⟨_, rfl⟩
 have hF : Blk W w.heap.size 41 #[S fStat.n, S fStat.v, .bool false] := by rw [eW];exact Blk.new _ _ _
 have hb : Below w.heap.size w W := by rw [eW];exact (Below.refl _ _).alloc (Nat.le_refl _) _
 have z0 : W.cell? ⟨w.heap.size, 0, none⟩ = some (S fStat.n) := hF.cell 0
 have z1 : W.cell? ⟨w.heap.size, 1, none⟩ = some (S fStat.v) := hF.cell 1
 have z2 : W.cell? ⟨w.heap.size, 2, none⟩ = some (.bool false) := hF.cell 2
 have y3 : W.cell? ⟨e, 3, none⟩ = some (Ptr t) := (hE.on hb).cell 3
 go_enter Tryz.func142, Tryz.ntmps142
 go_upto_region 1 with fail
 rw [← eW]
 clear eW
 go_region_with (go_at_call 141;go_must ((with_reducible refine (Find_stat _).mono ?_);rintro r w2 ⟨rfl, hb2⟩))
 all_goals (
  go_wp2_with (go_at_call 139;go_must ((with_reducible refine (Number_eight _).mono ?_);rintro r w3 ⟨rfl, hB3, hb3⟩))
  go_ret
  have hb02 := hb.drew.trans (hb2.mono hb.size)
  exact ⟨_, hb02.size, rfl, hB3, hb02.trans (hb3.mono hb02.size)⟩)
set_option maxRecDepth 100000 in
set_option maxHeartbeats 8000000 in
theorem Encode_stat {e t B : Nat} {v : Value} (w : World) (hE : Blk w e 181 #[.int .i64 4096, .int .i64 4096, .int .i64 4096, Ptr t]) (ht : w.cell? ⟨t, 0, none⟩ = some (.int .i64 4096)) (hte : t ≠ e) (hv : w.ownsRow B 41 3 v 1 (fcells [fStat])) (heB : e < B) :
  Calls Tryz.prog 61 #[Ptr e, v] w fun r w' => ∃ x, r = .returned x ∧ w'.ownsRow w.heap.size 5 1 x 1 [B8 136] ∧ Blk w' e 181 #[.int .i64 4096, .int .i64 4096, .int .i64 4096, Ptr t] ∧ But (fun k => k = e) w w' := by
 have hSz := Sizes_same w hE ht hte
 obtain ⟨va, vc, rfl⟩ := own_form hv
 go_enter Tryz.func61, Tryz.ntmps61
 go_wp2_with (go_at_call 100;go_must ((with_reducible refine hSz.mono ?_);rintro r w2 ⟨rfl, hE2, hb2⟩))
 have hv2 := own_same hv (fun g hg => hb2.block g (hv.lt g hg.symm).2 (fun h => by have := (hv.lt g hg.symm).1;omega))
 obtain ⟨b, off, eab, hbl, x0, x1, x2⟩ := Fs.at (Fs.own hv2) 0 (by decide)
 subst eab
 rw [Nat.zero_mul, Nat.add_zero] at x0 x1 x2
 have x0 : w2.cell? ⟨b, off, none⟩ = some (S fStat.n) := x0
 have x1 : w2.cell? ⟨b, off + 1, none⟩ = some (S fStat.v) := x1
 have x2 : w2.cell? ⟨b, off + 2, none⟩ = some (.bool false) := x2
 have hz2 := hb2.size
 obtain ⟨W, eW⟩ : ∃ W, W = w2.alloc (.cells #[S fStat.n, S fStat.v, .bool false] 41) := ⟨_, rfl⟩
 have hF : Blk W w2.heap.size 41 #[S fStat.n, S fStat.v, .bool false] := by rw [eW];exact Blk.new _ _ _
 have hb : Below w2.heap.size w2 W := by rw [eW];exact (Below.refl _ _).alloc (Nat.le_refl _) _
 have z0 : W.cell? ⟨w2.heap.size, 0, none⟩ = some (S fStat.n) := hF.cell 0
 have z1 : W.cell? ⟨w2.heap.size, 1, none⟩ = some (S fStat.v) := hF.cell 1
 have z2 : W.cell? ⟨w2.heap.size, 2, none⟩ = some (.bool false) := hF.cell 2
 have hEW := hE2.on hb
 have hWy := Way_stat W hEW
 refine wp_loop_rounds 2 ?_
 rw [rounds_succ]
 go_upto_region 7 with fail
 rw [← eW]
 clear eW
 go_wp2_with first
  | (go_at_call 101;go_must ((with_reducible refine hWy.mono ?_);rintro r w3 ⟨rfl, hb3⟩;have hF3 := hF.on hb3;have y0 : w3.cell? ⟨w2.heap.size, 0, none⟩ = some (S fStat.n) := hF3.cell 0;have y1 : w3.cell? ⟨w2.heap.size, 1, none⟩ = some (S fStat.v) := hF3.cell 1;have y2 : w3.cell? ⟨w2.heap.size, 2, none⟩ = some (.bool false) := hF3.cell 2;have hFo := Found_stat w3 (hEW.on hb3);have hb23 := hb.trans (hb3.mono hb.size)))
  | (go_at_call 142;go_must ((with_reducible refine hFo.mono ?_);rintro r w4 ⟨g, hg, rfl, hB4, hb4⟩;have hb24 := hb23.trans (hb4.mono hb23.size)))
  | (at_builtin;refine wpList_appAt rfl _ _ 26 rfl w.heap.size 5 (.int .u8 0) 1 1 Tryz.underlying26 (by kernel_rfl) rfl (by decide) _ _ _ rfl (World.ownsRow_nil _ _ _ _) w4.heap.size _ 1 [B8 136] rfl (Rd.own (own_of_blk hB4 hg rfl rfl (by unfold maxLen;omega))) (by intro u hu;simp at hu;subst hu;rfl) (by unfold maxLen;omega) (by omega) (by have := hb24.size;omega) ?_;intro a5 c5 w5 hown5 hg5 hat5)
 rw [rounds_succ]
 go_wp2
 go_ret
 refine ⟨_, rfl, hown5, ((hEW.on hb3).on hb4).but (but_grow hg5) (fun h => by cases h), ?_⟩
 exact (hb2.trans (But.of_below (S := fun k => k = e) hb24)).trans ((but_grow hg5).more fun g hg => by cases hg)
end Go.Proofs.YtkeeofhjdffhbaaGreatDoor
namespace Go.Dr
open Go Go.RowKit
def dg (n : Nat) : UInt8 := UInt8.ofNat (48 + n % 10)
/-- A number's text. -/
def digs (n : Nat) : Bytes := if h : n < 10 then [dg n] else digs (n / 10) ++ [dg n]
decreasing_by omega
theorem digs_small {n : Nat} (h : n < 10) : digs n = [dg n] := by rw [digs, dif_pos h]
theorem digs_step {n : Nat} (h : ¬ n < 10) : digs n = digs (n / 10) ++ [dg n] := by rw [digs, dif_neg h]
theorem dg_mod (m : Nat) : dg (m % 10) = dg m := by unfold dg;rw [Nat.mod_mod]
theorem idx_hex {P : Program} (t : TypeId) (ht : P.underlying t = some .string) (z : Int) (m : Nat) (hz : z = (m : Int) % 10) (w : World) :
  (Instr.index t (.string ⟨#[48, 49, 50, 51, 52, 53, 54, 55, 56, 57, 97, 98, 99, 100, 101, 102]⟩) (.int .i64 z)).run P w = .ok (B8 (dg m)) w := by
 obtain ⟨i, hi, hzi, e⟩ : ∃ i : Nat, i < 10 ∧ z = (i : Int) ∧ dg i = dg m := ⟨m % 10, by omega, by omega, dg_mod m⟩
 rw [← e]
 subst hzi
 rw [run_index_string w t _ .i64 _ ht, dif_pos ⟨by omega, by show (i : Int) < 16;omega⟩]
 match i, hi with
 | 0, _ | 1, _ | 2, _ | 3, _ | 4, _ | 5, _ | 6, _ | 7, _ | 8, _ | 9, _ => rfl
/-- Where the text of n is begun from its end: T stands, v is still to be said. -/
def digsP (v : Nat) (T : Bytes) : Bytes := if v = 0 ∧ T ≠ [] then T else digs v ++ T
theorem digsP_step (v : Nat) (T : Bytes) (h : 0 < v ∨ T = []) : digsP (v / 10) (dg v :: T) = digsP v T := by
 have e : digsP v T = digs v ++ T := by
  unfold digsP
  rw [if_neg]
  rintro ⟨h1, h2⟩
  rcases h with h | h
  ·omega
  ·exact h2 h
 rw [e]
 unfold digsP
 by_cases h10 : v < 10
 ·rw [if_pos ⟨by omega, by simp⟩, digs_small h10];rfl
 ·rw [if_neg (by omega), digs_step h10, List.append_assoc];rfl
theorem digsP_zero (T : Bytes) (h : T ≠ []) : digsP 0 T = T := by unfold digsP;rw [if_pos ⟨rfl, h⟩]
theorem len_bound {v k n : Nat} (h : v * 10 ^ k ≤ n) (hn : n ≤ 9223372036854775807) (hv : 0 < v ∨ k = 0) : k ≤ 18 := by
 rcases hv with hv | hv
 ·by_cases hk : k ≤ 18
  ·exact hk
  ·have h1 : 10 ^ 19 ≤ 10 ^ k := Nat.pow_le_pow_right (by decide) (by omega)
   have h2 : 1 * 10 ^ k ≤ v * 10 ^ k := Nat.mul_le_mul_right _ hv
   have h3 : (10 : Nat) ^ 19 = 10000000000000000000 := by decide
   omega
 ·omega
theorem pow_next (v k n : Nat) (h : v * 10 ^ k ≤ n) : v / 10 * 10 ^ (k + 1) ≤ n := by
 have h1 : v / 10 * 10 ≤ v := by omega
 have h2 : v / 10 * 10 * 10 ^ k ≤ v * 10 ^ k := Nat.mul_le_mul_right _ h1
 rw [Nat.pow_succ, Nat.mul_comm (10 ^ k), ← Nat.mul_assoc]
 omega
end Go.Dr
namespace Go.Proofs.YtkeeofhjdffhbaaGreatDoor
open Go.RowKit Go.Dr
theorem set_tail {xs : Array Value} {k : Nat} {T : Bytes} {c : UInt8} (hs : xs.size = 64) (hk : k + 1 + T.length = 64) (h : ∀ j (hj : j < T.length), xs[k + 1 + j]? = some (B8 T[j])) :
  ∀ j (hj : j < (c :: T).length), (xs.setIfInBounds k (B8 c))[k + j]? = some (B8 (c :: T)[j]) := by
 intro j hj
 rw [Array.getElem?_setIfInBounds]
 cases j with
 | zero => simp;omega
 | succ j =>
  rw [if_neg (by omega), show k + (j + 1) = k + 1 + j by omega]
  exact h j (by simpa using hj)
theorem slice64 (w : World) (b k : Nat) (hk : k < 64) : (Instr.sliceAt 270 (.pointer (some ⟨b, 0, none⟩)) (some (.int .i64 (k : Int))) none none).run Tryz.prog w = .ok (.slice (some ⟨b, k, none⟩) (64 - k) (64 - k)) w := by
 have hl : Tryz.prog.arrayLen 270 = 64 := by kernel_rfl
 have he : Tryz.prog.elem 270 = 5 := by kernel_rfl
 obtain ⟨i, hi⟩ := info_of_underlying Tryz.underlying5
 have hs : Tryz.prog.cellsOf 5 = 1 := by kernel_rfl
 rw [run_sliceAt_array_l w 270 ⟨b, 0, none⟩ (by kernel_rfl) .i64 (k : Int) (by omega) (by rw [hl];omega), hl, he, run_sizeOf w hi, hs]
 have h64 : ¬ 64 = k := by omega
 simp [Result.andThen, slicedAt, h64, Addr.add_lit]
set_option maxRecDepth 100000 in
set_option maxHeartbeats 2000000 in
theorem digits10_any (n : Nat) (w : World) (hn : n ≤ 9223372036854775807) : Calls Tryz.prog 137 #[.int .i64 n, .int .i64 10] w fun e w' => e = .returned (S (digs n)) ∧ Below w.heap.size w w' := by
 go_enter Tryz.func137, Tryz.ntmps137
 go_wp2
 go_loopw [0, 6] (fun v i wr => ∃ (m k : Nat) (T : Bytes) (xs : Array Value), v = .int .i64 m ∧ i = .int .i64 ((k : Int) + 1) ∧ k + 1 + T.length = 64 ∧ Blk wr w.heap.size 270 xs ∧ xs.size = 64 ∧ (∀ j (hj : j < T.length), xs[k + 1 + j]? = some (B8 T[j])) ∧ Hid (digsP m T = digs n) ∧ (0 < m ∨ T = []) ∧ m * 10 ^ T.length ≤ n ∧ Below w.heap.size w wr) (fun v _ _ => (intOf v).toNat)
 case atStart => exact ⟨n, 63, [], _, rfl, rfl, rfl, Blk.new _ _ _, by simp, by simp, by show digsP n [] = digs n;unfold digsP;simp, .inr rfl, by simp, (Below.refl _ _).alloc (Nat.le_refl _) _⟩
 case round =>
  obtain ⟨m, k, T, xs, rfl, rfl, hk, hX, hs, hT, HD, hv, hle, hbel⟩ := hrel
  have hlen := len_bound hle hn (hv.imp_right (fun e => by rw [e];rfl))
  have hidx : ∀ w' : World, (Instr.index 9 (.string ⟨#[48, 49, 50, 51, 52, 53, 54, 55, 56, 57, 97, 98, 99, 100, 101, 102]⟩) (.int .i64 ((m : Int) % 10))).run Tryz.prog w' = .ok (B8 (dg m)) w' := fun w' => idx_hex 9 Tryz.underlying9 _ m rfl w'
  have hc : wr.cell? ⟨w.heap.size, k, none⟩ = some (xs[k]'(by omega)) := by rw [hX.cell k, Array.getElem?_eq_getElem]
  have hf : wr.frozen? ⟨w.heap.size, k, none⟩ = false := hX.free k
  have hT2 := set_tail (c := dg m) hs hk hT
  have hX2 := hX.set k (B8 (dg m))
  have hs2 : (xs.setIfInBounds k (B8 (dg m))).size = 64 := by simpa using hs
  have HD2 : Hid (digsP (m / 10) (dg m :: T) = digs n) := by show _ = _;rw [digsP_step m T hv];exact HD.out
  have hle2 := pow_next m T.length n hle
  have hb2 : Below w.heap.size w (wr.setCell ⟨w.heap.size, k, none⟩ (B8 (dg m))) := hbel.setCell (Nat.le_refl _) _
  have hm64 : m ≤ 9223372036854775807 := by
   have : 0 < 10 ^ T.length := Nat.pow_pos (by decide)
   have := Nat.le_mul_of_pos_right m this
   omega
  have hcv : (convert 26 9 (.slice (some ⟨w.heap.size, k, none⟩) (64 - k) (64 - k))).run Tryz.prog (wr.setCell ⟨w.heap.size, k, none⟩ (B8 (dg m))) = .ok (S (dg m :: T)) (wr.setCell ⟨w.heap.size, k, none⟩ (B8 (dg m))) := by
   rw [show 64 - k = (dg m :: T).length by simp;omega]
   exact run_convert_bytes_back _ _ _ 5 ⟨w.heap.size, k, none⟩ _ (dg m :: T) Tryz.underlying26 Tryz.underlying5 Tryz.underlying9 (fun j hj => by
    rw [Addr.add_lit]
    rw [hX2.cell (k + j)]
    exact hT2 j hj)
  have hsl := fun w' : World => slice64 w' w.heap.size k (by omega)
  clear hT hX hv hle HD
  by_cases h0 : m / 10 = 0
  ·have HD2 : Hid (dg m :: T = digs n) := by
    have := HD2.out
    rw [h0, digsP_zero _ (by simp)] at this
    exact this
   have g0 : (((m : Int) / 10) == 0) = true := by simp;omega
   clear h0
   go_wp2
   go_ret
   exact ⟨ret_S HD2.out, hb2⟩
  ·have g0 : (((m : Int) / 10) == 0) = false := by simp;omega
   go_wp2
   go_roundw
   case rel => exact ⟨m / 10, k - 1, dg m :: T, _, by go_num, by go_num, by simp;omega, hX2, hs2, by rw [show k - 1 + 1 = k by omega];exact hT2, HD2, .inl (by omega), by simpa using hle2, hb2⟩
   case measure => simp [intOf];omega
theorem Digits_any (n : Nat) (w : World) (hn : n ≤ 9223372036854775807) : Calls Tryz.prog 98 #[.int .i64 n] w fun e w' => e = .returned (S (digs n)) ∧ Below w.heap.size w w' := by
 go_enter Tryz.func98, Tryz.ntmps98
 go_wp2_with fail
 refine (digits10_any n w hn).mono ?_
 rintro e w1 ⟨rfl, hb1⟩
 go_wp2
 go_ret
 exact ⟨rfl, hb1⟩
end Go.Proofs.YtkeeofhjdffhbaaGreatDoor
namespace Go.Proofs.YtkeeofhjdffhbaaGreatDoor
open Go Go.RowKit Go.Dr
set_option maxRecDepth 100000 in
set_option maxHeartbeats 8000000 in
theorem Digits_200 (w : World) : Calls Tryz.prog 98 #[.int .i64 200] w fun e w' => e = .returned (S [50, 48, 48]) ∧ Below w.heap.size w w' := by
 have h := Digits_any 200 w (by decide)
 rw [show digs 200 = [50, 48, 48] by decide +kernel] at h
 exact h
set_option maxRecDepth 100000 in
set_option maxHeartbeats 8000000 in
theorem Answer_200 (w : World) : Calls Tryz.prog 60 #[.int .i64 200, .slice none 0 0] w fun e w' => ∃ B v, e = .returned (.tuple #[v, .int .i64 0]) ∧ w.heap.size ≤ B ∧ w'.ownsRow B 41 3 v 1 (fcells [fStat]) ∧ Below w.heap.size w w' := by
 go_enter Tryz.func60, Tryz.ntmps60
 go_wp2_with (go_at_call 98;go_must ((with_reducible refine (Digits_200 _).mono ?_);rintro r w2 ⟨rfl, hb2⟩))
 refine wp_loop_rounds 1 ?_
 rw [rounds_succ]
 go_wp2
 go_ret2
 exact ⟨w2.heap.size, _, rfl, hb2.size, own_of_blk (Blk.new _ _ _) (Nat.le_refl _) rfl rfl (by unfold maxLen;omega), hb2.alloc hb2.size _⟩
end Go.Proofs.YtkeeofhjdffhbaaGreatDoor
