/- Parts of the proof of bk_root: the texts Cna6 Cnb1 Cnb2. -/
import Derived.Test.YtcodgfmombehoaaGreatDoorK25
import Derived.Test.YtcodgfmombehoaaGreatDoorK24
set_option linter.unusedSimpArgs false
set_option linter.unusedVariables false
set_option linter.unnecessarySimpa false
set_option maxRecDepth 100000
set_option maxHeartbeats 64000000
namespace Go.Proofs.YtcodgfmombehoaaGreatDoor
open Go Go.RowKit Go.Dr
variable {w w' : World} {n : Nm} {m : Mm} {q q' : Cq}
theorem itm_len15 (i : Itm) : i.cells.length = 15 := rfl
theorem itcells_get2 (l : List Itm) (k : Nat) (h : k < l.length) (j : Nat) (hj : j < 15) : (itcells l)[k * 15 + j]? = (l[k].cells)[j]? := by
 induction l generalizing k with
 | nil => simp at h
 | cons x l ih =>
  have e : itcells (x :: l) = x.cells ++ itcells l := (by simp [itcells])
  cases k with
  | zero => rw [e, List.getElem?_append_left (by rw [itm_len15];omega)];simp
  | succ k =>
   rw [e, List.getElem?_append_right (by rw [itm_len15];omega)];simp only [List.getElem_cons_succ];rw [← ih k (by simpa using h)]
   congr 1
   rw [itm_len15];omega
theorem its_at2 {w : World} {base : Nat} {ar : Option Addr} {n c : Nat} {its : List Itm} (h : w.ownsRow base 59 15 (.slice ar n c) its.length (itcells its)) (k : Nat) (hk : k < its.length) :
  ∃ g, ar = some ⟨g, 0, none⟩ ∧ ∀ j, j < 15 → w.cell? ⟨g, k * 15 + j, none⟩ = (its[k].cells)[j]? := by
 rcases h.2 with ⟨-, h0⟩ | ⟨g, cap, cur, hv, -, hg, -, -, -, ht⟩
 ·omega
 ·simp only [Value.slice.injEq] at hv
  refine ⟨g, hv.1, fun j hj => ?_⟩;rw [← itcells_get2 its k hk j hj, ← ht];simp only [World.cell?, hg];rw [List.getElem?_take_of_lt (by omega)];simp
abbrev TakeOf (W : World) (fb : Nat) (vb : Value) (items : List (Fr × Ft)) : Prop :=
 Calls Tryz.prog 25 #[Ptr fb, vb] W fun e w' => ∃ v its, e = .returned v ∧ its.map (fun i => (Itm.f i, Itm.x i)) = items ∧ w'.ownsRow W.heap.size 59 15 v its.length (itcells its) ∧ (∀ i ∈ its, w'.ownsRow W.heap.size 33 2 i.vs i.f.sets.length (scells i.f.sets)) ∧ Blk w' fb 122 (feedC 16384 24 (.slice none 0 0) false) ∧ But (fun k => k = fb) W w'
theorem take_first {W : World} {fb : Nat} {vb : Value} {l : Bytes} {items : List (Fr × Ft)} (hf : Blk W fb 122 (feedC 16384 0 (.slice none 0 0) false)) (hb : By W.heap.size W vb (prefB ++ l)) (hl : l.length ≤ 1048576) (hi : itemsF 16384 (l.length + 1) l = (items, [], false)) : TakeOf W fb vb items := by
 refine (Feed_first l vb W (by decide) hf hb hl).mono ?_;rintro e w1 ⟨v, its, v', rfl, h1, h2, h3, h4, h5, h6, h7⟩;rw [hi] at h1 h4 h5 h7;have := h7 rfl
 subst this;exact ⟨v, its, rfl, h1, h2, h3, h4, h6⟩
theorem take_then {W : World} {fb : Nat} {vb : Value} {l : Bytes} {items : List (Fr × Ft)} (hf : Blk W fb 122 (feedC 16384 24 (.slice none 0 0) false)) (hb : By W.heap.size W vb l) (hl : l.length ≤ 1048576) (hi : itemsF 16384 (l.length + 1) l = (items, [], false)) : TakeOf W fb vb items := by
 refine (Feed_take l vb W (by decide) hf hb hl).mono ?_;rintro e w1 ⟨v, its, v', rfl, h1, h2, h3, h4, h5, h6, h7⟩;rw [hi] at h1 h4 h5 h7;have := h7 rfl
 subst this;exact ⟨v, its, rfl, h1, h2, h3, h4, h6⟩
theorem Cx.goesW (hx : Cx w n m q) : Cx (w.setCell ⟨n.c, 21, none⟩ (.slice none 0 0)) n { m with nv := .slice none 0 0 } { q with news := [] } ∧ GoesF w n (Foot n m q) (w.setCell ⟨n.c, 21, none⟩ (.slice none 0 0)) { q with news := [] } (Foot n { m with nv := .slice none 0 0 } { q with news := [] }) := by
 have hbt : But (fun g => g = n.c) w (w.setCell ⟨n.c, 21, none⟩ (.slice none 0 0)) := (But.refl (fun g => g = n.c) w).setCell (p := ⟨n.c, 21, none⟩) (.inl rfl) _;obtain ⟨kc, -, -, -, -, -, -, -, -, -, -, -, -, -, kbv, knv, kcv, ksd⟩ := hx.kinds
 have hX := hx.upC hbt (fun g hg => .inl (by rw [hg];exact kc)) { m with nv := .slice none 0 0 } { q with news := [] } (hx.blk.set 21 _)
  (own_same hx.bytes fun g hg => hbt.block g (own_lt hx.bytes hg).2 (by
   have := kbv g hg
   intro e;rw [e] at this
   omega))
  ⟨0, World.ownsRow_nil _ _ _ _⟩
  (own_same hx.closed fun g hg => hbt.block g (own_lt hx.closed hg).2 (by
   have := kcv g hg
   intro e;rw [e] at this
   omega))
  (fun p hp g hg => ⟨by
   have := (ksd p hp).2 g hg
   intro e;rw [e] at this
   omega, hx.bp p hp g hg⟩) rfl rfl rfl
 refine ⟨hX, hX.goesF (hbt.more fun g hg => by rw [hg];exact Foot.c _ _ _) fun g hg => ?_⟩
 rcases foot_rows (m := m) (q := q) hg rfl rfl rfl with hg | hg | hg | hg
 ·exact .inl hg
 ·exact .inl (Foot.bv hg)
 ·cases hg
 ·exact .inl (Foot.cv hg)
theorem Cx.goesFd (hx : Cx w n m q) (hb : But (fun k => k = n.fb) w w') {pre : Nat} (hf : Blk w' n.fb 122 (feedC 16384 pre (.slice none 0 0) false)) : Cx w' n m { q with pre := pre } ∧ GoesF w n (Foot n m q) w' { q with pre := pre } (Foot n m { q with pre := pre }) := by
 have h := hx.upF hb (fun g hg => by rw [hg];exact kd_blk hx.feed) pre hf;exact ⟨h, h.goesF (hb.more fun g hg => by rw [hg];exact Foot.fb) fun g hg => .inl hg⟩
abbrev itmV (f : Fr) (vs : Value) (x : Ft) : Value := .agg #[.int .i64 (f.ty : Nat), .int .i64 (f.fl : Nat), .int .i64 (f.st : Nat), S f.data, .int .i64 (f.pad : Nat), vs, .int .i64 (f.code : Nat), .int .i64 (f.last : Nat), .int .i64 (f.inc : Nat), .int .i64 (f.dep : Nat), .int .i64 (f.wt : Nat), .bool f.sole, .bool x.is, .int .i64 (x.code : Nat), .int .i64 (x.st : Nat)]
theorem Taken_any {F : Nat → Prop} (w : World) (h : Cw w n q F) (hov : q.over = false) (vb : Value) (items : List (Fr × Ft)) (Q : Nat → Cq) (hQ0 : Q 0 = { q with news := [], pre := 24 }) (hQo : ∀ k, k < items.length → (Q k).over = false)
  (hT : ∀ W F1, But (fun g => g = n.c) w W → W = w.setCell ⟨n.c, 21, none⟩ (.slice none 0 0) → Cw W n { q with news := [] } F1 → TakeOf W n.fb vb items)
  (hIt : ∀ k (hk : k < items.length) w1 F1 sa sc, Cw w1 n (Q k) F1 → (∃ b, w1.ownsRow b 33 2 (.slice sa items[k].1.sets.length sc) items[k].1.sets.length (scells items[k].1.sets)) → Calls Tryz.prog 26 #[Ptr n.c, itmV items[k].1 (.slice sa items[k].1.sets.length sc) items[k].2] w1 fun r w' => r = .returned (.tuple #[]) ∧ Goes w1 n F1 w' (Q (k + 1))) :
  Calls Tryz.prog 7 #[Ptr n.c, vb] w fun e w' => ∃ v j, e = .returned v ∧ w'.ownsRow n.B 68 10 v j (Q items.length).news ∧ Goes w n F w' (Q items.length) := by
 have g0 := GoesF.refl h;obtain ⟨m, hx, rfl⟩ := h;have y19 : w.cell? ⟨n.c, 19, none⟩ = some (.bool false) := (by rw [← hov];exact hx.blk.cell 19);have y21 : w.cell? ⟨n.c, 21, none⟩ = some m.nv := hx.blk.cell 21;have v21 := hx.blk.free 21;have y4 : w.cell? ⟨n.c, 4, none⟩ = some (Ptr n.fb) := hx.blk.cell 4;obtain ⟨hxW, gW⟩ := hx.goesW;have hTk := hT _ _ ((But.refl (fun g => g = n.c) w).setCell (p := ⟨n.c, 21, none⟩) (.inl rfl) _) rfl gW.h;go_enter Tryz.func7, Tryz.ntmps7
 go_wp2_with (go_at_call 25;go_must ((with_reducible refine hTk.mono ?_);rintro e w1 ⟨v, its, rfl, hits, hrow, hsets, hFd, hb1⟩;obtain ⟨ar, cr, rfl⟩ := own_form hrow))
 obtain ⟨hx1, g1⟩ := hxW.goesFd hb1 hFd;have hz1 : (w.setCell ⟨n.c, 21, none⟩ (.slice none 0 0)).heap.size ≤ w1.heap.size := hb1.size;have hC0 : Cw w1 n (Q 0) (Foot n { m with nv := .slice none 0 0 } { q with news := [], pre := 24 }) := (by rw [hQ0];exact g1.h);have hFlt : ∀ g, Foot n { m with nv := .slice none 0 0 } { q with news := [], pre := 24 } g → g < (w.setCell ⟨n.c, 21, none⟩ (.slice none 0 0)).heap.size := fun g hg => hxW.foot_lt (show Foot n { m with nv := .slice none 0 0 } { q with news := [] } g from hg)
 have g01 := gW.comp g1;generalize (w.setCell ⟨n.c, 21, none⟩ (.slice none 0 0)).heap.size = NB at hrow hsets hFlt;have gF1 : ∀ g, Foot n { m with nv := .slice none 0 0 } { q with news := [], pre := 24 } g → Foot n m q g ∨ w.heap.size ≤ g := g01.s;have gB1 : But (Foot n m q) w w1 := g01.b;generalize Foot n { m with nv := .slice none 0 0 } { q with news := [], pre := 24 } = F1 at hC0 hFlt gF1;have HN := Lib.hid (show its.length = items.length by rw [← hits];simp);have hmx : its.length ≤ 9223372036854775807 := (Rd.own hrow).len;have HQ := Lib.hid hQ0;clear hQ0 hxW gW hTk hT hFd hb1 hx1 g1 g01 y4 y19 y21 v21
 go_loopw [25] (fun i wr => ∃ k : Nat, k ≤ items.length ∧ i = .int .i64 (k : Int) ∧ ∃ Fk, GoesF w1 n F1 wr (Q k) Fk) (fun i _ => items.length - (intOf i).toNat)
 case atStart => exact ⟨0, Nat.zero_le _, rfl, F1, GoesF.refl hC0⟩
 case round =>
  obtain ⟨k, hk, rfl, Fk, hG⟩ := hrel;by_cases hlt : k < items.length
  ·have hlt2 : k < its.length := by rw [HN.out];exact hlt
   obtain ⟨⟨f, x, vs⟩, hi⟩ : ∃ i, i = its[k] := ⟨_, rfl⟩;have hvs := hsets ⟨f, x, vs⟩ (hi ▸ List.getElem_mem _)
   dsimp only at hvs
   obtain ⟨sa, sc, rfl⟩ := own_form hvs;have hqi : items[k] = (f, x) := (by subst hits;rw [List.getElem_map, ← hi]);have hrw := own_same hrow (fun g hg => hG.b.block g (hrow.lt g hg.symm).2 (fun hf => by have := hFlt g hf;have := (hrow.lt g hg.symm).1;omega));have hvw := own_same hvs (fun g hg => hG.b.block g (hvs.lt g hg.symm).2 (fun hf => by have := hFlt g hf;have := (hvs.lt g hg.symm).1;omega));obtain ⟨g, rfl, hcell⟩ := its_at2 hrw k hlt2;rw [← hi] at hcell;have y0 : wr.cell? ⟨g, k * 15, none⟩ = some (.int .i64 (f.ty : Nat)) := hcell 0 (by decide);have y1 : wr.cell? ⟨g, k * 15 + 1, none⟩ = some (.int .i64 (f.fl : Nat)) := hcell 1 (by decide);have y2 : wr.cell? ⟨g, k * 15 + 2, none⟩ = some (.int .i64 (f.st : Nat)) := hcell 2 (by decide);have y3 : wr.cell? ⟨g, k * 15 + 3, none⟩ = some (S f.data) := hcell 3 (by decide);have y4 : wr.cell? ⟨g, k * 15 + 4, none⟩ = some (.int .i64 (f.pad : Nat)) := hcell 4 (by decide);have y5 : wr.cell? ⟨g, k * 15 + 5, none⟩ = some (.slice sa f.sets.length sc) := hcell 5 (by decide);have y6 : wr.cell? ⟨g, k * 15 + 6, none⟩ = some (.int .i64 (f.code : Nat)) := hcell 6 (by decide);have y7 : wr.cell? ⟨g, k * 15 + 7, none⟩ = some (.int .i64 (f.last : Nat)) := hcell 7 (by decide);have y8 : wr.cell? ⟨g, k * 15 + 8, none⟩ = some (.int .i64 (f.inc : Nat)) := hcell 8 (by decide);have y9 : wr.cell? ⟨g, k * 15 + 9, none⟩ = some (.int .i64 (f.dep : Nat)) := hcell 9 (by decide);have y10 : wr.cell? ⟨g, k * 15 + 10, none⟩ = some (.int .i64 (f.wt : Nat)) := hcell 10 (by decide);have y11 : wr.cell? ⟨g, k * 15 + 11, none⟩ = some (.bool f.sole) := hcell 11 (by decide);have y12 : wr.cell? ⟨g, k * 15 + 12, none⟩ = some (.bool x.is) := hcell 12 (by decide);have y13 : wr.cell? ⟨g, k * 15 + 13, none⟩ = some (.int .i64 (x.code : Nat)) := hcell 13 (by decide);have y14 : wr.cell? ⟨g, k * 15 + 14, none⟩ = some (.int .i64 (x.st : Nat)) := hcell 14 (by decide);obtain ⟨wr1, ewr⟩ : ∃ wr1, wr1 = wr.alloc (.cells #[.int .i64 (f.ty : Nat), .int .i64 (f.fl : Nat), .int .i64 (f.st : Nat), S f.data, .int .i64 (f.pad : Nat), .slice sa f.sets.length sc, .int .i64 (f.code : Nat), .int .i64 (f.last : Nat), .int .i64 (f.inc : Nat), .int .i64 (f.dep : Nat), .int .i64 (f.wt : Nat), .bool f.sole, .bool x.is, .int .i64 (x.code : Nat), .int .i64 (x.st : Nat)] 59) := ⟨_, rfl⟩;have hb1 : Below wr.heap.size wr wr1 := (by rw [ewr];exact (Below.refl _ _).alloc (Nat.le_refl _) _);have hS : ∃ b, wr1.ownsRow b 33 2 (.slice sa f.sets.length sc) f.sets.length (scells f.sets) := ⟨_, own_below hvw hb1⟩;have hI1 : Blk wr1 wr.heap.size 59 #[.int .i64 (f.ty : Nat), .int .i64 (f.fl : Nat), .int .i64 (f.st : Nat), S f.data, .int .i64 (f.pad : Nat), .slice sa f.sets.length sc, .int .i64 (f.code : Nat), .int .i64 (f.last : Nat), .int .i64 (f.inc : Nat), .int .i64 (f.dep : Nat), .int .i64 (f.wt : Nat), .bool f.sole, .bool x.is, .int .i64 (x.code : Nat), .int .i64 (x.st : Nat)] := (by rw [ewr];exact Blk.new _ _ _);have hG1 := hG.on hb1;have hCk := hIt k hlt wr1 Fk sa sc
   rw [hqi] at hCk
   dsimp only at hCk
   have hCk := hCk hG1.h hS
   have y19 : wr1.cell? ⟨n.c, 19, none⟩ = some (.bool false) := by
    obtain ⟨m', hx', -⟩ := hG1.h;rw [← hQo k hlt];exact hx'.blk.cell 19
   have z0 : wr1.cell? ⟨wr.heap.size, 0, none⟩ = some (.int .i64 (f.ty : Nat)) := hI1.cell 0;have z1 : wr1.cell? ⟨wr.heap.size, 1, none⟩ = some (.int .i64 (f.fl : Nat)) := hI1.cell 1;have z2 : wr1.cell? ⟨wr.heap.size, 2, none⟩ = some (.int .i64 (f.st : Nat)) := hI1.cell 2;have z3 : wr1.cell? ⟨wr.heap.size, 3, none⟩ = some (S f.data) := hI1.cell 3;have z4 : wr1.cell? ⟨wr.heap.size, 4, none⟩ = some (.int .i64 (f.pad : Nat)) := hI1.cell 4;have z5 : wr1.cell? ⟨wr.heap.size, 5, none⟩ = some (.slice sa f.sets.length sc) := hI1.cell 5;have z6 : wr1.cell? ⟨wr.heap.size, 6, none⟩ = some (.int .i64 (f.code : Nat)) := hI1.cell 6;have z7 : wr1.cell? ⟨wr.heap.size, 7, none⟩ = some (.int .i64 (f.last : Nat)) := hI1.cell 7;have z8 : wr1.cell? ⟨wr.heap.size, 8, none⟩ = some (.int .i64 (f.inc : Nat)) := hI1.cell 8;have z9 : wr1.cell? ⟨wr.heap.size, 9, none⟩ = some (.int .i64 (f.dep : Nat)) := hI1.cell 9;have z10 : wr1.cell? ⟨wr.heap.size, 10, none⟩ = some (.int .i64 (f.wt : Nat)) := hI1.cell 10;have z11 : wr1.cell? ⟨wr.heap.size, 11, none⟩ = some (.bool f.sole) := hI1.cell 11;have z12 : wr1.cell? ⟨wr.heap.size, 12, none⟩ = some (.bool x.is) := hI1.cell 12;have z13 : wr1.cell? ⟨wr.heap.size, 13, none⟩ = some (.int .i64 (x.code : Nat)) := hI1.cell 13;have z14 : wr1.cell? ⟨wr.heap.size, 14, none⟩ = some (.int .i64 (x.st : Nat)) := hI1.cell 14;clear hcell hi hqi hrow hsets hvs hits hS hI1 hrw hvw hb1;go_upto_region 7 with fail;rw [← ewr];clear ewr;go_wp2_with (go_at_call 26;go_must ((with_reducible refine hCk.mono ?_);rintro r w2 ⟨rfl, hg2⟩;obtain ⟨F2, hG2⟩ := hG1.step hg2))
   refine ⟨⟨k + 1, by omega, by go_num, F2, hG2⟩, ?_⟩;simp [intOf]
   omega
  ·obtain rfl : k = items.length := by omega
   have hn' : ¬ (items.length < its.length) := (by rw [HN.out];omega)
   obtain ⟨m', hx', eF⟩ := hG.h;have y21 : wr.cell? ⟨n.c, 21, none⟩ = some m'.nv := hx'.blk.cell 21;obtain ⟨j, hj⟩ := hx'.news;go_wp2;go_ret;refine ⟨_, j, rfl, hj, Fk, hG.h, gB1.trans2 hG.b gF1, fun g hg => ?_⟩
   rcases hG.s g hg with h | h
   ·exact gF1 g h
   ·exact .inr (Nat.le_trans gB1.size h)
open Go Go.RowKit Go.Dr
variable {w w' : World} {n : Nm} {m : Mm} {q q' : Cq}
theorem Cx.goesY (hx : Cx w n m q) : Cx (w.setCell ⟨n.c, 20, none⟩ (.slice none 0 0)) n { m with bv := .slice none 0 0 } { q with bytes := [] } ∧ GoesF w n (Foot n m q) (w.setCell ⟨n.c, 20, none⟩ (.slice none 0 0)) { q with bytes := [] } (Foot n { m with bv := .slice none 0 0 } { q with bytes := [] }) := by
 have hbt : But (fun g => g = n.c) w (w.setCell ⟨n.c, 20, none⟩ (.slice none 0 0)) := (But.refl (fun g => g = n.c) w).setCell (p := ⟨n.c, 20, none⟩) (.inl rfl) _;obtain ⟨kc, -, -, -, -, -, -, -, -, -, -, -, -, -, kbv, knv, kcv, ksd⟩ := hx.kinds
 have hX := hx.upC hbt (fun g hg => .inl (by rw [hg];exact kc)) { m with bv := .slice none 0 0 } { q with bytes := [] } (hx.blk.set 20 _)
  (World.ownsRow_nil _ _ _ _)
  (by
   obtain ⟨k, hn⟩ := hx.news
   exact ⟨k, own_same hn fun g hg => hbt.block g (own_lt hn hg).2 (by
    have := knv g hg
    intro e;rw [e] at this
    omega)⟩)
  (own_same hx.closed fun g hg => hbt.block g (own_lt hx.closed hg).2 (by
   have := kcv g hg
   intro e;rw [e] at this
   omega))
  (fun p hp g hg => ⟨by
   have := (ksd p hp).2 g hg
   intro e;rw [e] at this
   omega, fun e => by cases e⟩) rfl rfl rfl
 refine ⟨hX, hX.goesF (hbt.more fun g hg => by rw [hg];exact Foot.c _ _ _) fun g hg => ?_⟩
 rcases foot_rows (m := m) (q := q) hg rfl rfl rfl with hg | hg | hg | hg
 ·exact .inl hg
 ·cases hg
 ·exact .inl (Foot.nv hg)
 ·exact .inl (Foot.cv hg)
theorem Out_any {F : Nat → Prop} (w : World) (h : Cw w n q F) : Calls Tryz.prog 14 #[Ptr n.c] w fun e w' => ∃ v, e = .returned v ∧ w'.ownsRow n.B 5 1 v q.bytes.length (q.bytes.map B8) ∧ (∀ g, some g = v.ownBlock → F g) ∧ Goes w n F w' { q with bytes := [] } := by
 obtain ⟨m, hx, rfl⟩ := h;have y20 : w.cell? ⟨n.c, 20, none⟩ = some m.bv := hx.blk.cell 20;have v20 := hx.blk.free 20;obtain ⟨hxW, gW⟩ := hx.goesY;go_enter Tryz.func14, Tryz.ntmps14
 go_wp2;go_ret;refine ⟨m.bv, rfl, own_same hx.bytes fun g hg => ?_, fun g hg => Foot.bv hg, gW.goes⟩;obtain ⟨kc, -, -, -, -, -, -, -, -, -, -, -, -, -, kbv, knv, kcv, ksd⟩ := hx.kinds;have := kbv g hg
 exact Below.heap_setCell _ _ _ _ (fun e => by rw [e] at this;have e2 : kd w n.c = _ := this;omega)
open Go Go.RowKit Go.Dr
theorem Find_stat {t : Nat} (w : World) : Calls Tryz.prog 102 #[Ptr t, .agg #[S [58, 115, 116, 97, 116, 117, 115], S [50, 48, 48], .bool false]] w fun e w' => e = .returned (.tuple #[.int .i64 8, .bool true]) ∧ Below w.heap.size w w' := by
 have hi0 : ∀ w : World, (Instr.index 212 (.agg statC) (.int .i64 0)).run Tryz.prog w = .ok (.agg #[S [58, 97, 117, 116, 104, 111, 114, 105, 116, 121], S []]) w := fun w => by kernel_rfl
 have hi1 : ∀ w : World, (Instr.index 212 (.agg statC) (.int .i64 1)).run Tryz.prog w = .ok (.agg #[S [58, 109, 101, 116, 104, 111, 100], S [71, 69, 84]]) w := fun w => by kernel_rfl
 have hi2 : ∀ w : World, (Instr.index 212 (.agg statC) (.int .i64 2)).run Tryz.prog w = .ok (.agg #[S [58, 109, 101, 116, 104, 111, 100], S [80, 79, 83, 84]]) w := fun w => by kernel_rfl
 have hi3 : ∀ w : World, (Instr.index 212 (.agg statC) (.int .i64 3)).run Tryz.prog w = .ok (.agg #[S [58, 112, 97, 116, 104], S [47]]) w := fun w => by kernel_rfl
 have hi4 : ∀ w : World, (Instr.index 212 (.agg statC) (.int .i64 4)).run Tryz.prog w = .ok (.agg #[S [58, 112, 97, 116, 104], S [47, 105, 110, 100, 101, 120, 46, 104, 116, 109, 108]]) w := fun w => by kernel_rfl
 have hi5 : ∀ w : World, (Instr.index 212 (.agg statC) (.int .i64 5)).run Tryz.prog w = .ok (.agg #[S [58, 115, 99, 104, 101, 109, 101], S [104, 116, 116, 112]]) w := fun w => by kernel_rfl
 have hi6 : ∀ w : World, (Instr.index 212 (.agg statC) (.int .i64 6)).run Tryz.prog w = .ok (.agg #[S [58, 115, 99, 104, 101, 109, 101], S [104, 116, 116, 112, 115]]) w := fun w => by kernel_rfl
 have hi7 : ∀ w : World, (Instr.index 212 (.agg statC) (.int .i64 7)).run Tryz.prog w = .ok (.agg #[S [58, 115, 116, 97, 116, 117, 115], S [50, 48, 48]]) w := fun w => by kernel_rfl
 obtain ⟨W, eW⟩ : ∃ W, W = (w.alloc (.cells #[Ptr t] 123)).alloc (.cells #[S [58, 115, 116, 97, 116, 117, 115], S [50, 48, 48], .bool false] 45) := ⟨_, rfl⟩;have hF : Blk W (w.heap.size + 1) 45 #[S [58, 115, 116, 97, 116, 117, 115], S [50, 48, 48], .bool false] := (by rw [eW];exact bnew_at _ _ _ _ (by simp));have hb : Below w.heap.size w W := (by rw [eW];exact ((Below.refl _ _).alloc (Nat.le_refl _) _).alloc (by simp) _);go_enter Tryz.func102, Tryz.ntmps102
 go_wp2_with (go_at_call 133;go_must (rw [← eW];clear eW;(with_reducible refine (Fixed_any _).mono ?_);rintro e w2 ⟨rfl, hb2⟩;have hF2 := hF.on hb2;have hz2 := hF2.lt;have hb02 := hb.trans (hb2.mono hb.size);have z0 : w2.cell? ⟨w.heap.size + 1, 0, none⟩ = some (S [58, 115, 116, 97, 116, 117, 115]) := hF2.cell 0;have z1 : w2.cell? ⟨w.heap.size + 1, 1, none⟩ = some (S [50, 48, 48]) := hF2.cell 1))
 refine wp_loop_rounds 8 ?_;rw [rounds_succ];refine wp_cut (R := fun W => Blk W (w.heap.size + 1) 45 #[S [58, 115, 116, 97, 116, 117, 115], S [50, 48, 48], .bool false] ∧ Below w.heap.size w W) ⟨hF2, hb02⟩ ?_;clear hb2 z0 z1 hz2 hF2 hb02;rintro w2 ⟨hF2, hb02⟩;have hz2 := hF2.lt;have z0 : w2.cell? ⟨w.heap.size + 1, 0, none⟩ = some (S [58, 115, 116, 97, 116, 117, 115]) := hF2.cell 0;have z1 : w2.cell? ⟨w.heap.size + 1, 1, none⟩ = some (S [50, 48, 48]) := hF2.cell 1;go_wp2;rw [rounds_succ];refine wp_cut (R := fun W => Blk W (w.heap.size + 1) 45 #[S [58, 115, 116, 97, 116, 117, 115], S [50, 48, 48], .bool false] ∧ Below w.heap.size w W) ⟨hF2.alloc _, hb02.alloc hb02.size _⟩ ?_;clear z0 z1 hz2 hF2 hb02;rintro w2 ⟨hF2, hb02⟩;have hz2 := hF2.lt;have z0 : w2.cell? ⟨w.heap.size + 1, 0, none⟩ = some (S [58, 115, 116, 97, 116, 117, 115]) := hF2.cell 0;have z1 : w2.cell? ⟨w.heap.size + 1, 1, none⟩ = some (S [50, 48, 48]) := hF2.cell 1;go_wp2;rw [rounds_succ];refine wp_cut (R := fun W => Blk W (w.heap.size + 1) 45 #[S [58, 115, 116, 97, 116, 117, 115], S [50, 48, 48], .bool false] ∧ Below w.heap.size w W) ⟨hF2.alloc _, hb02.alloc hb02.size _⟩ ?_;clear z0 z1 hz2 hF2 hb02;rintro w2 ⟨hF2, hb02⟩;have hz2 := hF2.lt;have z0 : w2.cell? ⟨w.heap.size + 1, 0, none⟩ = some (S [58, 115, 116, 97, 116, 117, 115]) := hF2.cell 0;have z1 : w2.cell? ⟨w.heap.size + 1, 1, none⟩ = some (S [50, 48, 48]) := hF2.cell 1;go_wp2;rw [rounds_succ];refine wp_cut (R := fun W => Blk W (w.heap.size + 1) 45 #[S [58, 115, 116, 97, 116, 117, 115], S [50, 48, 48], .bool false] ∧ Below w.heap.size w W) ⟨hF2.alloc _, hb02.alloc hb02.size _⟩ ?_;clear z0 z1 hz2 hF2 hb02;rintro w2 ⟨hF2, hb02⟩;have hz2 := hF2.lt;have z0 : w2.cell? ⟨w.heap.size + 1, 0, none⟩ = some (S [58, 115, 116, 97, 116, 117, 115]) := hF2.cell 0;have z1 : w2.cell? ⟨w.heap.size + 1, 1, none⟩ = some (S [50, 48, 48]) := hF2.cell 1;go_wp2;rw [rounds_succ];refine wp_cut (R := fun W => Blk W (w.heap.size + 1) 45 #[S [58, 115, 116, 97, 116, 117, 115], S [50, 48, 48], .bool false] ∧ Below w.heap.size w W) ⟨hF2.alloc _, hb02.alloc hb02.size _⟩ ?_;clear z0 z1 hz2 hF2 hb02;rintro w2 ⟨hF2, hb02⟩;have hz2 := hF2.lt;have z0 : w2.cell? ⟨w.heap.size + 1, 0, none⟩ = some (S [58, 115, 116, 97, 116, 117, 115]) := hF2.cell 0;have z1 : w2.cell? ⟨w.heap.size + 1, 1, none⟩ = some (S [50, 48, 48]) := hF2.cell 1;go_wp2;rw [rounds_succ];refine wp_cut (R := fun W => Blk W (w.heap.size + 1) 45 #[S [58, 115, 116, 97, 116, 117, 115], S [50, 48, 48], .bool false] ∧ Below w.heap.size w W) ⟨hF2.alloc _, hb02.alloc hb02.size _⟩ ?_;clear z0 z1 hz2 hF2 hb02;rintro w2 ⟨hF2, hb02⟩;have hz2 := hF2.lt;have z0 : w2.cell? ⟨w.heap.size + 1, 0, none⟩ = some (S [58, 115, 116, 97, 116, 117, 115]) := hF2.cell 0;have z1 : w2.cell? ⟨w.heap.size + 1, 1, none⟩ = some (S [50, 48, 48]) := hF2.cell 1;go_wp2;rw [rounds_succ];refine wp_cut (R := fun W => Blk W (w.heap.size + 1) 45 #[S [58, 115, 116, 97, 116, 117, 115], S [50, 48, 48], .bool false] ∧ Below w.heap.size w W) ⟨hF2.alloc _, hb02.alloc hb02.size _⟩ ?_
 clear z0 z1 hz2 hF2 hb02;rintro w2 ⟨hF2, hb02⟩;have hz2 := hF2.lt;have z0 : w2.cell? ⟨w.heap.size + 1, 0, none⟩ = some (S [58, 115, 116, 97, 116, 117, 115]) := hF2.cell 0;have z1 : w2.cell? ⟨w.heap.size + 1, 1, none⟩ = some (S [50, 48, 48]) := hF2.cell 1;go_wp2;rw [rounds_succ];refine wp_cut (R := fun W => Blk W (w.heap.size + 1) 45 #[S [58, 115, 116, 97, 116, 117, 115], S [50, 48, 48], .bool false] ∧ Below w.heap.size w W) ⟨hF2.alloc _, hb02.alloc hb02.size _⟩ ?_;clear z0 z1 hz2 hF2 hb02;rintro w2 ⟨hF2, hb02⟩;have hz2 := hF2.lt;have z0 : w2.cell? ⟨w.heap.size + 1, 0, none⟩ = some (S [58, 115, 116, 97, 116, 117, 115]) := hF2.cell 0;have z1 : w2.cell? ⟨w.heap.size + 1, 1, none⟩ = some (S [50, 48, 48]) := hF2.cell 1;go_wp2;go_ret2;exact ⟨rfl, hb02.alloc hb02.size _⟩
end Go.Proofs.YtcodgfmombehoaaGreatDoor
