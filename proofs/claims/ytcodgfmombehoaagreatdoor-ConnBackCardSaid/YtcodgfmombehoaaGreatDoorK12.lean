/- Parts of the proof of bk_root: the texts Cnw2 Cnw3 Tab1 Stm. -/
import Derived.Laws.Tables
import Derived.Test.YtcodgfmombehoaaGreatDoorK11
set_option linter.unusedSimpArgs false
set_option linter.unusedVariables false
set_option linter.unnecessarySimpa false
set_option maxRecDepth 100000
set_option maxHeartbeats 64000000
namespace Go.Proofs.YtcodgfmombehoaaGreatDoor
open Go Go.RowKit Go.Dr
theorem but_grow {w w' : World} {row : Option Nat} (hg : w.grownBy w' row) : But (fun g => some g = row) w w' :=
 ⟨hg.os, hg.tape, hg.output, hg.size, fun i hi hS => hg.block i hi hS⟩
theorem wp_cut {P : Program} {c : Code} {Q : Exit → Act → World → Prop} {a : Act} {W : World} (R : World → Prop) (hR : R W) (h : ∀ W', R W' → Code.wp P c Q a W') : Code.wp P c Q a W := h W hR
variable {w w' : World} {n : Nm} {m m' : Mm} {q q' : Cq}
theorem Cx.goes (h' : Cx w' n m' q') (hb : But (Foot n m q) w w') (hF : ∀ g, Foot n m' q' g → Foot n m q g ∨ w.heap.size ≤ g) : Goes w n (Foot n m q) w' q' := ⟨_, ⟨m', h', rfl⟩, hb, hF⟩
theorem Cx.goesF (h' : Cx w' n m' q') (hb : But (Foot n m q) w w') (hF : ∀ g, Foot n m' q' g → Foot n m q g ∨ w.heap.size ≤ g) : GoesF w n (Foot n m q) w' q' (Foot n m' q') := ⟨⟨m', h', rfl⟩, hb, hF⟩
theorem foot_rows {g : Nat} (h : Foot n m' q' g) (hl : q'.live = q.live) (hsb : m'.sb = m.sb) (hsv : m'.sv = m.sv) : Foot n m q g ∨ some g = m'.bv.ownBlock ∨ some g = m'.nv.ownBlock ∨ some g = m'.cv.ownBlock := by
 rcases h with h | h | h | h
 ·exact .inl (.inl h)
 ·exact .inl (.inr (.inl h))
 ·exact .inr h
 ·rw [hl, hsb, hsv] at h
  exact .inl (.inr (.inr (.inr h)))
theorem Foot.bv {g : Nat} (h : some g = m.bv.ownBlock) : Foot n m q g := .inr (.inr (.inl (.inl h)))
theorem Foot.nv {g : Nat} (h : some g = m.nv.ownBlock) : Foot n m q g := .inr (.inr (.inl (.inr (.inl h))))
theorem Foot.cv {g : Nat} (h : some g = m.cv.ownBlock) : Foot n m q g := .inr (.inr (.inl (.inr (.inr h))))
theorem Foot.lm : Foot n m q n.lm := .inl (by simp)
theorem Foot.hm : Foot n m q n.hm := .inl (by simp)
theorem Foot.om : Foot n m q n.om := .inl (by simp)
theorem Foot.bk : Foot n m q n.bk := .inl (by simp)
theorem Foot.e : Foot n m q n.e := .inl (by simp)
theorem Foot.d : Foot n m q n.d := .inl (by simp)
theorem Foot.t1 : Foot n m q n.t1 := .inl (by simp)
theorem Foot.fb : Foot n m q n.fb := .inl (by simp)
theorem Foot.side {p : Int × Sp} (hp : p ∈ q.live) : Foot n m q (m.sb p.1) := .inr (.inr (.inr ⟨p, hp, .inl rfl⟩))
theorem Cx.row_ne (h : Cx w n m q) {v : Value} {e : TypeId} {k size : Nat} {xs : List Value} (ho : w.ownsRow n.B e size v k xs) (he : e + 1 ≠ 78 + 1) : some n.c ≠ v.ownBlock := fun e1 => by
 exact he ((kd_own ho e1).symm.trans (kd_blk h.blk))
theorem Write_any {F : Nat → Prop} {c0 c1 c2 c3 c4 c5 c6 c7 c8 c9 c10 c11 : Value} (w : World) (h : Cw w n q F) (l : Bytes)
  (hPut : ∀ w1, Below w.heap.size w w1 → Calls Tryz.prog 45 #[.agg #[c0, c1, c2, c3, c4, c5, c6, c7, c8, c9, c10, c11]] w1 fun e w' => ∃ v, e = .returned (.tuple #[v, .int .i64 0]) ∧ w'.ownsRow w1.heap.size 5 1 v l.length (l.map B8) ∧ Below w1.heap.size w1 w')
  (hl : q.bytes.length + l.length ≤ 140737488355328) :
  Calls Tryz.prog 24 #[Ptr n.c, .agg #[c0, c1, c2, c3, c4, c5, c6, c7, c8, c9, c10, c11]] w fun e w' => e = .returned (.tuple #[]) ∧ Goes w n F w' { q with bytes := q.bytes ++ l } := by
 obtain ⟨m, hx, rfl⟩ := h;have hB : n.B ≤ w.heap.size := Nat.le_trans (hx.lo _ (Foot.c _ _ _)) (Nat.le_of_lt hx.blk.lt);obtain ⟨W, eW⟩ : ∃ W, W = w.alloc (.cells #[c0, c1, c2, c3, c4, c5, c6, c7, c8, c9, c10, c11] 36) := ⟨_, rfl⟩;have hbW : Below w.heap.size w W := (by rw [eW];exact (Below.refl _ _).alloc (Nat.le_refl _) _);have hF : Blk W w.heap.size 36 #[c0, c1, c2, c3, c4, c5, c6, c7, c8, c9, c10, c11] := (by rw [eW];exact Blk.new _ _ _);obtain ⟨g0, g1, g2, g3, g4, g5, g6, g7, g8, g9, g10, g11⟩ := hF.c12;have hP := hPut W hbW;go_enter Tryz.func24, Tryz.ntmps24
 go_upto_region 1 with fail;rw [← eW];clear eW
 go_wp2_with first
  | (go_at_call 45;(with_reducible refine hP.mono ?_);rintro e w2 ⟨v, rfl, hv, hb2⟩;obtain ⟨av, cv, rfl⟩ := own_form hv;have hbw2 := hbW.trans (hb2.mono hbW.size);have hx2 := hx.on hbw2;have y20 : w2.cell? ⟨n.c, 20, none⟩ = some m.bv := hx2.blk.cell 20;have hz2 := hbw2.size)
  | (at_builtin;refine wpList_appAt rfl _ _ 39 rfl n.B 5 (.int .u8 0) 1 1 Tryz.underlying39 (by kernel_rfl) rfl (by decide) _ _ _ rfl hx2.bytes _ _ _ _ rfl (Rd.own hv) (b8_one2 _) (by unfold maxLen;omega) (by omega) (by omega) ?_;intro a3 c3' w3 hown3 hg3 hat3;have hne := hx2.row_ne hx2.bytes (by decide);have hc3 := hx2.blk.grow hg3 hne;have y3 : w3.cell? ⟨n.c, 20, none⟩ = some m.bv := hc3.cell 20;have f3 := hc3.free 20)
 obtain ⟨bv, ebv⟩ : ∃ bv : Value, bv = .slice a3 (q.bytes.length + l.length) c3' := ⟨_, rfl⟩;rw [← ebv] at hown3 hat3 ⊢;have hbt : But (fun g => g = n.c ∨ some g = m.bv.ownBlock) w2 (w3.setCell ⟨n.c, 20, none⟩ bv) := ((but_grow hg3).more (fun i hi => .inr hi)).setCell (p := ⟨n.c, 20, none⟩) (.inl (.inl rfl)) _;obtain ⟨k, hnw⟩ := hx2.news
 have hnew : ∀ g, some g = bv.ownBlock → some g = m.bv.ownBlock ∨ g = w2.heap.size := fun g hg => by
  rcases hat3 with e | e
  ·exact .inl (hg.trans e)
  ·exact .inr (Option.some.inj (hg.trans e))
 obtain ⟨kc, -, -, -, -, -, -, -, -, -, -, -, -, -, kbv, knv, kcv, ksd⟩ := hx2.kinds
 have hX := hx2.upC hbt (by
   intro g hg
   rcases hg with rfl | hg
   ·exact .inl kc
   ·exact .inr (.inl (kbv g hg))) { m with bv := bv } { q with bytes := q.bytes ++ l }
  (hc3.set 20 bv) (by
   have := ownsRow_setCell_other hown3 (a := ⟨n.c, 20, none⟩) (fun e => by
    rcases hnew _ e.symm with e | e
    ·exact hne e
    ·have e1 : n.c = w2.heap.size := e
     have := hx2.blk.lt
     omega) bv
   simpa [List.length_append, List.map_append] using this)
  ⟨k, own_same hnw fun g hg => hbt.block g (own_lt hnw hg).2 (by
   have := knv g hg
   rintro (rfl | e)
   ·omega
   ·have := kbv g e;omega)⟩
  (own_same hx2.closed fun g hg => hbt.block g (own_lt hx2.closed hg).2 (by
   have := kcv g hg
   rintro (rfl | e)
   ·omega
   ·have := kbv g e;omega))
  (fun p hp g hg => ⟨by
   have := (ksd p hp).2 g hg
   rintro (rfl | e)
   ·omega
   ·exact hx2.bp p hp g hg e, fun e => by
    rcases hnew g e with e | e
    ·exact hx2.bp p hp g hg e
    ·have := (own_lt (hx2.pend p hp) hg).2
     omega⟩)
  rfl rfl rfl
 go_end0
 refine ⟨rfl, hX.goes ?_ ?_⟩
 ·refine (But.of_below hbw2).trans (hbt.more fun i hi => ?_)
  rcases hi with rfl | hi
  ·exact Foot.c _ _ _
  ·exact Foot.bv hi
 ·intro g hg
  rcases foot_rows (m := m) (q := q) hg rfl rfl rfl with hg | hg | hg | hg
  ·exact .inl hg
  ·rcases hnew g hg with e | e
   ·exact .inl (Foot.bv e)
   ·exact .inr (by omega)
  ·exact .inl (Foot.nv hg)
  ·exact .inl (Foot.cv hg)
open Go Go.RowKit Go.Dr
variable {w w' : World} {n : Nm} {m m' : Mm} {q q' : Cq}
theorem Tell_any {F : Nat → Prop} {h0 h1 h2 h3 h4 h5 h6 h7 h8 h9 : Value} (w : World) (h : Cw w n q F) (h1c : ∀ u ∈ [h0, h1, h2, h3, h4, h5, h6, h7, h8, h9], u.oneCell' = true) (hk0 : q.news.length ≤ 10000000) :
  Calls Tryz.prog 84 #[Ptr n.c, .agg #[h0, h1, h2, h3, h4, h5, h6, h7, h8, h9]] w fun e w' => e = .returned (.tuple #[]) ∧ Goes w n F w' { q with news := q.news ++ [h0, h1, h2, h3, h4, h5, h6, h7, h8, h9] } := by
 obtain ⟨m, hx, rfl⟩ := h;obtain ⟨k, hnv⟩ := hx.news;have hk : k ≤ 1000000 := (by have := hnv.1;omega);have hB : n.B ≤ w.heap.size := Nat.le_trans (hx.lo _ (Foot.c _ _ _)) (Nat.le_of_lt hx.blk.lt);obtain ⟨W, eW⟩ : ∃ W, W = w.alloc (.cells #[h0, h1, h2, h3, h4, h5, h6, h7, h8, h9] 68) := ⟨_, rfl⟩;have hbW : Below w.heap.size w W := (by rw [eW];exact (Below.refl _ _).alloc (Nat.le_refl _) _);have hF : Blk W w.heap.size 68 #[h0, h1, h2, h3, h4, h5, h6, h7, h8, h9] := (by rw [eW];exact Blk.new _ _ _);obtain ⟨g0, g1, g2, g3, g4, g5, g6, g7, g8, g9⟩ := hF.c10;have hx2 := hx.on hbW;have hnv2 := own_below hnv hbW;have hz2 := hbW.size;have y21 : W.cell? ⟨n.c, 21, none⟩ = some m.nv := hx2.blk.cell 21;have y21a : ∀ ob, (W.alloc ob).cell? ⟨n.c, 21, none⟩ = some m.nv := fun ob => (hx2.blk.alloc ob).cell 21
 have hne := hx2.row_ne hnv2 (by decide);go_enter Tryz.func84, Tryz.ntmps84
 go_upto_region 1 with fail;rw [← eW];clear eW
 go_region_law (refine step_of ?_ (by rfl);refine wp_appAt _ _ 37 rfl n.B 68 (.agg #[.int .i64 0, .int .i64 0, .string ByteArray.empty, .string ByteArray.empty, .string ByteArray.empty, .string ByteArray.empty, .slice none 0 0, .string ByteArray.empty, .bool false, .int .i64 0]) 10 136 Tryz.underlying37 (by kernel_rfl) rfl (by decide) m.nv _ _ rfl (own_dr (hnv2.alloc _)) _ _ _ [h0, h1, h2, h3, h4, h5, h6, h7, h8, h9] rfl (Rd.drew (Rd.lit W 68 #[h0, h1, h2, h3, h4, h5, h6, h7, h8, h9] 10 1 rfl (by decide))) h1c (by unfold maxLen;omega) (by omega) (by simp;omega) ?_;intro a3 c3 w3 hown3 hg3 hat3;have hR3 := Blk.grow ((hx2.blk.alloc (.cells #[h0, h1, h2, h3, h4, h5, h6, h7, h8, h9] 68)).drew) hg3 hne;have z2 : w3.cell? ⟨n.c, 21, none⟩ = some m.nv := hR3.cell 21;have zf := hR3.free 21)
 all_goals (
  go_end0
  refine ⟨rfl, ?_⟩;obtain ⟨bv, ebv⟩ : ∃ bv : Value, bv = .slice a3 (k + 1) c3 := ⟨_, rfl⟩;rw [← ebv] at hown3 hat3 ⊢;have hbw2 := ((hbW.alloc hz2 (.cells #[h0, h1, h2, h3, h4, h5, h6, h7, h8, h9] 68)).drew);obtain ⟨W2, eW2⟩ : ∃ W2, W2 = (W.alloc (.cells #[h0, h1, h2, h3, h4, h5, h6, h7, h8, h9] 68)).drew := ⟨_, rfl⟩;rw [← eW2] at hbw2 hg3 hat3;have hx3 := hx.on hbw2;have hz3 := hbw2.size;clear eW2;have hbt : But (fun g => g = n.c ∨ some g = m.nv.ownBlock) W2 (w3.setCell ⟨n.c, 21, none⟩ bv) := ((but_grow hg3).more (fun i hi => .inr hi)).setCell (p := ⟨n.c, 21, none⟩) (.inl (.inl rfl)) _;have hnv3 := own_below hnv hbw2
  have hnew : ∀ g, some g = bv.ownBlock → some g = m.nv.ownBlock ∨ g = W2.heap.size := fun g hg => by
   rcases hat3 with e | e
   ·exact .inl (hg.trans e)
   ·exact .inr (Option.some.inj (hg.trans e))
  obtain ⟨kc, -, -, -, -, -, -, -, -, -, -, -, -, -, kbv, knv, kcv, ksd⟩ := hx3.kinds
  have hX := hx3.upC hbt (by
    intro g hg
    rcases hg with rfl | hg
    ·exact .inl kc
    ·exact .inr (.inr (.inl (knv g hg)))) { m with nv := bv } { q with news := q.news ++ [h0, h1, h2, h3, h4, h5, h6, h7, h8, h9] }
   (hR3.set 21 bv) (own_same hx3.bytes fun g hg => hbt.block g (own_lt hx3.bytes hg).2 (by
    have := kbv g hg
    rintro (rfl | e)
    ·omega
    ·have := knv g e;omega))
   ⟨k + 1, by
    have := ownsRow_setCell_other hown3 (a := ⟨n.c, 21, none⟩) (fun e => by
     rcases hnew _ e.symm with e | e
     ·exact hne e
     ·have e1 : n.c = W2.heap.size := e
      have := hx3.blk.lt
      omega) bv
    exact this⟩
   (own_same hx3.closed fun g hg => hbt.block g (own_lt hx3.closed hg).2 (by
    have := kcv g hg
    rintro (rfl | e)
    ·omega
    ·have := knv g e;omega))
   (fun p hp g hg => ⟨by
    have := (ksd p hp).2 g hg
    rintro (rfl | e)
    ·omega
    ·have := knv g e;omega, hx3.bp p hp g hg⟩)
   rfl rfl rfl
  refine hX.goes ?_ ?_
  ·refine (But.of_below hbw2).trans (hbt.more fun i hi => ?_)
   rcases hi with rfl | hi
   ·exact Foot.c _ _ _
   ·exact Foot.nv hi
  ·intro g hg
   rcases foot_rows (m := m) (q := q) hg rfl rfl rfl with hg | hg | hg | hg
   ·exact .inl hg
   ·exact .inl (Foot.bv hg)
   ·rcases hnew g hg with e | e
    ·exact .inl (Foot.nv e)
    ·exact .inr (by omega)
   ·exact .inl (Foot.cv hg))
open Go.RowKit Go.Dr
def statL : List (Bytes × Bytes) := [
 ([58, 97, 117, 116, 104, 111, 114, 105, 116, 121], []),
 ([58, 109, 101, 116, 104, 111, 100], [71, 69, 84]),
 ([58, 109, 101, 116, 104, 111, 100], [80, 79, 83, 84]),
 ([58, 112, 97, 116, 104], [47]),
 ([58, 112, 97, 116, 104], [47, 105, 110, 100, 101, 120, 46, 104, 116, 109, 108]),
 ([58, 115, 99, 104, 101, 109, 101], [104, 116, 116, 112]),
 ([58, 115, 99, 104, 101, 109, 101], [104, 116, 116, 112, 115]),
 ([58, 115, 116, 97, 116, 117, 115], [50, 48, 48]),
 ([58, 115, 116, 97, 116, 117, 115], [50, 48, 52]),
 ([58, 115, 116, 97, 116, 117, 115], [50, 48, 54]),
 ([58, 115, 116, 97, 116, 117, 115], [51, 48, 52]),
 ([58, 115, 116, 97, 116, 117, 115], [52, 48, 48]),
 ([58, 115, 116, 97, 116, 117, 115], [52, 48, 52]),
 ([58, 115, 116, 97, 116, 117, 115], [53, 48, 48]),
 ([97, 99, 99, 101, 112, 116, 45, 99, 104, 97, 114, 115, 101, 116], []),
 ([97, 99, 99, 101, 112, 116, 45, 101, 110, 99, 111, 100, 105, 110, 103], [103, 122, 105, 112, 44, 32, 100, 101, 102, 108, 97, 116, 101]),
 ([97, 99, 99, 101, 112, 116, 45, 108, 97, 110, 103, 117, 97, 103, 101], []),
 ([97, 99, 99, 101, 112, 116, 45, 114, 97, 110, 103, 101, 115], []),
 ([97, 99, 99, 101, 112, 116], []),
 ([97, 99, 99, 101, 115, 115, 45, 99, 111, 110, 116, 114, 111, 108, 45, 97, 108, 108, 111, 119, 45, 111, 114, 105, 103, 105, 110], []),
 ([97, 103, 101], []),
 ([97, 108, 108, 111, 119], []),
 ([97, 117, 116, 104, 111, 114, 105, 122, 97, 116, 105, 111, 110], []),
 ([99, 97, 99, 104, 101, 45, 99, 111, 110, 116, 114, 111, 108], []),
 ([99, 111, 110, 116, 101, 110, 116, 45, 100, 105, 115, 112, 111, 115, 105, 116, 105, 111, 110], []),
 ([99, 111, 110, 116, 101, 110, 116, 45, 101, 110, 99, 111, 100, 105, 110, 103], []),
 ([99, 111, 110, 116, 101, 110, 116, 45, 108, 97, 110, 103, 117, 97, 103, 101], []),
 ([99, 111, 110, 116, 101, 110, 116, 45, 108, 101, 110, 103, 116, 104], []),
 ([99, 111, 110, 116, 101, 110, 116, 45, 108, 111, 99, 97, 116, 105, 111, 110], []),
 ([99, 111, 110, 116, 101, 110, 116, 45, 114, 97, 110, 103, 101], []),
 ([99, 111, 110, 116, 101, 110, 116, 45, 116, 121, 112, 101], []),
 ([99, 111, 111, 107, 105, 101], []),
 ([100, 97, 116, 101], []),
 ([101, 116, 97, 103], []),
 ([101, 120, 112, 101, 99, 116], []),
 ([101, 120, 112, 105, 114, 101, 115], []),
 ([102, 114, 111, 109], []),
 ([104, 111, 115, 116], []),
 ([105, 102, 45, 109, 97, 116, 99, 104], []),
 ([105, 102, 45, 109, 111, 100, 105, 102, 105, 101, 100, 45, 115, 105, 110, 99, 101], []),
 ([105, 102, 45, 110, 111, 110, 101, 45, 109, 97, 116, 99, 104], []),
 ([105, 102, 45, 114, 97, 110, 103, 101], []),
 ([105, 102, 45, 117, 110, 109, 111, 100, 105, 102, 105, 101, 100, 45, 115, 105, 110, 99, 101], []),
 ([108, 97, 115, 116, 45, 109, 111, 100, 105, 102, 105, 101, 100], []),
 ([108, 105, 110, 107], []),
 ([108, 111, 99, 97, 116, 105, 111, 110], []),
 ([109, 97, 120, 45, 102, 111, 114, 119, 97, 114, 100, 115], []),
 ([112, 114, 111, 120, 121, 45, 97, 117, 116, 104, 101, 110, 116, 105, 99, 97, 116, 101], []),
 ([112, 114, 111, 120, 121, 45, 97, 117, 116, 104, 111, 114, 105, 122, 97, 116, 105, 111, 110], []),
 ([114, 97, 110, 103, 101], []),
 ([114, 101, 102, 101, 114, 101, 114], []),
 ([114, 101, 102, 114, 101, 115, 104], []),
 ([114, 101, 116, 114, 121, 45, 97, 102, 116, 101, 114], []),
 ([115, 101, 114, 118, 101, 114], []),
 ([115, 101, 116, 45, 99, 111, 111, 107, 105, 101], []),
 ([115, 116, 114, 105, 99, 116, 45, 116, 114, 97, 110, 115, 112, 111, 114, 116, 45, 115, 101, 99, 117, 114, 105, 116, 121], []),
 ([116, 114, 97, 110, 115, 102, 101, 114, 45, 101, 110, 99, 111, 100, 105, 110, 103], []),
 ([117, 115, 101, 114, 45, 97, 103, 101, 110, 116], []),
 ([118, 97, 114, 121], []),
 ([118, 105, 97], []),
 ([119, 119, 119, 45, 97, 117, 116, 104, 101, 110, 116, 105, 99, 97, 116, 101], [])]
def statC : Array Value := (statL.flatMap fun p => [S p.1, S p.2]).toArray
def runBuilds (P : Program) : List Oper → Act → Option Act
 | [], a => some a
 | o :: l, a => match o.guard, o.op with
  | none, .build t parts => match P.built t (parts.map fun (i, x) => (i, a.eval x)).toList with
   | some cells => runBuilds P l (a.put o.dst (.agg cells))
   | none => none
  | _, _ => none
theorem wpList_builds {P : Program} {ops : Array Oper} {Q : Exit → Act → World → Prop} {w : World} {α : Type} (f : Act → α) (v : α) : ∀ (n : Nat) (l : List Oper) (a : Act), (runBuilds P (l.take n) a).map f = some v → (∀ a', f a' = v → wpList P ops Q (l.drop n) a' w) → wpList P ops Q l a w := by
 intro n
 induction n with
 | zero =>
  intro l a h hk;simp only [List.take_zero, runBuilds, Option.map_some, Option.some.injEq] at h;exact hk a h
 | succ n ih =>
  intro l a h hk
  cases l with
  | nil =>
   simp only [List.take_nil, runBuilds, Option.map_some, Option.some.injEq] at h;exact hk a h
  | cons o l =>
   simp only [List.take_succ_cons, runBuilds] at h
   split at h
   ·rename_i t parts hg ho
    split at h
    ·rename_i cells hc
     refine wpList_plain hg fun K hK => ?_
     refine wp_build t parts ho (by rw [hc];rfl) (hK _ _ ?_);rw [hc];exact ih l _ h hk
    ·simp at h
   ·simp at h
theorem results_cell1 {fn : Func} {a : Tmp} {t : TypeId} (h : fn.results = #[.cell a t]) {tmps : Array Value} {P : Program} {w : World} {p : Addr} {v : Value} (hp : tmps.getD a undef = .pointer (some p)) (hl : (loadVar t p).run P w = .ok v w) :
  (results fn tmps).run P w = .ok v w := by
 rw [Array.getD_eq_getD_getElem?] at hp;simp [results, h, hp, asAddr, hl]
theorem results_cell_tmp {fn : Func} {a b : Tmp} {t : TypeId} (h : fn.results = #[.cell a t, .tmp b]) {tmps : Array Value} {P : Program} {w : World} {p : Addr} {v u : Value} (hp : tmps.getD a undef = .pointer (some p)) (hu : tmps.getD b undef = u) (hl : (loadVar t p).run P w = .ok v w) :
  (results fn tmps).run P w = .ok (.tuple #[v, u]) w := by
 rw [Array.getD_eq_getD_getElem?] at hp hu;simp [results, h, hp, hu, asAddr, hl]
theorem row_below (w : World) (cs cs' : Array Value) (t : TypeId) : Below w.heap.size w ((w.alloc (.cells cs t)).setRow w.heap.size cs') := by
 refine ⟨rfl, rfl, rfl, by simp, fun k hk => ?_⟩;rw [setRow_other _ _ _ _ (by omega)];exact Below.heap_alloc w _ k hk
theorem Fixed_any (w : World) :
  Calls Tryz.prog 133 #[] w fun e w' => e = .returned (.agg statC) ∧ Below w.heap.size w w' := by
 have h0 : (w.alloc (.cells Tryz.zeroCells212 212)).heap[w.heap.size]? = some (.cells Tryz.zeroCells212 212 (0, 0)) := heap_alloc_new w _;obtain ⟨W, eW⟩ : ∃ W, W = (w.alloc (.cells Tryz.zeroCells212 212)).setRow w.heap.size statC := ⟨_, rfl⟩;have h1 : W.heap[w.heap.size]? = some (.cells statC 212 (0, 0)) := (by rw [eW];exact setRow_heap _ _ _ _ _ _ h0)
 have hb : Below w.heap.size w W := by
  rw [eW];refine ⟨rfl, rfl, rfl, by simp, fun k hk => ?_⟩;rw [setRow_other _ _ _ _ (by omega)];exact Below.heap_alloc w _ k hk
 have hl := run_loadVar_row (P := Tryz.prog) W w.heap.size 212 212 statC (0, 0) _ h1 Tryz.underlying212 (by rfl) (by kernel_rfl);go_enter Tryz.func133, Tryz.ntmps133
 go_upto_region 1 with fail;refine wp_region_lit ?_;refine wpList_builds (fun a => (a.tmps[0]?, a.eval (.tmp 0), a.eval (.tmp 62), a.defers)) (some (.pointer (some ⟨w.heap.size, 0, none⟩)), .pointer (some ⟨w.heap.size, 0, none⟩), .agg statC, []) 62 _ _ (by kernel_rfl) ?_;intro a' ha;simp only [Prod.mk.injEq] at ha;obtain ⟨k1, k2, k3, k4⟩ := ha;refine wpList_store_row rfl _ _ _ rfl w.heap.size statC k2 k3 212 _ h0 (by kernel_rfl) (by kernel_rfl) (by kernel_rfl) ?_;refine wpList_nil ?_;rw [← eW]
 show Exit.then _ _ Exit.normal a' W
 clear eW h0;go_wp2;refine bodyPost_ret (v := .agg statC) ?_ k4 ⟨rfl, hb⟩;exact results_cell1 Tryz.results133 (by rw [Array.getD_eq_getD_getElem?, k1];rfl) hl
end Go.Proofs.YtcodgfmombehoaaGreatDoor
namespace Go.Dr
def rowsL : List Nat := [6, 2, 6, 6, 0, 2, 3, 4, 1, 1, 5, 5, 4, 1, 1, 2, 3, 4, 1, 1, 6, 6, 0, 0, 0, 0, 0, 0, 0, 0, 5, 5, 0, 5, 0]
structure Mv where
 st : Nat
 skip : Bool := false
 is : Bool := false
 code : Nat := 0
 whole : Bool := false
 deriving DecidableEq
def colF (k : Nat) : Option Nat := if k = 0 then some 0 else if k = 1 then some 1 else if k = 3 then some 2 else if k = 8 then some 3 else if k = 2 then some 4 else none
def onw (s : Nat) (e : Bool) : Nat := if s = 0 ∧ e = false then 1 else if e = true ∧ s ≤ 1 then 2 else if e = true then 4 else s
def codeN (s how : Nat) : Nat := if s = 0 ∨ how = 3 then 1 else 5
def comeH (s how : Nat) (e : Bool) : Mv :=
 if (how = 3 ∧ e = true) ∨ how = 2 then { st := onw s e }
 else if how = 4 then { st := 6 }
 else if how = 1 then { st := s }
 else if how = 6 then { st := s, is := true, code := codeN s how, whole := true }
 else if how = 3 ∨ how = 5 then { st := 5, is := true, code := codeN s how }
 else { st := s, skip := true }
def comeF (s k : Nat) (e : Bool) : Mv := match colF k with
 | none => { st := s, skip := true }
 | some c => comeH s (rowsL.getD (s * 5 + c) 0) e
end Go.Dr
namespace Go.Proofs.YtcodgfmombehoaaGreatDoor
open Go.RowKit Go.Dr
def mvV (m : Mv) : Value := .agg #[.int .i64 (m.st : Nat), .bool m.skip, .bool m.is, .int .i64 (m.code : Nat), .bool m.whole]
theorem Live_any (s : Int) (w : World) : Calls Tryz.prog 51 #[.int .i64 s] w fun e w' => e = .returned (.bool (decide (s = 1) || decide (s = 2) || decide (s = 3))) ∧ w' = w := by
 go_enter Tryz.func51, Tryz.ntmps51
 go_wp2
 all_goals go_ret
 all_goals exact ⟨ret_bool (by by_cases h1 : s = 1 <;> by_cases h2 : s = 2 <;> by_cases h3 : s = 3 <;> simp_all), rfl⟩
theorem Column_any (k : Nat) (hk : k = 0 ∨ k = 1 ∨ k = 2 ∨ k = 3 ∨ k = 8) (w : World) : Calls Tryz.prog 139 #[.int .i64 (k : Int)] w fun e w' => e = .returned (.tuple #[.int .i64 ((colF k).getD 0 : Nat), .bool true]) ∧ w' = w := by
 rcases hk with rfl | rfl | rfl | rfl | rfl <;>
 (go_enter Tryz.func139, Tryz.ntmps139;go_wp2;go_ret2;exact ⟨rfl, rfl⟩)
abbrev zero35 : Array Value := #[.int .i64 0, .int .i64 0, .int .i64 0, .int .i64 0, .int .i64 0, .int .i64 0, .int .i64 0, .int .i64 0, .int .i64 0, .int .i64 0, .int .i64 0, .int .i64 0, .int .i64 0, .int .i64 0, .int .i64 0, .int .i64 0, .int .i64 0, .int .i64 0, .int .i64 0, .int .i64 0, .int .i64 0, .int .i64 0, .int .i64 0, .int .i64 0, .int .i64 0, .int .i64 0, .int .i64 0, .int .i64 0, .int .i64 0, .int .i64 0, .int .i64 0, .int .i64 0, .int .i64 0, .int .i64 0, .int .i64 0]
def rowsC : Array Value := (rowsL.map fun n : Nat => .int .i64 (n : Int)).toArray
theorem Rows_any (w : World) : Calls Tryz.prog 140 #[] w fun e w' => e = .returned (.agg rowsC) ∧ Below w.heap.size w w' := by
 have h0 : (w.alloc (.cells zero35 226)).heap[w.heap.size]? = some (.cells zero35 226 (0, 0)) := heap_alloc_new w _;obtain ⟨W, eW⟩ : ∃ W, W = (w.alloc (.cells zero35 226)).setRow w.heap.size rowsC := ⟨_, rfl⟩;have h1 : W.heap[w.heap.size]? = some (.cells rowsC 226 (0, 0)) := (by rw [eW];exact setRow_heap _ _ _ _ _ _ h0);have hb : Below w.heap.size w W := (by rw [eW];exact row_below _ _ _ _);have hl := run_loadVar_row (P := Tryz.prog) W w.heap.size 226 226 rowsC (0, 0) _ h1 Tryz.underlying226 (by rfl) (by kernel_rfl);go_enter Tryz.func140, Tryz.ntmps140
 go_upto_region 1 with fail;refine wp_region_lit ?_;refine wpList_builds (fun a => (a.tmps[0]?, a.eval (.tmp 0), a.eval (.tmp 8), a.defers)) (some (.pointer (some ⟨w.heap.size, 0, none⟩)), .pointer (some ⟨w.heap.size, 0, none⟩), .agg rowsC, []) 8 _ _ (by kernel_rfl) ?_;intro a' ha;simp only [Prod.mk.injEq] at ha;obtain ⟨k1, k2, k3, k4⟩ := ha;refine wpList_store_row rfl _ _ _ rfl w.heap.size rowsC k2 k3 226 _ h0 (by kernel_rfl) (by kernel_rfl) (by kernel_rfl) ?_;refine wpList_nil ?_;rw [← eW]
 show Exit.then _ _ Exit.normal a' W
 clear eW h0;go_wp2;refine bodyPost_ret (v := .agg rowsC) ?_ k4 ⟨rfl, hb⟩;exact results_cell1 Tryz.results140 (by rw [Array.getD_eq_getD_getElem?, k1];rfl) hl
theorem Code_any (s how : Nat) (w : World) : Calls Tryz.prog 142 #[.int .i64 (s : Int), .int .i64 (how : Int)] w fun e w' => e = .returned (.int .i64 (codeN s how : Nat)) ∧ w' = w := by
 by_cases hs : s = 0
 ·subst hs
  go_enter Tryz.func142, Tryz.ntmps142
  go_wp2;go_ret;exact ⟨by simp [codeN], rfl⟩
 ·have t1 : ((s : Int) == 0) = false := i_ne (by omega)
  by_cases hh : how = 3
  ·subst hh
   go_enter Tryz.func142, Tryz.ntmps142
   go_wp2;go_ret;exact ⟨by simp [codeN], rfl⟩
  ·have t2 : ((how : Int) == 3) = false := i_ne (by omega)
   go_enter Tryz.func142, Tryz.ntmps142
   go_wp2;go_ret;exact ⟨by simp [codeN, hs, hh], rfl⟩
theorem Onward_any (s : Nat) (hs : s < 7) (e : Bool) (w : World) : Calls Tryz.prog 141 #[.int .i64 (s : Int), .bool e] w fun r w' => r = .returned (.int .i64 (onw s e : Nat)) ∧ w' = w := by
 have hs' : s = 0 ∨ s = 1 ∨ s = 2 ∨ s = 3 ∨ s = 4 ∨ s = 5 ∨ s = 6 := (by omega)
 rcases hs' with rfl | rfl | rfl | rfl | rfl | rfl | rfl <;> cases e <;>
 (go_enter Tryz.func141, Tryz.ntmps141;go_wp2;go_ret;exact ⟨rfl, rfl⟩)
end Go.Proofs.YtcodgfmombehoaaGreatDoor
