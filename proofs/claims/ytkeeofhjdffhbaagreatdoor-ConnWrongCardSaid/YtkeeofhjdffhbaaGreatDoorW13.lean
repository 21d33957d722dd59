/- Parts of the proof of wr_root: the texts Cnw3 Stm Cnw4 Cnw5 Cnw6. -/
import Derived.Test.YtkeeofhjdffhbaaGreatDoorW10
set_option linter.unusedSimpArgs false
set_option linter.unusedVariables false
set_option linter.unnecessarySimpa false
namespace Go.Proofs.YtkeeofhjdffhbaaGreatDoor
open Go Go.RowKit Go.Dr
variable {w w' : World} {n : Nm} {m m' : Mm} {q q' : Cq}
set_option maxRecDepth 100000 in
set_option maxHeartbeats 4000000 in
/-- something is told -/
theorem Tell_any {F : Nat → Prop} {h0 h1 h2 h3 h4 h5 h6 h7 h8 h9 : Value} (w : World) (h : Cw w n q F) (h1c : ∀ u ∈ [h0, h1, h2, h3, h4, h5, h6, h7, h8, h9], u.oneCell' = true) (hk0 : q.news.length ≤ 10000000) :
  Calls Tryz.prog 128 #[Ptr n.c, .agg #[h0, h1, h2, h3, h4, h5, h6, h7, h8, h9]] w fun e w' => e = .returned (.tuple #[]) ∧ Goes w n F w' { q with news := q.news ++ [h0, h1, h2, h3, h4, h5, h6, h7, h8, h9] } := by
 obtain ⟨m, hx, rfl⟩ := h
 obtain ⟨k, hnv⟩ := hx.news
 have hk : k ≤ 1000000 := by have := hnv.1;omega
 have hB : n.B ≤ w.heap.size := Nat.le_trans (hx.lo _ (Foot.c _ _ _)) (Nat.le_of_lt hx.blk.lt)
 obtain ⟨W, eW⟩ : ∃ W, W = w.alloc (.cells #[h0, h1, h2, h3, h4, h5, h6, h7, h8, h9] 84) := ⟨_, rfl⟩
 have hbW : Below w.heap.size w W := by rw [eW];exact (Below.refl _ _).alloc (Nat.le_refl _) _
 have hF : Blk W w.heap.size 84 #[h0, h1, h2, h3, h4, h5, h6, h7, h8, h9] := by rw [eW];exact Blk.new _ _ _
 (have g0 : W.cell? ⟨w.heap.size, 0, none⟩ = some (h0) := hF.cell 0;have g1 : W.cell? ⟨w.heap.size, 1, none⟩ = some (h1) := hF.cell 1;have g2 : W.cell? ⟨w.heap.size, 2, none⟩ = some (h2) := hF.cell 2;have g3 : W.cell? ⟨w.heap.size, 3, none⟩ = some (h3) := hF.cell 3;have g4 : W.cell? ⟨w.heap.size, 4, none⟩ = some (h4) := hF.cell 4;have g5 : W.cell? ⟨w.heap.size, 5, none⟩ = some (h5) := hF.cell 5;have g6 : W.cell? ⟨w.heap.size, 6, none⟩ = some (h6) := hF.cell 6;have g7 : W.cell? ⟨w.heap.size, 7, none⟩ = some (h7) := hF.cell 7;have g8 : W.cell? ⟨w.heap.size, 8, none⟩ = some (h8) := hF.cell 8;have g9 : W.cell? ⟨w.heap.size, 9, none⟩ = some (h9) := hF.cell 9)
 have hx2 := hx.on hbW
 have hnv2 := own_below hnv hbW
 have hz2 := hbW.size
 have y21 : W.cell? ⟨n.c, 21, none⟩ = some m.nv := hx2.blk.cell 21
 have y21a : ∀ ob, (W.alloc ob).cell? ⟨n.c, 21, none⟩ = some m.nv := fun ob => (hx2.blk.alloc ob).cell 21
 have hne := hx2.row_ne hnv2 (by decide)
 go_enter Tryz.func128, Tryz.ntmps128
 go_upto_region 1 with fail
 rw [← eW]
 clear eW
 go_region_law (refine step_of ?_ (by rfl);refine wp_appAt _ _ 56 rfl n.B 84 (.agg #[.int .i64 0, .int .i64 0, .string ByteArray.empty, .string ByteArray.empty, .string ByteArray.empty, .string ByteArray.empty, .slice none 0 0, .string ByteArray.empty, .bool false, .int .i64 0]) 10 136 Tryz.underlying56 (by kernel_rfl) rfl (by decide) m.nv _ _ rfl (own_dr (hnv2.alloc _)) _ _ _ [h0, h1, h2, h3, h4, h5, h6, h7, h8, h9] rfl (Rd.drew (Rd.lit W 84 #[h0, h1, h2, h3, h4, h5, h6, h7, h8, h9] 10 1 rfl (by decide))) h1c (by unfold maxLen;omega) (by omega) (by simp;omega) ?_;intro a3 c3 w3 hown3 hg3 hat3;have hR3 := Blk.grow ((hx2.blk.alloc (.cells #[h0, h1, h2, h3, h4, h5, h6, h7, h8, h9] 84)).drew) hg3 hne;have z2 : w3.cell? ⟨n.c, 21, none⟩ = some m.nv := hR3.cell 21;have zf := hR3.free 21)
 all_goals (
  go_end0
  refine ⟨rfl, ?_⟩
  obtain ⟨bv, ebv⟩ : ∃ bv : Value, bv = .slice a3 (k + 1) c3 := ⟨_, rfl⟩
  rw [← ebv] at hown3 hat3 ⊢
  have hbw2 := ((hbW.alloc hz2 (.cells #[h0, h1, h2, h3, h4, h5, h6, h7, h8, h9] 84)).drew)
  obtain ⟨W2, eW2⟩ : ∃ W2, W2 = (W.alloc (.cells #[h0, h1, h2, h3, h4, h5, h6, h7, h8, h9] 84)).drew := ⟨_, rfl⟩
  rw [← eW2] at hbw2 hg3 hat3
  have hx3 := hx.on hbw2
  have hz3 := hbw2.size
  clear eW2
  have hbt : But (fun g => g = n.c ∨ some g = m.nv.ownBlock) W2 (w3.setCell ⟨n.c, 21, none⟩ bv) := ((but_grow hg3).more (fun i hi => .inr hi)).setCell (p := ⟨n.c, 21, none⟩) (.inl (.inl rfl)) _
  have hnv3 := own_below hnv hbw2
  have hnew : ∀ g, some g = bv.ownBlock → some g = m.nv.ownBlock ∨ g = W2.heap.size := fun g hg => by
   rcases hat3 with e | e
   ·exact .inl (hg.trans e)
   ·exact .inr (Option.some.inj (hg.trans e))
  obtain ⟨kc, -, -, -, -, -, -, -, -, -, -, -, -, -, kbv, knv, kcv, ksd⟩ := hx3.kinds
  have hX := hx3.upC hbt (by
    intro g hg
    rcases hg with rfl | hg
    ·exact .inl kc
    ·exact .inr (.inr (.inl (knv g hg)))) { m with nv := bv } { q with news := q.news ++ [h0, h1, h2, h3, h4, h5, h6, h7, h8, h9] }
   (hR3.set 21 bv) (own_same hx3.bytes fun g hg => hbt.block g (own_lt hx3.bytes hg).2 (by
    have := kbv g hg
    rintro (rfl | e)
    ·omega
    ·have := knv g e;omega))
   ⟨k + 1, by
    have := ownsRow_setCell_other hown3 (a := ⟨n.c, 21, none⟩) (fun e => by
     rcases hnew _ e.symm with e | e
     ·exact hne e
     ·have e1 : n.c = W2.heap.size := e
      have := hx3.blk.lt
      omega) bv
    exact this⟩
   (own_same hx3.closed fun g hg => hbt.block g (own_lt hx3.closed hg).2 (by
    have := kcv g hg
    rintro (rfl | e)
    ·omega
    ·have := knv g e;omega))
   (fun p hp g hg => ⟨by
    have := (ksd p hp).2 g hg
    rintro (rfl | e)
    ·omega
    ·have := knv g e;omega, hx3.bp p hp g hg⟩)
   rfl rfl rfl
  refine hX.goes ?_ ?_
  ·refine (But.of_below hbw2).trans (hbt.more fun i hi => ?_)
   rcases hi with rfl | hi
   ·exact Foot.c _ _ _
   ·exact Foot.nv hi
  ·intro g hg
   rcases foot_rows (m := m) (q := q) hg rfl rfl rfl with hg | hg | hg | hg
   ·exact .inl hg
   ·exact .inl (Foot.bv hg)
   ·rcases hnew g hg with e | e
    ·exact .inl (Foot.nv e)
    ·exact .inr (by omega)
   ·exact .inl (Foot.cv hg))
end Go.Proofs.YtkeeofhjdffhbaaGreatDoor
namespace Go.Dr
/-- how Data, Headers, RstStream, WindowUpdate, Priority are met in each state -/
def rowsL : List Nat := [6, 2, 6, 6, 0, 2, 3, 4, 1, 1, 5, 5, 4, 1, 1, 2, 3, 4, 1, 1, 6, 6, 0, 0, 0, 0, 0, 0, 0, 0, 5, 5, 0, 5, 0]
/-- what comes of a frame in a state -/
structure Mv where
 st : Nat
 skip : Bool := false
 is : Bool := false
 code : Nat := 0
 whole : Bool := false
 deriving DecidableEq
def colF (k : Nat) : Option Nat := if k = 0 then some 0 else if k = 1 then some 1 else if k = 3 then some 2 else if k = 8 then some 3 else if k = 2 then some 4 else none
def onw (s : Nat) (e : Bool) : Nat := if s = 0 ∧ e = false then 1 else if e = true ∧ s ≤ 1 then 2 else if e = true then 4 else s
def codeN (s how : Nat) : Nat := if s = 0 ∨ how = 3 then 1 else 5
def comeH (s how : Nat) (e : Bool) : Mv :=
 if (how = 3 ∧ e = true) ∨ how = 2 then { st := onw s e }
 else if how = 4 then { st := 6 }
 else if how = 1 then { st := s }
 else if how = 6 then { st := s, is := true, code := codeN s how, whole := true }
 else if how = 3 ∨ how = 5 then { st := 5, is := true, code := codeN s how }
 else { st := s, skip := true }
def comeF (s k : Nat) (e : Bool) : Mv := match colF k with
 | none => { st := s, skip := true }
 | some c => comeH s (rowsL.getD (s * 5 + c) 0) e
end Go.Dr
namespace Go.Proofs.YtkeeofhjdffhbaaGreatDoor
open Go.RowKit Go.Dr
def mvV (m : Mv) : Value := .agg #[.int .i64 (m.st : Nat), .bool m.skip, .bool m.is, .int .i64 (m.code : Nat), .bool m.whole]
theorem Live_any (s : Int) (w : World) : Calls Tryz.prog 94 #[.int .i64 s] w fun e w' => e = .returned (.bool (decide (s = 1) || decide (s = 2) || decide (s = 3))) ∧ w' = w := by
 go_enter Tryz.func94, Tryz.ntmps94
 go_wp2
 all_goals go_ret
 all_goals exact ⟨ret_bool (by by_cases h1 : s = 1 <;> by_cases h2 : s = 2 <;> by_cases h3 : s = 3 <;> simp_all), rfl⟩
set_option maxRecDepth 100000 in
set_option maxHeartbeats 4000000 in
theorem Column_any (k : Nat) (hk : k = 0 ∨ k = 1 ∨ k = 2 ∨ k = 3 ∨ k = 8) (w : World) : Calls Tryz.prog 212 #[.int .i64 (k : Int)] w fun e w' => e = .returned (.tuple #[.int .i64 ((colF k).getD 0 : Nat), .bool true]) ∧ w' = w := by
 rcases hk with rfl | rfl | rfl | rfl | rfl <;>
 (go_enter Tryz.func212, Tryz.ntmps212;go_wp2;go_ret2;exact ⟨rfl, rfl⟩)
abbrev zero35 : Array Value := #[.int .i64 0, .int .i64 0, .int .i64 0, .int .i64 0, .int .i64 0, .int .i64 0, .int .i64 0, .int .i64 0, .int .i64 0, .int .i64 0, .int .i64 0, .int .i64 0, .int .i64 0, .int .i64 0, .int .i64 0, .int .i64 0, .int .i64 0, .int .i64 0, .int .i64 0, .int .i64 0, .int .i64 0, .int .i64 0, .int .i64 0, .int .i64 0, .int .i64 0, .int .i64 0, .int .i64 0, .int .i64 0, .int .i64 0, .int .i64 0, .int .i64 0, .int .i64 0, .int .i64 0, .int .i64 0, .int .i64 0]
def rowsC : Array Value := (rowsL.map fun n : Nat => .int .i64 (n : Int)).toArray
set_option maxRecDepth 100000 in
set_option maxHeartbeats 4000000 in
theorem Rows_any (w : World) : Calls Tryz.prog 213 #[] w fun e w' => e = .returned (.agg rowsC) ∧ Below w.heap.size w w' := by
 have h0 : (w.alloc (.cells zero35 299)).heap[w.heap.size]? = some (.cells zero35 299 (0, 0)) := heap_alloc_new w _
 obtain ⟨W, eW⟩ : ∃ W, W = (w.alloc (.cells zero35 299)).setRow w.heap.size rowsC := ⟨_, rfl⟩
 have h1 : W.heap[w.heap.size]? = some (.cells rowsC 299 (0, 0)) := by rw [eW];exact setRow_heap _ _ _ _ _ _ h0
 have hb : Below w.heap.size w W := by rw [eW];exact row_below _ _ _ _
 have hl := run_loadVar_row (P := Tryz.prog) W w.heap.size 299 299 rowsC (0, 0) _ h1 Tryz.underlying299 (by rfl) (by kernel_rfl)
 go_enter Tryz.func213, Tryz.ntmps213
 go_upto_region 1 with fail
 refine wp_region_lit ?_
 refine wpList_builds (fun a => (a.tmps[0]?, a.eval (.tmp 0), a.eval (.tmp 8), a.defers)) (some (.pointer (some ⟨w.heap.size, 0, none⟩)), .pointer (some ⟨w.heap.size, 0, none⟩), .agg rowsC, []) 8 _ _ (by kernel_rfl) ?_
 intro a' ha
 simp only [Prod.mk.injEq] at ha
 obtain ⟨k1, k2, k3, k4⟩ := ha
 refine wpList_store_row rfl _ _ _ rfl w.heap.size rowsC k2 k3 299 _ h0 (by kernel_rfl) (by kernel_rfl) (by kernel_rfl) ?_
 refine wpList_nil ?_
 rw [← eW]
 show Exit.then _ _ Exit.normal a' W
 clear eW h0
 go_wp2
 refine bodyPost_ret (v := .agg rowsC) ?_ k4 ⟨rfl, hb⟩
 exact results_cell1 Tryz.results213 (by rw [Array.getD_eq_getD_getElem?, k1];rfl) hl
theorem Code_any (s how : Nat) (w : World) : Calls Tryz.prog 215 #[.int .i64 (s : Int), .int .i64 (how : Int)] w fun e w' => e = .returned (.int .i64 (codeN s how : Nat)) ∧ w' = w := by
 by_cases hs : s = 0
 ·subst hs
  go_enter Tryz.func215, Tryz.ntmps215
  go_wp2
  go_ret
  exact ⟨by simp [codeN], rfl⟩
 ·have t1 : ((s : Int) == 0) = false := i_ne (by omega)
  by_cases hh : how = 3
  ·subst hh
   go_enter Tryz.func215, Tryz.ntmps215
   go_wp2
   go_ret
   exact ⟨by simp [codeN], rfl⟩
  ·have t2 : ((how : Int) == 3) = false := i_ne (by omega)
   go_enter Tryz.func215, Tryz.ntmps215
   go_wp2
   go_ret
   exact ⟨by simp [codeN, hs, hh], rfl⟩
set_option maxRecDepth 100000 in
set_option maxHeartbeats 4000000 in
theorem Onward_any (s : Nat) (hs : s < 7) (e : Bool) (w : World) : Calls Tryz.prog 214 #[.int .i64 (s : Int), .bool e] w fun r w' => r = .returned (.int .i64 (onw s e : Nat)) ∧ w' = w := by
 have hs' : s = 0 ∨ s = 1 ∨ s = 2 ∨ s = 3 ∨ s = 4 ∨ s = 5 ∨ s = 6 := by omega
 rcases hs' with rfl | rfl | rfl | rfl | rfl | rfl | rfl <;> cases e <;>
 (go_enter Tryz.func214, Tryz.ntmps214;go_wp2;go_ret;exact ⟨rfl, rfl⟩)
end Go.Proofs.YtkeeofhjdffhbaaGreatDoor
namespace Go.Proofs.YtkeeofhjdffhbaaGreatDoor
open Go Go.RowKit Go.Dr
variable {w w' : World} {n : Nm} {m m' : Mm} {q q' : Cq}
abbrev I64 (i : Int) : Prop := -9223372036854775808 ≤ i ∧ i < 9223372036854775808
theorem keyI {i : Int} (h : I64 i) : keyOf Tryz.prog 3 (.int .i64 i) = some (Li i) := Maps.keyOf_int_mk Tryz.underlying3 (wf_small h.1 h.2)
abbrev keyedI : Maps.Keyed Tryz.prog 3 := Maps.int_keyed Tryz.underlying3
theorem zeroCSide (w : World) : (zeroValue 132).run Tryz.prog w = .ok (.pointer none) w := by kernel_rfl
theorem zeroHow (w : World) : (zeroValue 3).run Tryz.prog w = .ok (.int .i64 0) w := by kernel_rfl
theorem zeroOff (w : World) : (zeroValue 2).run Tryz.prog w = .ok (.int .i64 0) w := by kernel_rfl
section
variable {lm b : Nat} {l : List (Int × Nat)} {i : Int}
theorem LMp.inn (h : LMp w lm l) (hi : I64 i) (hm : (i, b) ∈ l) : (Instr.lookup 121 (.map (some lm)) (.int .i64 i) true).run Tryz.prog w = .ok (.tuple #[Ptr b, .bool true]) w ∧ (Instr.lookup 121 (.map (some lm)) (.int .i64 i) false).run Tryz.prog w = .ok (Ptr b) w :=
 GMap.inn h keyedI Tryz.underlying121 (zeroCSide w) (zd := .nil) (zp := []) rfl (keyI hi) hm (fun _ _ e => Rp_inv e)
theorem LMp.out (h : LMp w lm l) (hi : I64 i) (hm : ∀ p ∈ l, p.1 ≠ i) : (Instr.lookup 121 (.map (some lm)) (.int .i64 i) true).run Tryz.prog w = .ok (.tuple #[.pointer none, .bool false]) w ∧ (Instr.lookup 121 (.map (some lm)) (.int .i64 i) false).run Tryz.prog w = .ok (.pointer none) w :=
 GMap.out h keyedI Tryz.underlying121 (zeroCSide w) (zd := .nil) (zp := []) rfl (keyI hi) hm (fun _ _ e => Rp_nil e)
theorem LMp.put (h : LMp w lm l) (hi : I64 i) (hm : ∀ p ∈ l, p.1 ≠ i) (hn : l.length < maxLen) (b : Nat) : ∃ w', (Instr.mapUpdate 121 (.map (some lm)) (.int .i64 i) (Ptr b)).run Tryz.prog w = .ok () w' ∧ LMp w' lm (l ++ [(i, b)]) ∧ w.mapTurned w' lm :=
 GMap.put Li_ne h keyedI Tryz.underlying121 (keyI hi) (Li_key i) hm hn (Rp_ptr b)
theorem LMp.drop {a c : List (Int × Nat)} (h : LMp w lm (a ++ (i, b) :: c)) (hi : I64 i) (ty : TypeId) : ∃ w', (Builtin.delete_ #[121, 3] ty #[.map (some lm), .int .i64 i]).run Tryz.prog w = .ok (.tuple #[]) w' ∧ LMp w' lm (a ++ c) ∧ w.mapTurned w' lm :=
 GMap.drop Li_ne h keyedI Tryz.underlying121 (keyI hi) ty
theorem LMp.dropNone (h : LMp w lm l) (hi : I64 i) (hm : ∀ p ∈ l, p.1 ≠ i) (ty : TypeId) : ∃ w', (Builtin.delete_ #[121, 3] ty #[.map (some lm), .int .i64 i]).run Tryz.prog w = .ok (.tuple #[]) w' ∧ LMp w' lm l ∧ w.mapTurned w' lm :=
 GMap.dropNone Li_ne h hm keyedI Tryz.underlying121 (keyI hi) ty
end
section
variable {hm : Nat} {l : List (Int × Int)} {i x : Int}
theorem IMp.innH (h : IMp w hm l) (hi : I64 i) (hx : (i, x) ∈ l) : (Instr.lookup 122 (.map (some hm)) (.int .i64 i) true).run Tryz.prog w = .ok (.tuple #[.int .i64 x, .bool true]) w ∧ (Instr.lookup 122 (.map (some hm)) (.int .i64 i) false).run Tryz.prog w = .ok (.int .i64 x) w :=
 GMap.inn h keyedI Tryz.underlying122 (zeroHow w) (zd := .lit (.int .i64 0)) (zp := []) rfl (keyI hi) hx (fun _ _ e => Ri_inv e)
theorem IMp.outH (h : IMp w hm l) (hi : I64 i) (hx : ∀ p ∈ l, p.1 ≠ i) : (Instr.lookup 122 (.map (some hm)) (.int .i64 i) true).run Tryz.prog w = .ok (.tuple #[.int .i64 0, .bool false]) w ∧ (Instr.lookup 122 (.map (some hm)) (.int .i64 i) false).run Tryz.prog w = .ok (.int .i64 0) w :=
 GMap.out h keyedI Tryz.underlying122 (zeroHow w) (zd := .lit (.int .i64 0)) (zp := []) rfl (keyI hi) hx (fun _ _ e => Ri_inv e)
theorem IMp.putH (h : IMp w hm l) (hi : I64 i) (hx : ∀ p ∈ l, p.1 ≠ i) (hn : l.length < maxLen) (x : Int) : ∃ w', (Instr.mapUpdate 122 (.map (some hm)) (.int .i64 i) (.int .i64 x)).run Tryz.prog w = .ok () w' ∧ IMp w' hm (l ++ [(i, x)]) ∧ w.mapTurned w' hm :=
 GMap.put Li_ne h keyedI Tryz.underlying122 (keyI hi) (Li_key i) hx hn (show Ri (.int .i64 x) = some (Ei x, []) from rfl)
theorem IMp.outO (h : IMp w hm l) (hi : I64 i) (hx : ∀ p ∈ l, p.1 ≠ i) : (Instr.lookup 91 (.map (some hm)) (.int .i64 i) true).run Tryz.prog w = .ok (.tuple #[.int .i64 0, .bool false]) w ∧ (Instr.lookup 91 (.map (some hm)) (.int .i64 i) false).run Tryz.prog w = .ok (.int .i64 0) w :=
 GMap.out h keyedI Tryz.underlying91 (zeroOff w) (zd := .lit (.int .i64 0)) (zp := []) rfl (keyI hi) hx (fun _ _ e => Ri_inv e)
theorem IMp.putO (h : IMp w hm l) (hi : I64 i) (hx : ∀ p ∈ l, p.1 ≠ i) (hn : l.length < maxLen) (x : Int) : ∃ w', (Instr.mapUpdate 91 (.map (some hm)) (.int .i64 i) (.int .i64 x)).run Tryz.prog w = .ok () w' ∧ IMp w' hm (l ++ [(i, x)]) ∧ w.mapTurned w' hm :=
 GMap.put Li_ne h keyedI Tryz.underlying91 (keyI hi) (Li_key i) hx hn (show Ri (.int .i64 x) = some (Ei x, []) from rfl)
theorem IMp.dropO {a c : List (Int × Int)} (h : IMp w hm (a ++ (i, x) :: c)) (hi : I64 i) (ty : TypeId) : ∃ w', (Builtin.delete_ #[91, 3] ty #[.map (some hm), .int .i64 i]).run Tryz.prog w = .ok (.tuple #[]) w' ∧ IMp w' hm (a ++ c) ∧ w.mapTurned w' hm :=
 GMap.drop Li_ne h keyedI Tryz.underlying91 (keyI hi) ty
theorem IMp.dropNoneO (h : IMp w hm l) (hi : I64 i) (hx : ∀ p ∈ l, p.1 ≠ i) (ty : TypeId) : ∃ w', (Builtin.delete_ #[91, 3] ty #[.map (some hm), .int .i64 i]).run Tryz.prog w = .ok (.tuple #[]) w' ∧ IMp w' hm l ∧ w.mapTurned w' hm :=
 GMap.dropNone Li_ne h hx keyedI Tryz.underlying91 (keyI hi) ty
end
/-- a list without a key -/
def sans {α : Type} (l : List (Int × α)) (i : Int) : List (Int × α) := l.filter fun p => p.1 != i
theorem sans_none {α : Type} {l : List (Int × α)} {i : Int} (h : ∀ p ∈ l, p.1 ≠ i) : sans l i = l := by
 unfold sans
 rw [List.filter_eq_self]
 intro p hp
 simpa using h p hp
theorem sans_mid {α : Type} {a c : List (Int × α)} {i : Int} {x : α} (h : ((a ++ (i, x) :: c).map (·.1)).Nodup) : sans (a ++ (i, x) :: c) i = a ++ c := by
 have hn := nodup_mid h
 have ha : ∀ p ∈ a, p.1 ≠ i := fun p hp => hn p (List.mem_append.2 (.inl hp))
 have hc : ∀ p ∈ c, p.1 ≠ i := fun p hp => hn p (List.mem_append.2 (.inr hp))
 unfold sans
 rw [List.filter_append, List.filter_cons]
 have e1 := sans_none ha
 have e2 := sans_none hc
 unfold sans at e1 e2
 rw [e1, e2]
 simp
/-- a key is there, or not -/
theorem key_cases {α : Type} (l : List (Int × α)) (i : Int) : (∃ a x c, l = a ++ (i, x) :: c) ∨ ∀ p ∈ l, p.1 ≠ i := by
 by_cases h : ∃ p ∈ l, p.1 = i
 ·obtain ⟨⟨j, x⟩, hp, rfl⟩ := h
  obtain ⟨a, c, e⟩ := List.append_of_mem hp
  exact .inl ⟨a, x, c, e⟩
 ·exact .inr fun p hp e => h ⟨p, hp, e⟩
set_option maxRecDepth 100000 in
set_option maxHeartbeats 4000000 in
/-- a stream that didn't begin -/
theorem State_idle {F : Nat → Prop} (w : World) (h : Cw w n q F) (i : Int) (hi : i < 1 ∨ q.last < i ∨ i % 2 = 0) : Calls Tryz.prog 29 #[Ptr n.c, .int .i64 i] w fun e w' => e = .returned (.int .i64 0) ∧ w' = w := by
 obtain ⟨m, hx, rfl⟩ := h
 have y : w.cell? ⟨n.c, 12, none⟩ = some (.int .i64 q.last) := hx.blk.cell 12
 by_cases h1 : i < 1
 ·go_enter Tryz.func29, Tryz.ntmps29
  go_wp2
  go_ret
  exact ⟨rfl, rfl⟩
 ·by_cases h2 : q.last < i
  ·go_enter Tryz.func29, Tryz.ntmps29
   go_wp2
   go_ret
   exact ⟨rfl, rfl⟩
  ·have h3 : i % 2 = 0 := by omega
   have h4 : Int.tmod i 2 = 0 := by rw [Int.tmod_eq_emod_of_nonneg (by omega)];exact h3
   go_enter Tryz.func29, Tryz.ntmps29
   go_wp2
   go_ret
   exact ⟨rfl, rfl⟩
set_option maxRecDepth 100000 in
set_option maxHeartbeats 4000000 in
/-- a live stream -/
theorem State_live {F : Nat → Prop} (w : World) (h : Cw w n q F) (i : Int) (s : Sp) (hs : (i, s) ∈ q.live) (h1 : ¬ i < 1) (h2 : ¬ q.last < i) (h3 : i % 2 = 1) (hl : q.last < 4294967296) : Calls Tryz.prog 29 #[Ptr n.c, .int .i64 i] w fun e w' => e = .returned (.int .i64 s.st) ∧ w' = w := by
 obtain ⟨m, hx, rfl⟩ := h
 have y : w.cell? ⟨n.c, 12, none⟩ = some (.int .i64 q.last) := hx.blk.cell 12
 have y9 : w.cell? ⟨n.c, 9, none⟩ = some (.map (some n.lm)) := hx.blk.cell 9
 have h4 : (Int.tmod i 2 == 0) = false := by rw [Int.tmod_eq_emod_of_nonneg (by omega), h3];rfl
 have hk := (hx.live.inn (i := i) (b := m.sb i) (by constructor <;> omega) (List.mem_map.2 ⟨_, hs, rfl⟩)).1
 have hs6 : w.cell? ⟨m.sb i, 6, none⟩ = some (.int .i64 s.st) := (hx.side _ hs).cell 6
 go_enter Tryz.func29, Tryz.ntmps29
 go_wp2
 go_ret
 exact ⟨rfl, rfl⟩
set_option maxRecDepth 100000 in
set_option maxHeartbeats 4000000 in
/-- a stream whose end is remembered -/
theorem State_how {F : Nat → Prop} (w : World) (h : Cw w n q F) (i s : Int) (hs : (i, s) ∈ q.how) (ho : ∀ p ∈ q.live, p.1 ≠ i) (h1 : ¬ i < 1) (h2 : ¬ q.last < i) (h3 : i % 2 = 1) (hl : q.last < 4294967296) : Calls Tryz.prog 29 #[Ptr n.c, .int .i64 i] w fun e w' => e = .returned (.int .i64 s) ∧ w' = w := by
 obtain ⟨m, hx, rfl⟩ := h
 have y : w.cell? ⟨n.c, 12, none⟩ = some (.int .i64 q.last) := hx.blk.cell 12
 have y9 : w.cell? ⟨n.c, 9, none⟩ = some (.map (some n.lm)) := hx.blk.cell 9
 have y11 : w.cell? ⟨n.c, 11, none⟩ = some (.map (some n.hm)) := hx.blk.cell 11
 have h4 : (Int.tmod i 2 == 0) = false := by rw [Int.tmod_eq_emod_of_nonneg (by omega), h3];rfl
 have hI : I64 i := by constructor <;> omega
 have hk := (hx.live.out hI (by intro p hp;obtain ⟨p', hp', rfl⟩ := List.mem_map.1 hp;exact ho p' hp')).1
 have hk2 := (hx.how.innH hI hs).1
 go_enter Tryz.func29, Tryz.ntmps29
 go_wp2
 go_ret
 exact ⟨rfl, rfl⟩
set_option maxRecDepth 100000 in
set_option maxHeartbeats 4000000 in
/-- a stream that ended -/
theorem State_done {F : Nat → Prop} (w : World) (h : Cw w n q F) (i : Int) (hs : ∀ p ∈ q.how, p.1 ≠ i) (ho : ∀ p ∈ q.live, p.1 ≠ i) (h1 : ¬ i < 1) (h2 : ¬ q.last < i) (h3 : i % 2 = 1) (hl : q.last < 4294967296) : Calls Tryz.prog 29 #[Ptr n.c, .int .i64 i] w fun e w' => e = .returned (.int .i64 4) ∧ w' = w := by
 obtain ⟨m, hx, rfl⟩ := h
 have y : w.cell? ⟨n.c, 12, none⟩ = some (.int .i64 q.last) := hx.blk.cell 12
 have y9 : w.cell? ⟨n.c, 9, none⟩ = some (.map (some n.lm)) := hx.blk.cell 9
 have y11 : w.cell? ⟨n.c, 11, none⟩ = some (.map (some n.hm)) := hx.blk.cell 11
 have h4 : (Int.tmod i 2 == 0) = false := by rw [Int.tmod_eq_emod_of_nonneg (by omega), h3];rfl
 have hI : I64 i := by constructor <;> omega
 have hk := (hx.live.out hI (by intro p hp;obtain ⟨p', hp', rfl⟩ := List.mem_map.1 hp;exact ho p' hp')).1
 have hk2 := (hx.how.outH hI hs).1
 go_enter Tryz.func29, Tryz.ntmps29
 go_wp2
 go_ret
 exact ⟨rfl, rfl⟩
end Go.Proofs.YtkeeofhjdffhbaaGreatDoor
namespace Go.Proofs.YtkeeofhjdffhbaaGreatDoor
open Go Go.RowKit Go.Dr
variable {w w' : World} {n : Nm} {m m' : Mm} {q q' : Cq}
theorem but_turn2 {w w' : World} {o : Nat} (h : w.mapTurned w' o) : But (fun k => k = o) w w' := But.grown h.grown rfl
theorem LMp.del {lm : Nat} {l : List (Int × Nat)} {i : Int} (h : LMp w lm l) (hi : I64 i) (ty : TypeId) : ∃ w', (Builtin.delete_ #[121, 3] ty #[.map (some lm), .int .i64 i]).run Tryz.prog w = .ok (.tuple #[]) w' ∧ LMp w' lm (sans l i) ∧ w.mapTurned w' lm := by
 rcases key_cases l i with ⟨a, b, c, rfl⟩ | hn
 ·rw [sans_mid h.nodup]
  exact h.drop hi ty
 ·rw [sans_none hn]
  exact h.dropNone hi hn ty
theorem IMp.delO {hm : Nat} {l : List (Int × Int)} {i : Int} (h : IMp w hm l) (hi : I64 i) (ty : TypeId) : ∃ w', (Builtin.delete_ #[91, 3] ty #[.map (some hm), .int .i64 i]).run Tryz.prog w = .ok (.tuple #[]) w' ∧ IMp w' hm (sans l i) ∧ w.mapTurned w' hm := by
 rcases key_cases l i with ⟨a, b, c, rfl⟩ | hn
 ·rw [sans_mid h.nodup]
  exact h.dropO hi ty
 ·rw [sans_none hn]
  exact h.dropNoneO hi hn ty
theorem sans_map (l : List (Int × Sp)) (f : Int → Nat) (i : Int) : sans (l.map fun p => (p.1, f p.1)) i = (sans l i).map fun p => (p.1, f p.1) := by
 unfold sans
 rw [List.filter_map]
 rfl
theorem sans_mem {α : Type} {l : List (Int × α)} {i : Int} {p : Int × α} (h : p ∈ sans l i) : p ∈ l := (List.mem_filter.1 h).1
/-- the windows turn alone -/
theorem Cx.goesO (hx : Cx w n m q) {S : Nat → Prop} (hb : But S w w') (hS : ∀ g, S g → g = n.om ∨ g = n.bk) {all first : Int} {off : List (Int × Int)} (hbk : Blk w' n.bk 183 #[.int .i64 all, .int .i64 first, .map (some n.om)]) (ho : IMp w' n.om off) : Cx w' n m { q with all := all, first := first, off := off } ∧ GoesF w n (Foot n m q) w' { q with all := all, first := first, off := off } (Foot n m { q with all := all, first := first, off := off }) := by
 have h := hx.upO hb hS all first off hbk ho
 refine ⟨h, h.goesF (hb.more fun g hg => ?_) fun g hg => .inl hg⟩
 rcases hS g hg with rfl | rfl
 ·exact Foot.om
 ·exact Foot.bk
theorem Cx.om_bk (hx : Cx w n m q) : n.bk ≠ n.om := fun e => by
 obtain ⟨kc, -, -, -, -, -, k1, -, -, k2, -⟩ := hx.kinds
 rw [e] at k1
 omega
set_option maxRecDepth 100000 in
set_option maxHeartbeats 4000000 in
/-- a stream has no window any more -/
theorem Shut_any {F : Nat → Prop} (w : World) (h : Cw w n q F) (i : Int) (hi : I64 i) : Calls Tryz.prog 178 #[Ptr n.bk, .int .i64 i] w fun e w' => e = .returned (.tuple #[]) ∧ Goes w n F w' { q with off := sans q.off i } := by
 obtain ⟨m, hx, rfl⟩ := h
 have y : w.cell? ⟨n.bk, 2, none⟩ = some (.map (some n.om)) := hx.book.cell 2
 obtain ⟨w2, hrun, ho, ht⟩ := hx.off.delO hi 0
 go_enter Tryz.func178, Tryz.ntmps178
 go_wp2
 go_end0
 exact ⟨rfl, (hx.goesO (but_turn2 ht) (fun g hg => .inl hg) (hx.book.but (but_turn2 ht) hx.om_bk) ho).2.goes⟩
set_option maxRecDepth 100000 in
set_option maxHeartbeats 4000000 in
/-- a stream has a window -/
theorem Opened_any {F : Nat → Prop} (w : World) (h : Cw w n q F) (i : Int) (hi : I64 i) (h1 : ¬ i < 1) (hn : ∀ p ∈ q.off, p.1 ≠ i) (hl : q.off.length < 1000000) : Calls Tryz.prog 217 #[Ptr n.bk, .int .i64 i] w fun e w' => e = .returned (.int .i64 0) ∧ Goes w n F w' { q with off := q.off ++ [(i, 0)] } := by
 obtain ⟨m, hx, rfl⟩ := h
 have y : w.cell? ⟨n.bk, 2, none⟩ = some (.map (some n.om)) := hx.book.cell 2
 have hk := (hx.off.outO hi hn).1
 obtain ⟨w2, hrun, ho, ht⟩ := hx.off.putO hi hn (by unfold maxLen;omega) 0
 go_enter Tryz.func217, Tryz.ntmps217
 go_wp2
 go_ret
 exact ⟨rfl, (hx.goesO (but_turn2 ht) (fun g hg => .inl hg) (hx.book.but (but_turn2 ht) hx.om_bk) ho).2.goes⟩
/-- the connection's own block turns alone -/
theorem Cx.goesC (hx : Cx w n m q) (hb : But (fun g => g = n.c) w w') (q' : Cq) (hc : Blk w' n.c 126 (ccells n m q'))
  (hq : (q'.tab, q'.lst, q'.live, q'.how, q'.pre, q'.all, q'.first, q'.off, q'.tm, q'.brk, q'.told, q'.least) = (q.tab, q.lst, q.live, q.how, q.pre, q.all, q.first, q.off, q.tm, q.brk, q.told, q.least)) (hr : (q'.bytes, q'.news, q'.closed) = (q.bytes, q.news, q.closed)) : Cx w' n m q' ∧ GoesF w n (Foot n m q) w' q' (Foot n m q') := by
 obtain ⟨kc, -, -, -, -, -, -, -, -, -, -, -, -, -, kbv, knv, kcv, ksd⟩ := hx.kinds
 simp only [Prod.mk.injEq] at hr
 obtain ⟨r1, r2, r3⟩ := hr
 obtain ⟨k, hn⟩ := hx.news
 have hX := hx.upC hb (by intro g hg;rw [hg];exact .inl kc) m q' hc
  (by rw [r1];exact own_same hx.bytes fun g hg => hb.block g (own_lt hx.bytes hg).2 (by have := kbv g hg;rintro rfl;omega))
  (by rw [r2];exact ⟨k, own_same hn fun g hg => hb.block g (own_lt hn hg).2 (by have := knv g hg;rintro rfl;omega)⟩)
  (by rw [r3];exact own_same hx.closed fun g hg => hb.block g (own_lt hx.closed hg).2 (by have := kcv g hg;rintro rfl;omega))
  (fun p hp g hg => ⟨by have := (ksd p hp).2 g hg;rintro rfl;omega, hx.bp p hp g hg⟩) rfl rfl hq
 refine ⟨hX, hX.goesF (hb.more fun g hg => by rw [hg];exact Foot.c _ _ _) fun g hg => ?_⟩
 simp only [Prod.mk.injEq] at hq
 rcases foot_rows (m := m) (q := q) hg hq.2.2.1 rfl rfl with h | h | h | h
 ·exact .inl h
 ·exact .inl (Foot.bv h)
 ·exact .inl (Foot.nv h)
 ·exact .inl (Foot.cv h)
theorem Cx.goesC1 (hx : Cx w n m q) (k : Nat) (u : Value) (q' : Cq) (hc : (ccells n m q).setIfInBounds k u = ccells n m q')
  (hq : (q'.tab, q'.lst, q'.live, q'.how, q'.pre, q'.all, q'.first, q'.off, q'.tm, q'.brk, q'.told, q'.least) = (q.tab, q.lst, q.live, q.how, q.pre, q.all, q.first, q.off, q.tm, q.brk, q.told, q.least)) (hr : (q'.bytes, q'.news, q'.closed) = (q.bytes, q.news, q.closed)) : Cx (w.setCell ⟨n.c, k, none⟩ u) n m q' ∧ GoesF w n (Foot n m q) (w.setCell ⟨n.c, k, none⟩ u) q' (Foot n m q') :=
 hx.goesC ((But.refl (fun g => g = n.c) w).setCell (p := ⟨n.c, k, none⟩) (.inl rfl) _) q' (hc ▸ hx.blk.set k u) hq hr
set_option maxRecDepth 100000 in
set_option maxHeartbeats 4000000 in
/-- with nothing live left a drained connection is over -/
theorem Rest_any {F : Nat → Prop} (w : World) (h : Cw w n q F) : Calls Tryz.prog 97 #[Ptr n.c] w fun e w' => e = .returned (.tuple #[]) ∧ Goes w n F w' { q with over := q.over || (q.drained && q.live.isEmpty) } := by
 have h0 := h
 obtain ⟨m, hx, rfl⟩ := h
 have y9 : w.cell? ⟨n.c, 9, none⟩ = some (.map (some n.lm)) := hx.blk.cell 9
 have y17 : w.cell? ⟨n.c, 17, none⟩ = some (.bool q.drained) := hx.blk.cell 17
 have y19 : w.cell? ⟨n.c, 19, none⟩ = some (.bool q.over) := hx.blk.cell 19
 have f19 := hx.blk.free 19
 have hlen := hx.live.len Tryz.underlying121 3
 rw [List.length_map] at hlen
 by_cases hd : q.drained = true
 ·rw [hd] at y17
  by_cases hl : q.live.length = 0
  ·have hl0 : ((q.live.length : Int) == 0) = true := by rw [hl];rfl
   have e : (q.over || (q.drained && q.live.isEmpty)) = true := by rw [hd, List.isEmpty_iff.2 (List.eq_nil_of_length_eq_zero hl)];simp
   rw [e]
   clear hl e
   go_enter Tryz.func97, Tryz.ntmps97
   go_wp2
   go_end0
   exact ⟨rfl, (hx.goesC1 19 _ { q with over := true } rfl rfl rfl).2.goes⟩
  ·have hl0 : ((q.live.length : Int) == 0) = false := by simpa using hl
   have e : (q.over || (q.drained && q.live.isEmpty)) = q.over := by
    rw [show q.live.isEmpty = false by rw [List.isEmpty_eq_false_iff];intro e;rw [e] at hl;exact hl rfl]
    simp
   rw [e]
   clear hl e
   go_enter Tryz.func97, Tryz.ntmps97
   go_wp2
   go_end0
   exact ⟨rfl, Goes.refl h0⟩
 ·have hd : q.drained = false := by simpa using hd
  rw [hd] at y17
  have e : (q.over || (q.drained && q.live.isEmpty)) = q.over := by rw [hd];simp
  rw [e]
  clear hd e
  go_enter Tryz.func97, Tryz.ntmps97
  go_wp2
  go_end0
  exact ⟨rfl, Goes.refl h0⟩
/-- live streams go -/
theorem Cx.goesL (hx : Cx w n m q) (hb : But (fun g => g = n.lm) w w') (i : Int) (hl : LMp w' n.lm (sans (q.live.map fun p => (p.1, m.sb p.1)) i)) : Cx w' n m { q with live := sans q.live i } ∧ GoesF w n (Foot n m q) w' { q with live := sans q.live i } (Foot n m { q with live := sans q.live i }) := by
 obtain ⟨-, -, -, -, -, -, -, k1, -, -, -, -, -, -, kbv, knv, kcv, ksd⟩ := hx.kinds
 have hX := hx.upL hb (fun g hg => .inl hg) m (sans q.live i) rfl (by rw [← sans_map];exact hl)
  (fun p hp => (hx.side p (sans_mem hp)).but hb (by have := (ksd p (sans_mem hp)).1;intro e;rw [e] at this;omega))
  (fun p hp => own_same (hx.pend p (sans_mem hp)) fun g hg => hb.block g (own_lt (hx.pend p (sans_mem hp)) hg).2 (by have := (ksd p (sans_mem hp)).2 g hg;rintro rfl;omega))
  (fun p hp => hx.bp p (sans_mem hp)) (fun p hp p' hp' => hx.ss p (sans_mem hp) p' (sans_mem hp')) (fun p hp => hx.lo _ (Foot.side (sans_mem hp)))
 refine ⟨hX, hX.goesF (hb.more fun g hg => by rw [hg];exact Foot.lm) fun g hg => .inl ?_⟩
 rcases hg with hg | hg | hg | ⟨p, hp, hg⟩
 ·exact .inl hg
 ·exact .inr (.inl hg)
 ·exact .inr (.inr (.inl hg))
 ·exact .inr (.inr (.inr ⟨p, sans_mem hp, hg⟩))
set_option maxRecDepth 100000 in
set_option maxHeartbeats 4000000 in
/-- a stream ended -/
theorem Settle_done {F : Nat → Prop} (w : World) (h : Cw w n q F) (i : Int) (hi : I64 i) : Calls Tryz.prog 129 #[Ptr n.c, .int .i64 i, .int .i64 4] w fun e w' => e = .returned (.tuple #[]) ∧ Goes w n F w' { q with live := sans q.live i, off := sans q.off i } := by
 have h0 := h
 obtain ⟨m, hx, rfl⟩ := h
 have y9 : w.cell? ⟨n.c, 9, none⟩ = some (.map (some n.lm)) := hx.blk.cell 9
 obtain ⟨w2, hrun, hl, ht⟩ := hx.live.del hi 0
 obtain ⟨hx2, hg2⟩ := hx.goesL (but_turn2 ht) i hl
 have y7 : w2.cell? ⟨n.c, 7, none⟩ = some (Ptr n.bk) := hx2.blk.cell 7
 have hS := Shut_any w2 ⟨m, hx2, rfl⟩ i hi
 go_enter Tryz.func129, Tryz.ntmps129
 go_wp2_with (go_at_call 178;(with_reducible refine hS.mono ?_);rintro e w3 ⟨rfl, hg3⟩)
 refine bodyPost_ret (v := .tuple #[]) (by simp [results, Tryz.results129, go_sem]) rfl ?_
 obtain ⟨F3, k3⟩ := hg2.step hg3
 exact ⟨rfl, k3.goes⟩
end Go.Proofs.YtkeeofhjdffhbaaGreatDoor
namespace Go.Proofs.YtkeeofhjdffhbaaGreatDoor
open Go Go.RowKit Go.Dr
variable {w w' : World} {n : Nm} {m m' : Mm} {q q' : Cq}
theorem Cx.ids (hx : Cx w n m q) : (q.live.map (·.1)).Nodup := by
 have := hx.live.nodup
 rw [List.map_map] at this
 exact this
/-- one live stream turns -/
theorem Cx.goesS (hx : Cx w n m q) {a c : List (Int × Sp)} {i : Int} {s : Sp} (hq : q.live = a ++ (i, s) :: c) (s' : Sp) (hb : But (fun g => g = m.sb i) w w') (hs : Blk w' (m.sb i) 140 (s'.cells (m.sv i))) (hp : s'.pend = s.pend) : Cx w' n m { q with live := a ++ (i, s') :: c } ∧ GoesF w n (Foot n m q) w' { q with live := a ++ (i, s') :: c } (Foot n m { q with live := a ++ (i, s') :: c }) := by
 obtain ⟨-, -, -, -, -, -, -, -, -, -, -, -, -, -, kbv, knv, kcv, ksd⟩ := hx.kinds
 have hnd := hx.ids
 rw [hq] at hnd
 have hne := nodup_mid hnd
 have hmem : ∀ p ∈ a ++ c, p ∈ q.live ∧ p.1 ≠ i := fun p hp => ⟨by rw [hq];rcases List.mem_append.1 hp with h | h;exact List.mem_append.2 (.inl h);exact List.mem_append.2 (.inr (.tail _ h)), hne p hp⟩
 have hi : (i, s) ∈ q.live := by rw [hq];simp
 have hcases : ∀ p ∈ a ++ (i, s') :: c, p = (i, s') ∨ p ∈ a ++ c := fun p hp => by
  rcases List.mem_append.1 hp with h | h
  ·exact .inr (List.mem_append.2 (.inl h))
  ·rcases List.mem_cons.1 h with h | h
   ·exact .inl h
   ·exact .inr (List.mem_append.2 (.inr h))
 have hsb : ∀ p ∈ a ++ c, m.sb p.1 ≠ m.sb i := fun p hp => (hx.ss p (hmem p hp).1 _ hi (hmem p hp).2).1
 have hpend : ∀ p ∈ q.live, w'.ownsRow n.B 5 1 (m.sv p.1) p.2.pend.length (p.2.pend.map B8) := fun p hp => own_same (hx.pend p hp) fun g hg => hb.block g (own_lt (hx.pend p hp) hg).2 (by have h1 := (ksd p hp).2 g hg;have h2 : kd w (m.sb i) = _ := (ksd _ hi).1;rintro rfl;omega)
 have hlv : ∀ p ∈ a ++ (i, s') :: c, ∃ p0 ∈ q.live, p0.1 = p.1 := fun p hp => by
  rcases hcases p hp with rfl | h
  ·exact ⟨_, hi, rfl⟩
  ·exact ⟨p, (hmem p h).1, rfl⟩
 have hX := hx.upS hb (fun g hg => .inl (by rw [hg];exact (ksd _ hi).1)) m (a ++ (i, s') :: c) rfl (by rw [hq];simp) (fun g hg => by have h1 := kbv g hg;have h2 : kd w (m.sb i) = _ := (ksd _ hi).1;rintro rfl;omega)
  (fun p hp => by
   rcases hcases p hp with rfl | h
   ·exact hs
   ·exact (hx.side p (hmem p h).1).but hb (hsb p h))
  (fun p hp' => by
   rcases hcases p hp' with rfl | h
   ·have := hpend _ hi
    simpa [hp] using this
   ·exact hpend p (hmem p h).1)
  (fun p hp => by
   obtain ⟨p0, h0, e0⟩ := hlv p hp
   rw [← e0]
   exact hx.bp p0 h0)
  (fun p hp p' hp' => by
   obtain ⟨p0, h0, e0⟩ := hlv p hp
   obtain ⟨p1, h1, e1⟩ := hlv p' hp'
   rw [← e0, ← e1]
   exact hx.ss p0 h0 p1 h1)
 refine ⟨hX, hX.goesF (hb.more fun g hg => by rw [hg];exact Foot.side hi) fun g hg => .inl ?_⟩
 rcases hg with hg | hg | hg | ⟨p, hp, hg⟩
 ·exact .inl hg
 ·exact .inr (.inl hg)
 ·exact .inr (.inr (.inl hg))
 ·obtain ⟨p0, h0, e0⟩ := hlv p hp
  rw [← e0] at hg
  exact .inr (.inr (.inr ⟨p0, h0, hg⟩))
set_option maxRecDepth 100000 in
set_option maxHeartbeats 4000000 in
/-- a live stream ends -/
theorem Turn_done {F : Nat → Prop} (w : World) (h : Cw w n q F) (i : Int) (hi : I64 i) : Calls Tryz.prog 103 #[Ptr n.c, .int .i64 i, .int .i64 4] w fun e w' => e = .returned (.tuple #[]) ∧ Goes w n F w' { q with live := sans q.live i, off := sans q.off i } := by
 have hlv : ∀ w : World, Calls Tryz.prog 94 #[.int .i64 4] w fun e w' => e = .returned (.bool false) ∧ w' = w := fun w => Live_any 4 w
 have hS := Settle_done w h i hi
 go_enter Tryz.func103, Tryz.ntmps103
 go_wp2_with first
  | (go_at_call 94;(with_reducible refine (hlv _).mono ?_);rintro e w2 ⟨rfl, rfl⟩)
  | (go_at_call 129;(with_reducible refine hS.mono ?_);rintro e w3 ⟨rfl, hg3⟩)
 go_end0
 exact ⟨rfl, hg3⟩
theorem Go_asked (w : World) (k : Int) (hk : k = 0 ∨ k = 1) : Calls Tryz.prog 102 #[.int .i64 2, .int .i64 k, .bool true] w fun e w' => e = .returned (.tuple #[.int .i64 4, .bool true]) ∧ w' = w := by
 rcases hk with rfl | rfl <;>
 (go_enter Tryz.func102, Tryz.ntmps102;go_wp2;go_ret2;exact ⟨rfl, rfl⟩)
set_option maxRecDepth 100000 in
set_option maxHeartbeats 4000000 in
/-- behind a frame that ends an answer whose request had ended -/
theorem Went_done {F : Nat → Prop} (w : World) (h : Cw w n q F) (i k : Int) (hk : k = 0 ∨ k = 1) (hi : I64 i) {s : Sp} (hs : (i, s) ∈ q.live) (h2 : s.st = 2) : Calls Tryz.prog 62 #[Ptr n.c, .int .i64 i, .int .i64 k, .bool true] w fun e w' => e = .returned (.tuple #[]) ∧ Goes w n F w' { q with live := sans q.live i, off := sans q.off i, over := q.over || (q.drained && (sans q.live i).isEmpty) } := by
 have hT := Turn_done w h i hi
 obtain ⟨m, hx, rfl⟩ := h
 have y9 : w.cell? ⟨n.c, 9, none⟩ = some (.map (some n.lm)) := hx.blk.cell 9
 have hl := (hx.live.inn hi (List.mem_map.2 ⟨_, hs, rfl⟩)).2
 have y6 : w.cell? ⟨m.sb i, 6, none⟩ = some (.int .i64 2) := by rw [← h2];exact (hx.side _ hs).cell 6
 have hG := Go_asked w k hk
 have g0 := GoesF.refl (F := Foot n m q) ⟨m, hx, rfl⟩
 clear h2
 go_enter Tryz.func62, Tryz.ntmps62
 go_wp2_with first
  | (go_at_call 102;(with_reducible refine hG.mono ?_);rintro e w2 ⟨rfl, rfl⟩)
  | (go_at_call 103;(with_reducible refine hT.mono ?_);rintro e w3 ⟨rfl, hg3⟩;obtain ⟨F3, k3⟩ := g0.step hg3;have hR := Rest_any w3 k3.h)
  | (go_at_call 97;(with_reducible refine hR.mono ?_);rintro e w4 ⟨rfl, hg4⟩;obtain ⟨F4, k4⟩ := k3.step hg4)
 go_end0
 exact ⟨rfl, k4.goes⟩
end Go.Proofs.YtkeeofhjdffhbaaGreatDoor
