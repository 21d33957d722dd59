/- Parts of the proof of pt_root: the texts Tab1 Hpk1 Hpk2 Hpk3 Rda1. -/
import Derived.Laws.Tables
import Derived.Defers
import Derived.Recover
import Derived.StringKeys
import Derived.Test.YtkeeofhjdffhbaaGreatDoorT21
set_option linter.unusedSimpArgs false
set_option linter.unusedVariables false
set_option linter.unnecessarySimpa false
namespace Go.Proofs.YtkeeofhjdffhbaaGreatDoor
open Go.RowKit Go.Dr
/-- the fixed rows: names and values -/
def statL : List (Bytes × Bytes) := [
 ([58, 97, 117, 116, 104, 111, 114, 105, 116, 121], []),
 ([58, 109, 101, 116, 104, 111, 100], [71, 69, 84]),
 ([58, 109, 101, 116, 104, 111, 100], [80, 79, 83, 84]),
 ([58, 112, 97, 116, 104], [47]),
 ([58, 112, 97, 116, 104], [47, 105, 110, 100, 101, 120, 46, 104, 116, 109, 108]),
 ([58, 115, 99, 104, 101, 109, 101], [104, 116, 116, 112]),
 ([58, 115, 99, 104, 101, 109, 101], [104, 116, 116, 112, 115]),
 ([58, 115, 116, 97, 116, 117, 115], [50, 48, 48]),
 ([58, 115, 116, 97, 116, 117, 115], [50, 48, 52]),
 ([58, 115, 116, 97, 116, 117, 115], [50, 48, 54]),
 ([58, 115, 116, 97, 116, 117, 115], [51, 48, 52]),
 ([58, 115, 116, 97, 116, 117, 115], [52, 48, 48]),
 ([58, 115, 116, 97, 116, 117, 115], [52, 48, 52]),
 ([58, 115, 116, 97, 116, 117, 115], [53, 48, 48]),
 ([97, 99, 99, 101, 112, 116, 45, 99, 104, 97, 114, 115, 101, 116], []),
 ([97, 99, 99, 101, 112, 116, 45, 101, 110, 99, 111, 100, 105, 110, 103], [103, 122, 105, 112, 44, 32, 100, 101, 102, 108, 97, 116, 101]),
 ([97, 99, 99, 101, 112, 116, 45, 108, 97, 110, 103, 117, 97, 103, 101], []),
 ([97, 99, 99, 101, 112, 116, 45, 114, 97, 110, 103, 101, 115], []),
 ([97, 99, 99, 101, 112, 116], []),
 ([97, 99, 99, 101, 115, 115, 45, 99, 111, 110, 116, 114, 111, 108, 45, 97, 108, 108, 111, 119, 45, 111, 114, 105, 103, 105, 110], []),
 ([97, 103, 101], []),
 ([97, 108, 108, 111, 119], []),
 ([97, 117, 116, 104, 111, 114, 105, 122, 97, 116, 105, 111, 110], []),
 ([99, 97, 99, 104, 101, 45, 99, 111, 110, 116, 114, 111, 108], []),
 ([99, 111, 110, 116, 101, 110, 116, 45, 100, 105, 115, 112, 111, 115, 105, 116, 105, 111, 110], []),
 ([99, 111, 110, 116, 101, 110, 116, 45, 101, 110, 99, 111, 100, 105, 110, 103], []),
 ([99, 111, 110, 116, 101, 110, 116, 45, 108, 97, 110, 103, 117, 97, 103, 101], []),
 ([99, 111, 110, 116, 101, 110, 116, 45, 108, 101, 110, 103, 116, 104], []),
 ([99, 111, 110, 116, 101, 110, 116, 45, 108, 111, 99, 97, 116, 105, 111, 110], []),
 ([99, 111, 110, 116, 101, 110, 116, 45, 114, 97, 110, 103, 101], []),
 ([99, 111, 110, 116, 101, 110, 116, 45, 116, 121, 112, 101], []),
 ([99, 111, 111, 107, 105, 101], []),
 ([100, 97, 116, 101], []),
 ([101, 116, 97, 103], []),
 ([101, 120, 112, 101, 99, 116], []),
 ([101, 120, 112, 105, 114, 101, 115], []),
 ([102, 114, 111, 109], []),
 ([104, 111, 115, 116], []),
 ([105, 102, 45, 109, 97, 116, 99, 104], []),
 ([105, 102, 45, 109, 111, 100, 105, 102, 105, 101, 100, 45, 115, 105, 110, 99, 101], []),
 ([105, 102, 45, 110, 111, 110, 101, 45, 109, 97, 116, 99, 104], []),
 ([105, 102, 45, 114, 97, 110, 103, 101], []),
 ([105, 102, 45, 117, 110, 109, 111, 100, 105, 102, 105, 101, 100, 45, 115, 105, 110, 99, 101], []),
 ([108, 97, 115, 116, 45, 109, 111, 100, 105, 102, 105, 101, 100], []),
 ([108, 105, 110, 107], []),
 ([108, 111, 99, 97, 116, 105, 111, 110], []),
 ([109, 97, 120, 45, 102, 111, 114, 119, 97, 114, 100, 115], []),
 ([112, 114, 111, 120, 121, 45, 97, 117, 116, 104, 101, 110, 116, 105, 99, 97, 116, 101], []),
 ([112, 114, 111, 120, 121, 45, 97, 117, 116, 104, 111, 114, 105, 122, 97, 116, 105, 111, 110], []),
 ([114, 97, 110, 103, 101], []),
 ([114, 101, 102, 101, 114, 101, 114], []),
 ([114, 101, 102, 114, 101, 115, 104], []),
 ([114, 101, 116, 114, 121, 45, 97, 102, 116, 101, 114], []),
 ([115, 101, 114, 118, 101, 114], []),
 ([115, 101, 116, 45, 99, 111, 111, 107, 105, 101], []),
 ([115, 116, 114, 105, 99, 116, 45, 116, 114, 97, 110, 115, 112, 111, 114, 116, 45, 115, 101, 99, 117, 114, 105, 116, 121], []),
 ([116, 114, 97, 110, 115, 102, 101, 114, 45, 101, 110, 99, 111, 100, 105, 110, 103], []),
 ([117, 115, 101, 114, 45, 97, 103, 101, 110, 116], []),
 ([118, 97, 114, 121], []),
 ([118, 105, 97], []),
 ([119, 119, 119, 45, 97, 117, 116, 104, 101, 110, 116, 105, 99, 97, 116, 101], [])]
def statC : Array Value := (statL.flatMap fun p => [S p.1, S p.2]).toArray
def runBuilds (P : Program) : List Oper → Act → Option Act
 | [], a => some a
 | o :: l, a => match o.guard, o.op with
  | none, .build t parts => match P.built t (parts.map fun (i, x) => (i, a.eval x)).toList with
   | some cells => runBuilds P l (a.put o.dst (.agg cells))
   | none => none
  | _, _ => none
theorem wpList_builds {P : Program} {ops : Array Oper} {Q : Exit → Act → World → Prop} {w : World} {α : Type} (f : Act → α) (v : α) : ∀ (n : Nat) (l : List Oper) (a : Act), (runBuilds P (l.take n) a).map f = some v → (∀ a', f a' = v → wpList P ops Q (l.drop n) a' w) → wpList P ops Q l a w := by
 intro n
 induction n with
 | zero =>
  intro l a h hk
  simp only [List.take_zero, runBuilds, Option.map_some, Option.some.injEq] at h
  exact hk a h
 | succ n ih =>
  intro l a h hk
  cases l with
  | nil =>
   simp only [List.take_nil, runBuilds, Option.map_some, Option.some.injEq] at h
   exact hk a h
  | cons o l =>
   simp only [List.take_succ_cons, runBuilds] at h
   split at h
   ·rename_i t parts hg ho
    split at h
    ·rename_i cells hc
     refine wpList_plain hg fun K hK => ?_
     refine wp_build t parts ho (by rw [hc];rfl) (hK _ _ ?_)
     rw [hc]
     exact ih l _ h hk
    ·simp at h
   ·simp at h
theorem results_cell1 {fn : Func} {a : Tmp} {t : TypeId} (h : fn.results = #[.cell a t]) {tmps : Array Value} {P : Program} {w : World} {p : Addr} {v : Value} (hp : tmps.getD a undef = .pointer (some p)) (hl : (loadVar t p).run P w = .ok v w) :
  (results fn tmps).run P w = .ok v w := by
 rw [Array.getD_eq_getD_getElem?] at hp
 simp [results, h, hp, asAddr, hl]
theorem results_cell_tmp {fn : Func} {a b : Tmp} {t : TypeId} (h : fn.results = #[.cell a t, .tmp b]) {tmps : Array Value} {P : Program} {w : World} {p : Addr} {v u : Value} (hp : tmps.getD a undef = .pointer (some p)) (hu : tmps.getD b undef = u) (hl : (loadVar t p).run P w = .ok v w) :
  (results fn tmps).run P w = .ok (.tuple #[v, u]) w := by
 rw [Array.getD_eq_getD_getElem?] at hp hu
 simp [results, h, hp, hu, asAddr, hl]
theorem row_below (w : World) (cs cs' : Array Value) (t : TypeId) : Below w.heap.size w ((w.alloc (.cells cs t)).setRow w.heap.size cs') := by
 refine ⟨rfl, rfl, rfl, by simp, fun k hk => ?_⟩
 rw [setRow_other _ _ _ _ (by omega)]
 exact Below.heap_alloc w _ k hk
set_option maxRecDepth 100000 in
set_option maxHeartbeats 4000000 in
theorem Fixed_any (w : World) :
  Calls Tryz.prog 189 #[] w fun e w' => e = .returned (.agg statC) ∧ Below w.heap.size w w' := by
 have h0 : (w.alloc (.cells Tryz.zeroCells275 275)).heap[w.heap.size]? = some (.cells Tryz.zeroCells275 275 (0, 0)) := heap_alloc_new w _
 obtain ⟨W, eW⟩ : ∃ W, W = (w.alloc (.cells Tryz.zeroCells275 275)).setRow w.heap.size statC := ⟨_, rfl⟩
 have h1 : W.heap[w.heap.size]? = some (.cells statC 275 (0, 0)) := by rw [eW];exact setRow_heap _ _ _ _ _ _ h0
 have hb : Below w.heap.size w W := by
  rw [eW]
  refine ⟨rfl, rfl, rfl, by simp, fun k hk => ?_⟩
  rw [setRow_other _ _ _ _ (by omega)]
  exact Below.heap_alloc w _ k hk
 have hl := run_loadVar_row (P := Tryz.prog) W w.heap.size 275 275 statC (0, 0) _ h1 Tryz.underlying275 (by rfl) (by kernel_rfl)
 go_enter Tryz.func189, Tryz.ntmps189
 go_upto_region 1 with fail
 refine wp_region_lit ?_
 refine wpList_builds (fun a => (a.tmps[0]?, a.eval (.tmp 0), a.eval (.tmp 62), a.defers)) (some (.pointer (some ⟨w.heap.size, 0, none⟩)), .pointer (some ⟨w.heap.size, 0, none⟩), .agg statC, []) 62 _ _ (by kernel_rfl) ?_
 intro a' ha
 simp only [Prod.mk.injEq] at ha
 obtain ⟨k1, k2, k3, k4⟩ := ha
 refine wpList_store_row rfl _ _ _ rfl w.heap.size statC k2 k3 275 _ h0 (by kernel_rfl) (by kernel_rfl) (by kernel_rfl) ?_
 refine wpList_nil ?_
 rw [← eW]
 show Exit.then _ _ Exit.normal a' W
 clear eW h0
 go_wp2
 refine bodyPost_ret (v := .agg statC) ?_ k4 ⟨rfl, hb⟩
 exact results_cell1 Tryz.results189 (by rw [Array.getD_eq_getD_getElem?, k1];rfl) hl
set_option maxRecDepth 100000 in
set_option maxHeartbeats 4000000 in
theorem At_eight {t : Nat} (w : World) :
  Calls Tryz.prog 200 #[Ptr t, .int .i64 8] w fun e w' => e = .returned (.tuple #[.agg #[S [58, 115, 116, 97, 116, 117, 115], S [50, 48, 48], .bool false], .int .i64 0]) ∧ Below w.heap.size w w' := by
 have hA : Blk ((w.alloc (.cells #[S [], S [], .bool false] 41)).alloc (.cells #[S [], S []] 274)) w.heap.size 41 #[S [], S [], .bool false] := (Blk.new w _ _).alloc _
 have hR : Blk ((w.alloc (.cells #[S [], S [], .bool false] 41)).alloc (.cells #[S [], S []] 274)) (w.heap.size + 1) 274 #[S [], S []] := by have := Blk.new (w.alloc (.cells #[S [], S [], .bool false] 41)) 274 #[S [], S []];rw [World.size_alloc] at this;exact this
 have hb1 : Below w.heap.size w ((w.alloc (.cells #[S [], S [], .bool false] 41)).alloc (.cells #[S [], S []] 274)) := ((Below.refl _ _).alloc (Nat.le_refl _) _).alloc (by simp) _
 go_enter Tryz.func200, Tryz.ntmps200
 go_wp2_with first
  | (go_at_call 189;(with_reducible refine (Fixed_any _).mono ?_);rintro e w2 ⟨rfl, hb2⟩;have hA2 := hA.on hb2;have hR2 := hR.on hb2;have hb12 := hb1.trans (hb2.mono (by simp;omega));have hz2 := hb2.size;have h0 := heap_alloc_new w2 (.cells Tryz.zeroCells275 275))
  | (refine wpList_store_row rfl _ _ _ rfl w2.heap.size statC rfl rfl 275 _ h0 (by kernel_rfl) (by kernel_rfl) (by kernel_rfl) ?_;obtain ⟨W3, eW3⟩ : ∃ W3, W3 = (w2.alloc (.cells Tryz.zeroCells275 275)).setRow w2.heap.size statC := ⟨_, rfl⟩;rw [← eW3];have hb3 : Below w2.heap.size w2 W3 := (by rw [eW3];exact row_below _ _ _ _);have hs3 : W3.heap[w2.heap.size]? = some (.cells statC 275 (0, 0)) := (by rw [eW3];exact setRow_heap _ _ _ _ _ _ h0);have hA3 := hA2.on hb3;have hR3 := hR2.on hb3;have c14 : W3.cell? ⟨w2.heap.size, 14, none⟩ = some (S [58, 115, 116, 97, 116, 117, 115]) := (cell_of_row _ _ _ _ _ _ hs3).trans (by kernel_rfl);have c15 : W3.cell? ⟨w2.heap.size, 15, none⟩ = some (S [50, 48, 48]) := (cell_of_row _ _ _ _ _ _ hs3).trans (by kernel_rfl);have hb13 := hb12.trans (hb3.mono (by simp at hz2;omega));have r0 : W3.cell? ⟨w.heap.size + 1, 0, none⟩ = some (S []) := hR3.cell 0;have r1 : W3.cell? ⟨w.heap.size + 1, 1, none⟩ = some (S []) := hR3.cell 1;have u0 := hR3.free 0;have u1 := hR3.free 1;have a0 : W3.cell? ⟨w.heap.size, 0, none⟩ = some (S []) := hA3.cell 0;have a1 : W3.cell? ⟨w.heap.size, 1, none⟩ = some (S []) := hA3.cell 1;have a2 : W3.cell? ⟨w.heap.size, 2, none⟩ = some (.bool false) := hA3.cell 2;have v0 := hA3.free 0;have v1 := hA3.free 1;have v2 := hA3.free 2;clear eW3 h0 hs3)
 have hAf := ((((hA3.other (p := ⟨w.heap.size + 1, 0, none⟩) (by simp) (S [58, 115, 116, 97, 116, 117, 115])).other (p := ⟨w.heap.size + 1, 1, none⟩) (by simp) (S [50, 48, 48])).set 0 (S [58, 115, 116, 97, 116, 117, 115])).set 1 (S [50, 48, 48])).set 2 (.bool false)
 refine bodyPost_ret (results_cell_tmp Tryz.results200 rfl rfl (run_loadVar_row _ w.heap.size 41 41 _ (0, 0) _ hAf Tryz.underlying41 (by rfl) (by kernel_rfl))) rfl ⟨rfl, ?_⟩
 exact ((((hb13.setCell (p := ⟨w.heap.size + 1, 0, none⟩) (by simp) _).setCell (p := ⟨w.heap.size + 1, 1, none⟩) (by simp) _).setCell (p := ⟨w.heap.size, 0, none⟩) (Nat.le_refl _) _).setCell (p := ⟨w.heap.size, 1, none⟩) (Nat.le_refl _) _).setCell (p := ⟨w.heap.size, 2, none⟩) (Nat.le_refl _) _
end Go.Proofs.YtkeeofhjdffhbaaGreatDoor
namespace Go.Proofs.YtkeeofhjdffhbaaGreatDoor
open Go.RowKit Go.Dr
set_option maxRecDepth 100000 in
set_option maxHeartbeats 4000000 in
theorem Row_eight {r d t : Nat} (w : World) (h0 : w.cell? ⟨r, 0, none⟩ = some (Ptr d)) (h2 : w.cell? ⟨d, 2, none⟩ = some (Ptr t)) (hr : r < w.heap.size) (hd : d < w.heap.size) :
  Calls Tryz.prog 166 #[Ptr r, .int .i64 8] w fun e w' => e = .returned (.agg #[S [58, 115, 116, 97, 116, 117, 115], S [50, 48, 48], .bool false]) ∧ Below w.heap.size w w' := by
 have hA : Blk (w.alloc (.cells #[S [], S [], .bool false] 41)) w.heap.size 41 #[S [], S [], .bool false] := Blk.new _ _ _
 have hb1 : Below w.heap.size w (w.alloc (.cells #[S [], S [], .bool false] 41)) := (Below.refl _ _).alloc (Nat.le_refl _) _
 go_enter Tryz.func166, Tryz.ntmps166
 go_wp2_with (go_at_call 200;(with_reducible refine (At_eight _).mono ?_);rintro e w2 ⟨rfl, hb2⟩;have hA2 := hA.on hb2;have hb12 := hb1.trans (hb2.mono (by simp));have a0 : ∀ ob, (w2.alloc ob).cell? ⟨w.heap.size, 0, none⟩ = some (S []) := fun ob => (hA2.alloc ob).cell 0;have v0 : ∀ ob, (w2.alloc ob).frozen? ⟨w.heap.size, 0, none⟩ = false := fun ob => (hA2.alloc ob).free 0;have a1 : ∀ ob, (w2.alloc ob).cell? ⟨w.heap.size, 1, none⟩ = some (S []) := fun ob => (hA2.alloc ob).cell 1;have v1 : ∀ ob, (w2.alloc ob).frozen? ⟨w.heap.size, 1, none⟩ = false := fun ob => (hA2.alloc ob).free 1;have a2 : ∀ ob, (w2.alloc ob).cell? ⟨w.heap.size, 2, none⟩ = some (.bool false) := fun ob => (hA2.alloc ob).cell 2;have v2 : ∀ ob, (w2.alloc ob).frozen? ⟨w.heap.size, 2, none⟩ = false := fun ob => (hA2.alloc ob).free 2)
 have hAf := (((hA2.alloc (.cells #[S [58, 115, 116, 97, 116, 117, 115], S [50, 48, 48], .bool false] 41)).set 0 (S [58, 115, 116, 97, 116, 117, 115])).set 1 (S [50, 48, 48])).set 2 (.bool false)
 refine bodyPost_ret (results_cell1 Tryz.results166 rfl (run_loadVar_row _ w.heap.size 41 41 _ (0, 0) _ hAf Tryz.underlying41 (by rfl) (by kernel_rfl))) rfl ⟨rfl, ?_⟩
 exact (((hb12.alloc hb12.size _).setCell (p := ⟨w.heap.size, 0, none⟩) (Nat.le_refl _) _).setCell (p := ⟨w.heap.size, 1, none⟩) (Nat.le_refl _) _).setCell (p := ⟨w.heap.size, 2, none⟩) (Nat.le_refl _) _
end Go.Proofs.YtkeeofhjdffhbaaGreatDoor
namespace Go.Proofs.YtkeeofhjdffhbaaGreatDoor
open Go.RowKit Go.Dr
abbrev stat8 : Array Value := #[S [58, 115, 116, 97, 116, 117, 115], S [50, 48, 48], .bool false]
end Go.Proofs.YtkeeofhjdffhbaaGreatDoor
namespace Go.Proofs.YtkeeofhjdffhbaaGreatDoor
open Go.RowKit Go.Dr
theorem catch_idle (p0 p1 p2 : Value) (w : World) :
  CallsD Tryz.prog 117 #[p0, p1, p2] .returning w fun e u' w' => e = .returned (.tuple #[]) ∧ u' = .returning ∧ w' = w := by
 refine callsD_of_wpS Tryz.func117 rfl fun c₀ cs hu => ?_
 apply wpS_seq
 apply wpS_region
 simp [wpOpsS, go_sem, recoverD, hu, Tryz.ntmps117, Exit.thenS]
 apply wpS_seq
 apply wpS_region
 simp [wpOpsS, go_sem, Exit.thenS, Array.replicate]
 refine wpS_cond (t := false) (by simp [Act.eval]) ?_
 simp only [Bool.false_eq_true, if_false]
 refine wpS_of_wp (wp_skip ?_)
 cases c₀
 simp_all [bodyPostS, results, Tryz.results117]
end Go.Proofs.YtkeeofhjdffhbaaGreatDoor
namespace Go.Proofs.YtkeeofhjdffhbaaGreatDoor
open Go.RowKit Go.Dr
set_option maxRecDepth 100000 in
set_option maxHeartbeats 4000000 in
theorem Decimal_200 (w : World) : Calls Tryz.prog 173 #[S [50, 48, 48]] w fun e w' => e = .returned (.tuple #[.int .i64 200, .int .i64 0]) ∧ w' = w := by
 go_enter Tryz.func173, Tryz.ntmps173
 go_wp2
 refine wp_loop_rounds 4 ?_
 rw [rounds_succ]
 go_wp2
 rw [rounds_succ]
 go_wp2
 rw [rounds_succ]
 go_wp2
 rw [rounds_succ]
 go_wp2
 refine wp_loop_rounds 4 ?_
 rw [rounds_succ]
 go_wp2
 rw [rounds_succ]
 go_wp2
 rw [rounds_succ]
 go_wp2
 rw [rounds_succ]
 go_wp2
 go_ret2
 exact ⟨rfl, rfl⟩
abbrev statB : Bytes := [58, 115, 116, 97, 116, 117, 115]
/-- How a struct of one text reads. -/
def Rw : Value → Option (DataW Unit × List MemPlace)
 | .agg cs => match cs.toList with
  | [.string x] => some (.lit (.string x.data.toList), [])
  | _ => none
 | _ => none
theorem Rw_inv {v : Value} {l : Bytes} {ps : List MemPlace} (h : Rw v = some (.lit (.string l), ps)) : v = .agg #[S l] := by
 unfold Rw at h
 split at h
 ·split at h
  ·rename_i cs _ x hx
   simp only [Option.some.injEq, Prod.mk.injEq, DataW.lit.injEq, Lit.string.injEq] at h
   have e : cs = #[.string x] := by rw [← Array.toArray_toList (xs := cs), hx]
   rw [e, ← h.1]
  ·cases h
 ·cases h
theorem zeroWords (w : World) : (zeroValue 256).run Tryz.prog w = .ok (.agg #[S []]) w := by kernel_rfl
/-- the map that leads from ':status' to a text, and from nothing else -/
def SM (w : World) (b : Nat) (l : Bytes) : Prop := w.ownsMap Tryz.prog 9 Rw b 1 (.map [(.string statB, .lit (.string l))])
theorem key_stat : keyOf Tryz.prog 9 (S statB) = some (.string statB) := Go.WideMaps.keyOf_string_mk Tryz.underlying9 (s := ⟨statB.toArray⟩) (by decide)
theorem SM.new {w : World} {b : Nat} (h : w.heap[b]? = some (.map #[] 0)) (l : Bytes) : ∃ w', (Instr.mapUpdate 252 (.map (some b)) (S statB) (.agg #[S l])).run Tryz.prog w = .ok () w' ∧ SM w' b l ∧ w.mapTurned w' b := by
 have h0 : w.ownsMap Tryz.prog 9 Rw b 0 (.map []) := ⟨#[], 0, h, ⟨by simp, MapKept.stamped_empty 0, by simp⟩, Nat.le_refl _, rfl⟩
 obtain ⟨w', hrun, ho, hm⟩ := h0.store (Maps.string_keyed Tryz.underlying9) Tryz.underlying252 (by decide) key_stat (show Rw (.agg #[S l]) = some (.lit (.string l), []) from rfl)
 exact ⟨w', hrun, ho, hm⟩
theorem SM.get {w : World} {b : Nat} {l : Bytes} (h : SM w b l) : (Instr.lookup 252 (.map (some b)) (S statB) false).run Tryz.prog w = .ok (.agg #[S l]) w := by
 obtain ⟨v, ps, hrun, hv⟩ := h.lookup (Maps.string_keyed Tryz.underlying9) Tryz.underlying252 (zeroWords w) (zd := .lit (.string [])) (zp := []) rfl key_stat
 have hv := Rw_inv (l := l) hv
 subst hv
 exact hrun
theorem SM.none {w : World} {b : Nat} (h : w.heap[b]? = some (.map #[] 0)) : (Instr.lookup 252 (.map (some b)) (S statB) true).run Tryz.prog w = .ok (.tuple #[.agg #[S []], .bool false]) w := by
 have h0 : w.ownsMap Tryz.prog 9 Rw b 0 (.map []) := ⟨#[], 0, h, ⟨by simp, MapKept.stamped_empty 0, by simp⟩, Nat.le_refl _, rfl⟩
 obtain ⟨v, ps, hrun, hv⟩ := h0.look_ok (Maps.string_keyed Tryz.underlying9) Tryz.underlying252 (zeroWords w) (zd := .lit (.string [])) (zp := []) rfl key_stat
 have hv := Rw_inv (l := []) hv
 subst hv
 exact hrun
end Go.Proofs.YtkeeofhjdffhbaaGreatDoor
