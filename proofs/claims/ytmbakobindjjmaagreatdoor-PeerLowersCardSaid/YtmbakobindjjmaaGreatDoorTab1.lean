
/- The walk of the fixed table of rows. -/
import Derived.Test.YtmbakobindjjmaaGreatDoorPer3
import Derived.Laws.Tables
namespace Go.Proofs.YtmbakobindjjmaaGreatDoor
open Go.RowKit Go.Dr

/-- the fixed rows: names and values -/
def statL : List (Bytes × Bytes) := [
  ([58, 97, 117, 116, 104, 111, 114, 105, 116, 121], []),
  ([58, 109, 101, 116, 104, 111, 100], [71, 69, 84]),
  ([58, 109, 101, 116, 104, 111, 100], [80, 79, 83, 84]),
  ([58, 112, 97, 116, 104], [47]),
  ([58, 112, 97, 116, 104], [47, 105, 110, 100, 101, 120, 46, 104, 116, 109, 108]),
  ([58, 115, 99, 104, 101, 109, 101], [104, 116, 116, 112]),
  ([58, 115, 99, 104, 101, 109, 101], [104, 116, 116, 112, 115]),
  ([58, 115, 116, 97, 116, 117, 115], [50, 48, 48]),
  ([58, 115, 116, 97, 116, 117, 115], [50, 48, 52]),
  ([58, 115, 116, 97, 116, 117, 115], [50, 48, 54]),
  ([58, 115, 116, 97, 116, 117, 115], [51, 48, 52]),
  ([58, 115, 116, 97, 116, 117, 115], [52, 48, 48]),
  ([58, 115, 116, 97, 116, 117, 115], [52, 48, 52]),
  ([58, 115, 116, 97, 116, 117, 115], [53, 48, 48]),
  ([97, 99, 99, 101, 112, 116, 45, 99, 104, 97, 114, 115, 101, 116], []),
  ([97, 99, 99, 101, 112, 116, 45, 101, 110, 99, 111, 100, 105, 110, 103], [103, 122, 105, 112, 44, 32, 100, 101, 102, 108, 97, 116, 101]),
  ([97, 99, 99, 101, 112, 116, 45, 108, 97, 110, 103, 117, 97, 103, 101], []),
  ([97, 99, 99, 101, 112, 116, 45, 114, 97, 110, 103, 101, 115], []),
  ([97, 99, 99, 101, 112, 116], []),
  ([97, 99, 99, 101, 115, 115, 45, 99, 111, 110, 116, 114, 111, 108, 45, 97, 108, 108, 111, 119, 45, 111, 114, 105, 103, 105, 110], []),
  ([97, 103, 101], []),
  ([97, 108, 108, 111, 119], []),
  ([97, 117, 116, 104, 111, 114, 105, 122, 97, 116, 105, 111, 110], []),
  ([99, 97, 99, 104, 101, 45, 99, 111, 110, 116, 114, 111, 108], []),
  ([99, 111, 110, 116, 101, 110, 116, 45, 100, 105, 115, 112, 111, 115, 105, 116, 105, 111, 110], []),
  ([99, 111, 110, 116, 101, 110, 116, 45, 101, 110, 99, 111, 100, 105, 110, 103], []),
  ([99, 111, 110, 116, 101, 110, 116, 45, 108, 97, 110, 103, 117, 97, 103, 101], []),
  ([99, 111, 110, 116, 101, 110, 116, 45, 108, 101, 110, 103, 116, 104], []),
  ([99, 111, 110, 116, 101, 110, 116, 45, 108, 111, 99, 97, 116, 105, 111, 110], []),
  ([99, 111, 110, 116, 101, 110, 116, 45, 114, 97, 110, 103, 101], []),
  ([99, 111, 110, 116, 101, 110, 116, 45, 116, 121, 112, 101], []),
  ([99, 111, 111, 107, 105, 101], []),
  ([100, 97, 116, 101], []),
  ([101, 116, 97, 103], []),
  ([101, 120, 112, 101, 99, 116], []),
  ([101, 120, 112, 105, 114, 101, 115], []),
  ([102, 114, 111, 109], []),
  ([104, 111, 115, 116], []),
  ([105, 102, 45, 109, 97, 116, 99, 104], []),
  ([105, 102, 45, 109, 111, 100, 105, 102, 105, 101, 100, 45, 115, 105, 110, 99, 101], []),
  ([105, 102, 45, 110, 111, 110, 101, 45, 109, 97, 116, 99, 104], []),
  ([105, 102, 45, 114, 97, 110, 103, 101], []),
  ([105, 102, 45, 117, 110, 109, 111, 100, 105, 102, 105, 101, 100, 45, 115, 105, 110, 99, 101], []),
  ([108, 97, 115, 116, 45, 109, 111, 100, 105, 102, 105, 101, 100], []),
  ([108, 105, 110, 107], []),
  ([108, 111, 99, 97, 116, 105, 111, 110], []),
  ([109, 97, 120, 45, 102, 111, 114, 119, 97, 114, 100, 115], []),
  ([112, 114, 111, 120, 121, 45, 97, 117, 116, 104, 101, 110, 116, 105, 99, 97, 116, 101], []),
  ([112, 114, 111, 120, 121, 45, 97, 117, 116, 104, 111, 114, 105, 122, 97, 116, 105, 111, 110], []),
  ([114, 97, 110, 103, 101], []),
  ([114, 101, 102, 101, 114, 101, 114], []),
  ([114, 101, 102, 114, 101, 115, 104], []),
  ([114, 101, 116, 114, 121, 45, 97, 102, 116, 101, 114], []),
  ([115, 101, 114, 118, 101, 114], []),
  ([115, 101, 116, 45, 99, 111, 111, 107, 105, 101], []),
  ([115, 116, 114, 105, 99, 116, 45, 116, 114, 97, 110, 115, 112, 111, 114, 116, 45, 115, 101, 99, 117, 114, 105, 116, 121], []),
  ([116, 114, 97, 110, 115, 102, 101, 114, 45, 101, 110, 99, 111, 100, 105, 110, 103], []),
  ([117, 115, 101, 114, 45, 97, 103, 101, 110, 116], []),
  ([118, 97, 114, 121], []),
  ([118, 105, 97], []),
  ([119, 119, 119, 45, 97, 117, 116, 104, 101, 110, 116, 105, 99, 97, 116, 101], [])]
def statC : Array Value := (statL.flatMap fun p => [S p.1, S p.2]).toArray
def stat0 : Array Value := (List.replicate 122 (S [])).toArray
theorem statC_size : statC.size = 122 := by kernel_rfl

def runBuilds (P : Program) : List Oper → Act → Option Act
  | [], a => some a
  | o :: l, a => match o.guard, o.op with
    | none, .build t parts => match P.built t (parts.map fun (i, x) => (i, a.eval x)).toList with
      | some cells => runBuilds P l (a.put o.dst (.agg cells))
      | none => none
    | _, _ => none
theorem wpList_builds {P : Program} {ops : Array Oper} {Q : Exit → Act → World → Prop} {w : World} {α : Type} (f : Act → α) (v : α) : ∀ (n : Nat) (l : List Oper) (a : Act), (runBuilds P (l.take n) a).map f = some v → (∀ a', f a' = v → wpList P ops Q (l.drop n) a' w) → wpList P ops Q l a w := by
  intro n
  induction n with
  | zero =>
    intro l a h hk
    simp only [List.take_zero, runBuilds, Option.map_some, Option.some.injEq] at h
    exact hk a h
  | succ n ih =>
    intro l a h hk
    cases l with
    | nil =>
      simp only [List.take_nil, runBuilds, Option.map_some, Option.some.injEq] at h
      exact hk a h
    | cons o l =>
      simp only [List.take_succ_cons, runBuilds] at h
      split at h
      · rename_i t parts hg ho
        split at h
        · rename_i cells hc
          refine wpList_plain hg fun K hK => ?_
          refine wp_build t parts ho (by rw [hc]; rfl) (hK _ _ ?_)
          rw [hc]
          exact ih l _ h hk
        · simp at h
      · simp at h

theorem results_cell1 {fn : Func} {a : Tmp} {t : TypeId} (h : fn.results = #[.cell a t]) {tmps : Array Value} {P : Program} {w : World} {p : Addr} {v : Value} (hp : tmps.getD a undef = .pointer (some p)) (hl : (loadVar t p).run P w = .ok v w) :
    (results fn tmps).run P w = .ok v w := by
  rw [Array.getD_eq_getD_getElem?] at hp
  simp [results, h, hp, asAddr, hl]

theorem results_cell_tmp {fn : Func} {a b : Tmp} {t : TypeId} (h : fn.results = #[.cell a t, .tmp b]) {tmps : Array Value} {P : Program} {w : World} {p : Addr} {v u : Value} (hp : tmps.getD a undef = .pointer (some p)) (hu : tmps.getD b undef = u) (hl : (loadVar t p).run P w = .ok v w) :
    (results fn tmps).run P w = .ok (.tuple #[v, u]) w := by
  rw [Array.getD_eq_getD_getElem?] at hp hu
  simp [results, h, hp, hu, asAddr, hl]

theorem row_below (w : World) (cs cs' : Array Value) (t : TypeId) : Below w.heap.size w ((w.alloc (.cells cs t)).setRow w.heap.size cs') := by
  refine ⟨rfl, rfl, rfl, by simp, fun k hk => ?_⟩
  rw [setRow_other _ _ _ _ (by omega)]
  exact Below.heap_alloc w _ k hk

set_option maxRecDepth 100000 in
set_option maxHeartbeats 4000000 in
theorem Fixed_any (w : World) :
    Calls Tryz.prog 101 #[] w fun e w' => e = .returned (.agg statC) ∧ Below w.heap.size w w' := by
  have h0 : (w.alloc (.cells Tryz.zeroCells185 185)).heap[w.heap.size]? = some (.cells Tryz.zeroCells185 185 (0, 0)) := heap_alloc_new w _
  obtain ⟨W, eW⟩ : ∃ W, W = (w.alloc (.cells Tryz.zeroCells185 185)).setRow w.heap.size statC := ⟨_, rfl⟩
  have h1 : W.heap[w.heap.size]? = some (.cells statC 185 (0, 0)) := by rw [eW]; exact setRow_heap _ _ _ _ _ _ h0
  have hb : Below w.heap.size w W := by
    rw [eW]
    refine ⟨rfl, rfl, rfl, by simp, fun k hk => ?_⟩
    rw [setRow_other _ _ _ _ (by omega)]
    exact Below.heap_alloc w _ k hk
  have hl := run_loadVar_row (P := Tryz.prog) W w.heap.size 185 185 statC (0, 0) _ h1 Tryz.underlying185 (by rfl) (by kernel_rfl)
  go_enter Tryz.func101, Tryz.ntmps101
  go_upto_region 1 with fail
  refine wp_region_lit ?_
  refine wpList_builds (fun a => (a.tmps[0]?, a.eval (.tmp 0), a.eval (.tmp 62), a.defers)) (some (.pointer (some ⟨w.heap.size, 0, none⟩)), .pointer (some ⟨w.heap.size, 0, none⟩), .agg statC, []) 62 _ _ (by kernel_rfl) ?_
  intro a' ha
  simp only [Prod.mk.injEq] at ha
  obtain ⟨k1, k2, k3, k4⟩ := ha
  refine wpList_store_row rfl _ _ _ rfl w.heap.size statC k2 k3 185 _ h0 (by kernel_rfl) (by kernel_rfl) (by kernel_rfl) ?_
  refine wpList_nil ?_
  rw [← eW]
  show Exit.then _ _ Exit.normal a' W
  clear eW h0
  go_wp2
  refine bodyPost_ret (v := .agg statC) ?_ k4 ⟨rfl, hb⟩
  exact results_cell1 Tryz.results101 (by rw [Array.getD_eq_getD_getElem?, k1]; rfl) hl


set_option maxRecDepth 100000 in
set_option maxHeartbeats 4000000 in
theorem At_eight {t : Nat} (w : World) :
    Calls Tryz.prog 89 #[Ptr t, .int .i64 8] w fun e w' => e = .returned (.tuple #[.agg #[S [58, 115, 116, 97, 116, 117, 115], S [50, 48, 48], .bool false], .int .i64 0]) ∧ Below w.heap.size w w' := by
  have hA : Blk ((w.alloc (.cells #[S [], S [], .bool false] 38)).alloc (.cells #[S [], S []] 177)) w.heap.size 38 #[S [], S [], .bool false] := (Blk.new w _ _).alloc _
  have hR : Blk ((w.alloc (.cells #[S [], S [], .bool false] 38)).alloc (.cells #[S [], S []] 177)) (w.heap.size + 1) 177 #[S [], S []] := by have := Blk.new (w.alloc (.cells #[S [], S [], .bool false] 38)) 177 #[S [], S []]; rw [World.size_alloc] at this; exact this
  have hb1 : Below w.heap.size w ((w.alloc (.cells #[S [], S [], .bool false] 38)).alloc (.cells #[S [], S []] 177)) := ((Below.refl _ _).alloc (Nat.le_refl _) _).alloc (by simp) _
  go_enter Tryz.func89, Tryz.ntmps89
  go_wp2_with first
    | (go_at_call 101; (with_reducible refine (Fixed_any _).mono ?_); rintro e w2 ⟨rfl, hb2⟩; have hA2 := hA.on hb2; have hR2 := hR.on hb2; have hb12 := hb1.trans (hb2.mono (by simp; omega)); have hz2 := hb2.size; have h0 := heap_alloc_new w2 (.cells Tryz.zeroCells185 185))
    | (refine wpList_store_row rfl _ _ _ rfl w2.heap.size statC rfl rfl 185 _ h0 (by kernel_rfl) (by kernel_rfl) (by kernel_rfl) ?_; obtain ⟨W3, eW3⟩ : ∃ W3, W3 = (w2.alloc (.cells Tryz.zeroCells185 185)).setRow w2.heap.size statC := ⟨_, rfl⟩; rw [← eW3]; have hb3 : Below w2.heap.size w2 W3 := (by rw [eW3]; exact row_below _ _ _ _); have hs3 : W3.heap[w2.heap.size]? = some (.cells statC 185 (0, 0)) := (by rw [eW3]; exact setRow_heap _ _ _ _ _ _ h0); have hA3 := hA2.on hb3; have hR3 := hR2.on hb3; have c14 : W3.cell? ⟨w2.heap.size, 14, none⟩ = some (S [58, 115, 116, 97, 116, 117, 115]) := (cell_of_row _ _ _ _ _ _ hs3).trans (by kernel_rfl); have c15 : W3.cell? ⟨w2.heap.size, 15, none⟩ = some (S [50, 48, 48]) := (cell_of_row _ _ _ _ _ _ hs3).trans (by kernel_rfl); have hb13 := hb12.trans (hb3.mono (by simp at hz2; omega)); have r0 : W3.cell? ⟨w.heap.size + 1, 0, none⟩ = some (S []) := hR3.cell 0; have r1 : W3.cell? ⟨w.heap.size + 1, 1, none⟩ = some (S []) := hR3.cell 1; have u0 := hR3.free 0; have u1 := hR3.free 1; have a0 : W3.cell? ⟨w.heap.size, 0, none⟩ = some (S []) := hA3.cell 0; have a1 : W3.cell? ⟨w.heap.size, 1, none⟩ = some (S []) := hA3.cell 1; have a2 : W3.cell? ⟨w.heap.size, 2, none⟩ = some (.bool false) := hA3.cell 2; have v0 := hA3.free 0; have v1 := hA3.free 1; have v2 := hA3.free 2; clear eW3 h0 hs3)
  have hAf := ((((hA3.other (p := ⟨w.heap.size + 1, 0, none⟩) (by simp) (S [58, 115, 116, 97, 116, 117, 115])).other (p := ⟨w.heap.size + 1, 1, none⟩) (by simp) (S [50, 48, 48])).set 0 (S [58, 115, 116, 97, 116, 117, 115])).set 1 (S [50, 48, 48])).set 2 (.bool false)
  refine bodyPost_ret (results_cell_tmp Tryz.results89 rfl rfl (run_loadVar_row _ w.heap.size 38 38 _ (0, 0) _ hAf Tryz.underlying38 (by rfl) (by kernel_rfl))) rfl ⟨rfl, ?_⟩
  exact ((((hb13.setCell (p := ⟨w.heap.size + 1, 0, none⟩) (by simp) _).setCell (p := ⟨w.heap.size + 1, 1, none⟩) (by simp) _).setCell (p := ⟨w.heap.size, 0, none⟩) (Nat.le_refl _) _).setCell (p := ⟨w.heap.size, 1, none⟩) (Nat.le_refl _) _).setCell (p := ⟨w.heap.size, 2, none⟩) (Nat.le_refl _) _
end Go.Proofs.YtmbakobindjjmaaGreatDoor
