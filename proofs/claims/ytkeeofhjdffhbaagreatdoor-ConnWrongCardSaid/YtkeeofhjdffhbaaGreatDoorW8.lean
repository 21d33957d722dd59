/- Parts of the proof of wr_root: the texts Per3 Tab1 Hpk3 Win1 Rda1 Win2 Rda2 Gmp Cns. -/
import Derived.Laws.Tables
import Derived.Defers
import Derived.Recover
import Derived.StringKeys
import Derived.Laws.EntriesVeiled
import Derived.Test.YtkeeofhjdffhbaaGreatDoorW7
set_option linter.unusedSimpArgs false
set_option linter.unusedVariables false
set_option linter.unnecessarySimpa false
namespace Go.Proofs.YtkeeofhjdffhbaaGreatDoor
open Go.RowKit Go.Dr
theorem obj_alloc {w : World} {b : Nat} {o' : Obj} (h : w.heap[b]? = some o') (o : Obj) : (w.alloc o).heap[b]? = some o' := (Below.heap_alloc w o b (Array.getElem?_eq_some_iff.1 h).1).trans h
theorem obj_new (w : World) (o : Obj) (g : Nat) (hg : w.heap.size = g) : (w.alloc o).heap[g]? = some o := by subst hg;exact heap_alloc_new w o
theorem obj_below {B : Nat} {w w' : World} {b : Nat} {o' : Obj} (h : w.heap[b]? = some o') (hb : Below B w w') (hB : b < B) : w'.heap[b]? = some o' := (hb.block b hB).trans h
/-- a table in memory that holds nothing -/
structure Tbl0 (w : World) (t : Nat) : Prop where
 m1 : w.heap[t - 2]? = some (.map #[] 0)
 m2 : w.heap[t - 1]? = some (.map #[] 0)
 blk : Blk w t 210 #[.int .i64 4096, .int .i64 0, .slice none 0 0, .int .i64 0, .map (some (t - 2)), .map (some (t - 1))]
end Go.Proofs.YtkeeofhjdffhbaaGreatDoor
namespace Go.Proofs.YtkeeofhjdffhbaaGreatDoor
open Go.RowKit Go.Dr
/-- the fixed rows: names and values -/
def statL : List (Bytes × Bytes) := [
 ([58, 97, 117, 116, 104, 111, 114, 105, 116, 121], []),
 ([58, 109, 101, 116, 104, 111, 100], [71, 69, 84]),
 ([58, 109, 101, 116, 104, 111, 100], [80, 79, 83, 84]),
 ([58, 112, 97, 116, 104], [47]),
 ([58, 112, 97, 116, 104], [47, 105, 110, 100, 101, 120, 46, 104, 116, 109, 108]),
 ([58, 115, 99, 104, 101, 109, 101], [104, 116, 116, 112]),
 ([58, 115, 99, 104, 101, 109, 101], [104, 116, 116, 112, 115]),
 ([58, 115, 116, 97, 116, 117, 115], [50, 48, 48]),
 ([58, 115, 116, 97, 116, 117, 115], [50, 48, 52]),
 ([58, 115, 116, 97, 116, 117, 115], [50, 48, 54]),
 ([58, 115, 116, 97, 116, 117, 115], [51, 48, 52]),
 ([58, 115, 116, 97, 116, 117, 115], [52, 48, 48]),
 ([58, 115, 116, 97, 116, 117, 115], [52, 48, 52]),
 ([58, 115, 116, 97, 116, 117, 115], [53, 48, 48]),
 ([97, 99, 99, 101, 112, 116, 45, 99, 104, 97, 114, 115, 101, 116], []),
 ([97, 99, 99, 101, 112, 116, 45, 101, 110, 99, 111, 100, 105, 110, 103], [103, 122, 105, 112, 44, 32, 100, 101, 102, 108, 97, 116, 101]),
 ([97, 99, 99, 101, 112, 116, 45, 108, 97, 110, 103, 117, 97, 103, 101], []),
 ([97, 99, 99, 101, 112, 116, 45, 114, 97, 110, 103, 101, 115], []),
 ([97, 99, 99, 101, 112, 116], []),
 ([97, 99, 99, 101, 115, 115, 45, 99, 111, 110, 116, 114, 111, 108, 45, 97, 108, 108, 111, 119, 45, 111, 114, 105, 103, 105, 110], []),
 ([97, 103, 101], []),
 ([97, 108, 108, 111, 119], []),
 ([97, 117, 116, 104, 111, 114, 105, 122, 97, 116, 105, 111, 110], []),
 ([99, 97, 99, 104, 101, 45, 99, 111, 110, 116, 114, 111, 108], []),
 ([99, 111, 110, 116, 101, 110, 116, 45, 100, 105, 115, 112, 111, 115, 105, 116, 105, 111, 110], []),
 ([99, 111, 110, 116, 101, 110, 116, 45, 101, 110, 99, 111, 100, 105, 110, 103], []),
 ([99, 111, 110, 116, 101, 110, 116, 45, 108, 97, 110, 103, 117, 97, 103, 101], []),
 ([99, 111, 110, 116, 101, 110, 116, 45, 108, 101, 110, 103, 116, 104], []),
 ([99, 111, 110, 116, 101, 110, 116, 45, 108, 111, 99, 97, 116, 105, 111, 110], []),
 ([99, 111, 110, 116, 101, 110, 116, 45, 114, 97, 110, 103, 101], []),
 ([99, 111, 110, 116, 101, 110, 116, 45, 116, 121, 112, 101], []),
 ([99, 111, 111, 107, 105, 101], []),
 ([100, 97, 116, 101], []),
 ([101, 116, 97, 103], []),
 ([101, 120, 112, 101, 99, 116], []),
 ([101, 120, 112, 105, 114, 101, 115], []),
 ([102, 114, 111, 109], []),
 ([104, 111, 115, 116], []),
 ([105, 102, 45, 109, 97, 116, 99, 104], []),
 ([105, 102, 45, 109, 111, 100, 105, 102, 105, 101, 100, 45, 115, 105, 110, 99, 101], []),
 ([105, 102, 45, 110, 111, 110, 101, 45, 109, 97, 116, 99, 104], []),
 ([105, 102, 45, 114, 97, 110, 103, 101], []),
 ([105, 102, 45, 117, 110, 109, 111, 100, 105, 102, 105, 101, 100, 45, 115, 105, 110, 99, 101], []),
 ([108, 97, 115, 116, 45, 109, 111, 100, 105, 102, 105, 101, 100], []),
 ([108, 105, 110, 107], []),
 ([108, 111, 99, 97, 116, 105, 111, 110], []),
 ([109, 97, 120, 45, 102, 111, 114, 119, 97, 114, 100, 115], []),
 ([112, 114, 111, 120, 121, 45, 97, 117, 116, 104, 101, 110, 116, 105, 99, 97, 116, 101], []),
 ([112, 114, 111, 120, 121, 45, 97, 117, 116, 104, 111, 114, 105, 122, 97, 116, 105, 111, 110], []),
 ([114, 97, 110, 103, 101], []),
 ([114, 101, 102, 101, 114, 101, 114], []),
 ([114, 101, 102, 114, 101, 115, 104], []),
 ([114, 101, 116, 114, 121, 45, 97, 102, 116, 101, 114], []),
 ([115, 101, 114, 118, 101, 114], []),
 ([115, 101, 116, 45, 99, 111, 111, 107, 105, 101], []),
 ([115, 116, 114, 105, 99, 116, 45, 116, 114, 97, 110, 115, 112, 111, 114, 116, 45, 115, 101, 99, 117, 114, 105, 116, 121], []),
 ([116, 114, 97, 110, 115, 102, 101, 114, 45, 101, 110, 99, 111, 100, 105, 110, 103], []),
 ([117, 115, 101, 114, 45, 97, 103, 101, 110, 116], []),
 ([118, 97, 114, 121], []),
 ([118, 105, 97], []),
 ([119, 119, 119, 45, 97, 117, 116, 104, 101, 110, 116, 105, 99, 97, 116, 101], [])]
def statC : Array Value := (statL.flatMap fun p => [S p.1, S p.2]).toArray
def runBuilds (P : Program) : List Oper → Act → Option Act
 | [], a => some a
 | o :: l, a => match o.guard, o.op with
  | none, .build t parts => match P.built t (parts.map fun (i, x) => (i, a.eval x)).toList with
   | some cells => runBuilds P l (a.put o.dst (.agg cells))
   | none => none
  | _, _ => none
theorem wpList_builds {P : Program} {ops : Array Oper} {Q : Exit → Act → World → Prop} {w : World} {α : Type} (f : Act → α) (v : α) : ∀ (n : Nat) (l : List Oper) (a : Act), (runBuilds P (l.take n) a).map f = some v → (∀ a', f a' = v → wpList P ops Q (l.drop n) a' w) → wpList P ops Q l a w := by
 intro n
 induction n with
 | zero =>
  intro l a h hk
  simp only [List.take_zero, runBuilds, Option.map_some, Option.some.injEq] at h
  exact hk a h
 | succ n ih =>
  intro l a h hk
  cases l with
  | nil =>
   simp only [List.take_nil, runBuilds, Option.map_some, Option.some.injEq] at h
   exact hk a h
  | cons o l =>
   simp only [List.take_succ_cons, runBuilds] at h
   split at h
   ·rename_i t parts hg ho
    split at h
    ·rename_i cells hc
     refine wpList_plain hg fun K hK => ?_
     refine wp_build t parts ho (by rw [hc];rfl) (hK _ _ ?_)
     rw [hc]
     exact ih l _ h hk
    ·simp at h
   ·simp at h
theorem results_cell1 {fn : Func} {a : Tmp} {t : TypeId} (h : fn.results = #[.cell a t]) {tmps : Array Value} {P : Program} {w : World} {p : Addr} {v : Value} (hp : tmps.getD a undef = .pointer (some p)) (hl : (loadVar t p).run P w = .ok v w) :
  (results fn tmps).run P w = .ok v w := by
 rw [Array.getD_eq_getD_getElem?] at hp
 simp [results, h, hp, asAddr, hl]
theorem results_cell_tmp {fn : Func} {a b : Tmp} {t : TypeId} (h : fn.results = #[.cell a t, .tmp b]) {tmps : Array Value} {P : Program} {w : World} {p : Addr} {v u : Value} (hp : tmps.getD a undef = .pointer (some p)) (hu : tmps.getD b undef = u) (hl : (loadVar t p).run P w = .ok v w) :
  (results fn tmps).run P w = .ok (.tuple #[v, u]) w := by
 rw [Array.getD_eq_getD_getElem?] at hp hu
 simp [results, h, hp, hu, asAddr, hl]
theorem row_below (w : World) (cs cs' : Array Value) (t : TypeId) : Below w.heap.size w ((w.alloc (.cells cs t)).setRow w.heap.size cs') := by
 refine ⟨rfl, rfl, rfl, by simp, fun k hk => ?_⟩
 rw [setRow_other _ _ _ _ (by omega)]
 exact Below.heap_alloc w _ k hk
set_option maxRecDepth 100000 in
set_option maxHeartbeats 4000000 in
theorem Fixed_any (w : World) :
  Calls Tryz.prog 189 #[] w fun e w' => e = .returned (.agg statC) ∧ Below w.heap.size w w' := by
 have h0 : (w.alloc (.cells Tryz.zeroCells275 275)).heap[w.heap.size]? = some (.cells Tryz.zeroCells275 275 (0, 0)) := heap_alloc_new w _
 obtain ⟨W, eW⟩ : ∃ W, W = (w.alloc (.cells Tryz.zeroCells275 275)).setRow w.heap.size statC := ⟨_, rfl⟩
 have h1 : W.heap[w.heap.size]? = some (.cells statC 275 (0, 0)) := by rw [eW];exact setRow_heap _ _ _ _ _ _ h0
 have hb : Below w.heap.size w W := by
  rw [eW]
  refine ⟨rfl, rfl, rfl, by simp, fun k hk => ?_⟩
  rw [setRow_other _ _ _ _ (by omega)]
  exact Below.heap_alloc w _ k hk
 have hl := run_loadVar_row (P := Tryz.prog) W w.heap.size 275 275 statC (0, 0) _ h1 Tryz.underlying275 (by rfl) (by kernel_rfl)
 go_enter Tryz.func189, Tryz.ntmps189
 go_upto_region 1 with fail
 refine wp_region_lit ?_
 refine wpList_builds (fun a => (a.tmps[0]?, a.eval (.tmp 0), a.eval (.tmp 62), a.defers)) (some (.pointer (some ⟨w.heap.size, 0, none⟩)), .pointer (some ⟨w.heap.size, 0, none⟩), .agg statC, []) 62 _ _ (by kernel_rfl) ?_
 intro a' ha
 simp only [Prod.mk.injEq] at ha
 obtain ⟨k1, k2, k3, k4⟩ := ha
 refine wpList_store_row rfl _ _ _ rfl w.heap.size statC k2 k3 275 _ h0 (by kernel_rfl) (by kernel_rfl) (by kernel_rfl) ?_
 refine wpList_nil ?_
 rw [← eW]
 show Exit.then _ _ Exit.normal a' W
 clear eW h0
 go_wp2
 refine bodyPost_ret (v := .agg statC) ?_ k4 ⟨rfl, hb⟩
 exact results_cell1 Tryz.results189 (by rw [Array.getD_eq_getD_getElem?, k1];rfl) hl
end Go.Proofs.YtkeeofhjdffhbaaGreatDoor
namespace Go.Proofs.YtkeeofhjdffhbaaGreatDoor
open Go.RowKit Go.Dr
theorem catch_idle (p0 p1 p2 : Value) (w : World) :
  CallsD Tryz.prog 117 #[p0, p1, p2] .returning w fun e u' w' => e = .returned (.tuple #[]) ∧ u' = .returning ∧ w' = w := by
 refine callsD_of_wpS Tryz.func117 rfl fun c₀ cs hu => ?_
 apply wpS_seq
 apply wpS_region
 simp [wpOpsS, go_sem, recoverD, hu, Tryz.ntmps117, Exit.thenS]
 apply wpS_seq
 apply wpS_region
 simp [wpOpsS, go_sem, Exit.thenS, Array.replicate]
 refine wpS_cond (t := false) (by simp [Act.eval]) ?_
 simp only [Bool.false_eq_true, if_false]
 refine wpS_of_wp (wp_skip ?_)
 cases c₀
 simp_all [bodyPostS, results, Tryz.results117]
end Go.Proofs.YtkeeofhjdffhbaaGreatDoor
namespace Go.Proofs.YtkeeofhjdffhbaaGreatDoor
open Go.RowKit Go.Dr
/-- How a number reads. -/
def Rn : Value → Option (DataW Unit × List MemPlace)
 | .int .i64 x => some (.lit (.int .i64 x), [])
 | _ => none
theorem Rn_int (x : Int) : Rn (.int .i64 x) = some (.lit (.int .i64 x), []) := rfl
/-- the map that leads from 1 to a number, and from nothing else -/
def OM (w : World) (o : Nat) (x : Int) : Prop := w.ownsMap Tryz.prog 3 Rn o 1 (.map [(.int .i64 1, .lit (.int .i64 x))])
theorem OM.put {w : World} {o : Nat} {x : Int} (h : OM w o x) (y : Int) : ∃ w', (Instr.mapUpdate 91 (.map (some o)) (.int .i64 1) (.int .i64 y)).run Tryz.prog w = .ok () w' ∧ OM w' o y ∧ w.mapTurned w' o := by
 obtain ⟨w', hrun, ho, hm⟩ := h.store (Maps.int_keyed Tryz.underlying3) Tryz.underlying91 (by decide) (Maps.keyOf_int_mk Tryz.underlying3 (show (Lit.int .i64 1).wf = true by decide)) (Rn_int y)
 refine ⟨w', hrun, ?_, hm⟩
 have := World.ownsMap.tight ho
 exact this
theorem OM.new {w : World} {o : Nat} (h : w.heap[o]? = some (.map #[] 0)) (y : Int) : ∃ w', (Instr.mapUpdate 91 (.map (some o)) (.int .i64 1) (.int .i64 y)).run Tryz.prog w = .ok () w' ∧ OM w' o y ∧ w.mapTurned w' o := by
 have h0 : w.ownsMap Tryz.prog 3 Rn o 0 (.map []) := ⟨#[], 0, h, ⟨by simp, MapKept.stamped_empty 0, by simp⟩, Nat.le_refl _, rfl⟩
 obtain ⟨w', hrun, ho, hm⟩ := h0.store (Maps.int_keyed Tryz.underlying3) Tryz.underlying91 (by decide) (Maps.keyOf_int_mk Tryz.underlying3 (show (Lit.int .i64 1).wf = true by decide)) (Rn_int y)
 exact ⟨w', hrun, ho, hm⟩
theorem OM.block {w w' : World} {o : Nat} {x : Int} (h : OM w o x) (hb : w'.heap[o]? = w.heap[o]?) : OM w' o x := by
 obtain ⟨es, clock, h1, F, h2, h3⟩ := h
 exact ⟨es, clock, hb.trans h1, F, h2, h3⟩
theorem OM.lt {w : World} {o : Nat} {x : Int} (h : OM w o x) : o < w.heap.size := by
 obtain ⟨es, clock, h1, -⟩ := h
 exact lt_of_block h1
theorem OM.obj {w : World} {o : Nat} {x : Int} (h : OM w o x) : ∃ es clock, w.heap[o]? = some (.map es clock) := by
 obtain ⟨es, clock, h1, -⟩ := h
 exact ⟨es, clock, h1⟩
end Go.Proofs.YtkeeofhjdffhbaaGreatDoor
namespace Go.Proofs.YtkeeofhjdffhbaaGreatDoor
open Go.RowKit Go.Dr
set_option maxRecDepth 100000 in
set_option maxHeartbeats 4000000 in
theorem Length_nil (w : World) : Calls Tryz.prog 122 #[.slice none 0 0] w fun e w' => e = .returned (.tuple #[.int .i64 0, .bool false, .int .i64 0]) ∧ w' = w := by
 go_enter Tryz.func122, Tryz.ntmps122
 go_wp2
 refine wp_loop_rounds 1 ?_
 rw [rounds_succ]
 go_wp2
 go_ret3
 exact ⟨rfl, rfl⟩
abbrev statB : Bytes := [58, 115, 116, 97, 116, 117, 115]
/-- How a struct of one text reads. -/
def Rw : Value → Option (DataW Unit × List MemPlace)
 | .agg cs => match cs.toList with
  | [.string x] => some (.lit (.string x.data.toList), [])
  | _ => none
 | _ => none
theorem Rw_inv {v : Value} {l : Bytes} {ps : List MemPlace} (h : Rw v = some (.lit (.string l), ps)) : v = .agg #[S l] := by
 unfold Rw at h
 split at h
 ·split at h
  ·rename_i cs _ x hx
   simp only [Option.some.injEq, Prod.mk.injEq, DataW.lit.injEq, Lit.string.injEq] at h
   have e : cs = #[.string x] := by rw [← Array.toArray_toList (xs := cs), hx]
   rw [e, ← h.1]
  ·cases h
 ·cases h
theorem zeroWords (w : World) : (zeroValue 256).run Tryz.prog w = .ok (.agg #[S []]) w := by kernel_rfl
/-- the map that leads from ':status' to a text, and from nothing else -/
def SM (w : World) (b : Nat) (l : Bytes) : Prop := w.ownsMap Tryz.prog 9 Rw b 1 (.map [(.string statB, .lit (.string l))])
theorem key_stat : keyOf Tryz.prog 9 (S statB) = some (.string statB) := Go.WideMaps.keyOf_string_mk Tryz.underlying9 (s := ⟨statB.toArray⟩) (by decide)
theorem SM.new {w : World} {b : Nat} (h : w.heap[b]? = some (.map #[] 0)) (l : Bytes) : ∃ w', (Instr.mapUpdate 252 (.map (some b)) (S statB) (.agg #[S l])).run Tryz.prog w = .ok () w' ∧ SM w' b l ∧ w.mapTurned w' b := by
 have h0 : w.ownsMap Tryz.prog 9 Rw b 0 (.map []) := ⟨#[], 0, h, ⟨by simp, MapKept.stamped_empty 0, by simp⟩, Nat.le_refl _, rfl⟩
 obtain ⟨w', hrun, ho, hm⟩ := h0.store (Maps.string_keyed Tryz.underlying9) Tryz.underlying252 (by decide) key_stat (show Rw (.agg #[S l]) = some (.lit (.string l), []) from rfl)
 exact ⟨w', hrun, ho, hm⟩
theorem SM.none {w : World} {b : Nat} (h : w.heap[b]? = some (.map #[] 0)) : (Instr.lookup 252 (.map (some b)) (S statB) true).run Tryz.prog w = .ok (.tuple #[.agg #[S []], .bool false]) w := by
 have h0 : w.ownsMap Tryz.prog 9 Rw b 0 (.map []) := ⟨#[], 0, h, ⟨by simp, MapKept.stamped_empty 0, by simp⟩, Nat.le_refl _, rfl⟩
 obtain ⟨v, ps, hrun, hv⟩ := h0.look_ok (Maps.string_keyed Tryz.underlying9) Tryz.underlying252 (zeroWords w) (zd := .lit (.string [])) (zp := []) rfl key_stat
 have hv := Rw_inv (l := []) hv
 subst hv
 exact hrun
end Go.Proofs.YtkeeofhjdffhbaaGreatDoor
namespace Go.Proofs.YtkeeofhjdffhbaaGreatDoor
open Go.RowKit Go.Dr
theorem but_turned {w w' : World} {o : Nat} (h : w.mapTurned w' o) : But (fun k => k = o) w w' := But.grown h.grown rfl
end Go.Proofs.YtkeeofhjdffhbaaGreatDoor
namespace Go.Proofs.YtkeeofhjdffhbaaGreatDoor
open Go.RowKit Go.Dr
theorem SM.block {w w' : World} {b : Nat} {l : Bytes} (h : SM w b l) (hb : w'.heap[b]? = w.heap[b]?) : SM w' b l := by
 obtain ⟨es, clock, h1, F, h2, h3⟩ := h
 exact ⟨es, clock, hb.trans h1, F, h2, h3⟩
end Go.Proofs.YtkeeofhjdffhbaaGreatDoor
namespace Go.Dr
open Go Go.RowKit
section
variable {κ β : Type} [DecidableEq κ]
/-- Block m is a map that leads from these keys to these things. -/
def GMap (P : Program) (kt : TypeId) (R : Value → Option (DataW Unit × List MemPlace)) (L : κ → Lit) (E : β → DataW Unit) (w : World) (m : Nat) (l : List (κ × β)) : Prop :=
 ∃ D : DataW Unit, w.ownsMap P kt R m l.length D ∧ Maps.Tidy D ∧ Maps.size D = l.length ∧ (l.map (·.1)).Nodup ∧ (∀ i : κ, Maps.has D (L i) = l.any fun p => p.1 == i) ∧ ∀ p ∈ l, ∀ z, D.atKey (L p.1) z = E p.2
variable {P : Program} {kt et t : TypeId} {R : Value → Option (DataW Unit × List MemPlace)} {L : κ → Lit} {E : β → DataW Unit} {w : World} {m : Nat} {l : List (κ × β)}
theorem GMap.made (h : w.heap[m]? = some (.map #[] 0)) : GMap P kt R L E w m [] :=
 ⟨.map [], ⟨#[], 0, h, ⟨by simp, MapKept.stamped_empty 0, by simp⟩, Nat.le_refl _, rfl⟩, Maps.tidy_empty, rfl, by simp, fun _ => rfl, by simp⟩
theorem GMap.lt (h : GMap P kt R L E w m l) : m < w.heap.size := by
 obtain ⟨D, h, _⟩ := h
 exact h.lt
theorem GMap.obj (h : GMap P kt R L E w m l) : ∃ es clock, w.heap[m]? = some (.map es clock) := by
 obtain ⟨D, ⟨es, clock, h, _⟩, _⟩ := h
 exact ⟨es, clock, h⟩
theorem GMap.block {w' : World} (h : GMap P kt R L E w m l) (hb : w'.heap[m]? = w.heap[m]?) : GMap P kt R L E w' m l := by
 obtain ⟨D, ⟨es, clock, h1, h2⟩, hD⟩ := h
 exact ⟨D, ⟨es, clock, hb.trans h1, h2⟩, hD⟩
theorem GMap.drew (h : GMap P kt R L E w m l) : GMap P kt R L E w.drew m l := h.block rfl
theorem GMap.on {w' : World} (h : GMap P kt R L E w m l) (hb : Below w.heap.size w w') : GMap P kt R L E w' m l := h.block (hb.block m h.lt)
theorem GMap.but {S : Nat → Prop} {w' : World} (h : GMap P kt R L E w m l) (hf : But S w w') (hS : ¬ S m) : GMap P kt R L E w' m l := h.block (hf.block m h.lt hS)
theorem GMap.far (h : GMap P kt R L E w m l) {a : Addr} (ha : m ≠ a.block) (u : Value) : GMap P kt R L E (w.setCell a u) m l := h.block (Below.heap_setCell _ _ _ _ ha)
theorem GMap.nodup (h : GMap P kt R L E w m l) : (l.map (·.1)).Nodup := by
 obtain ⟨D, h1, h2, h3, h4, _⟩ := h
 exact h4
/-- a key that is there -/
theorem GMap.inn (h : GMap P kt R L E w m l) (K : Maps.Keyed P kt) (ht : P.underlying t = some (.map kt et)) {z0 : Value} (hz : (zeroValue et).run P w = .ok z0 w) {zd : DataW Unit} {zp : List MemPlace} (hzd : R z0 = some (zd, zp)) {kv : Value} {i : κ} (hkey : keyOf P kt kv = some (L i)) {b : β} (hm : (i, b) ∈ l) {V : Value} (inv : ∀ v ps, R v = some (E b, ps) → v = V) :
  (Instr.lookup t (.map (some m)) kv true).run P w = .ok (.tuple #[V, .bool true]) w ∧ (Instr.lookup t (.map (some m)) kv false).run P w = .ok V w := by
 obtain ⟨D, h1, h2, h3, h4, h6, h7⟩ := h
 have hh : Maps.has D (L i) = true := by rw [h6, List.any_eq_true];exact ⟨_, hm, by simp⟩
 constructor
 ·obtain ⟨v, ps, hrun, hv⟩ := h1.look_ok K ht hz hzd hkey
  rw [h7 _ hm] at hv
  rw [inv _ _ hv, hh] at hrun
  exact hrun
 ·obtain ⟨v, ps, hrun, hv⟩ := h1.lookup K ht hz hzd hkey
  rw [h7 _ hm] at hv
  rw [inv _ _ hv] at hrun
  exact hrun
/-- a key that isn't there -/
theorem GMap.out (h : GMap P kt R L E w m l) (K : Maps.Keyed P kt) (ht : P.underlying t = some (.map kt et)) {z0 : Value} (hz : (zeroValue et).run P w = .ok z0 w) {zd : DataW Unit} {zp : List MemPlace} (hzd : R z0 = some (zd, zp)) {kv : Value} {i : κ} (hkey : keyOf P kt kv = some (L i)) (hm : ∀ p ∈ l, p.1 ≠ i) (inv : ∀ v ps, R v = some (zd, ps) → v = z0) :
  (Instr.lookup t (.map (some m)) kv true).run P w = .ok (.tuple #[z0, .bool false]) w ∧ (Instr.lookup t (.map (some m)) kv false).run P w = .ok z0 w := by
 obtain ⟨D, h1, h2, h3, h4, h6, h7⟩ := h
 have hh : Maps.has D (L i) = false := by rw [h6, List.any_eq_false];intro p hp;simpa using hm p hp
 constructor
 ·obtain ⟨v, ps, hrun, hv⟩ := h1.look_ok K ht hz hzd hkey
  rw [Maps.atKey_of_not_has hh] at hv
  rw [inv _ _ hv, hh] at hrun
  exact hrun
 ·obtain ⟨v, ps, hrun, hv⟩ := h1.lookup K ht hz hzd hkey
  rw [Maps.atKey_of_not_has hh] at hv
  rw [inv _ _ hv] at hrun
  exact hrun
/-- 'm[i] = b': a key that isn't there -/
theorem GMap.put (hL : ∀ i j, i ≠ j → L i ≠ L j) (h : GMap P kt R L E w m l) (K : Maps.Keyed P kt) (ht : P.underlying t = some (.map kt et)) {kv : Value} {i : κ} (hkey : keyOf P kt kv = some (L i)) (hkl : WideAt.IsKeyLit (L i)) (hi : ∀ p ∈ l, p.1 ≠ i) (hn : l.length < maxLen) {b : β} {V : Value} {ps : List MemPlace} (hV : R V = some (E b, ps)) :
  ∃ w', (Instr.mapUpdate t (.map (some m)) kv V).run P w = .ok () w' ∧ GMap P kt R L E w' m (l ++ [(i, b)]) ∧ w.mapTurned w' m := by
 obtain ⟨D, h1, h2, h3, h4, h6, h7⟩ := h
 obtain ⟨w', hrun, ho, hm⟩ := h1.store K ht hn hkey hV
 have hh : Maps.has D (L i) = false := by rw [h6, List.any_eq_false];intro p hp;simpa using hi p hp
 have hs2 : Maps.size (D.put (L i) (E b)) = l.length + 1 := by rw [Maps.size_put h2, hh, h3];simp
 refine ⟨w', hrun, ⟨_, by simpa using ho, h2.put hkl _, by simpa using hs2, ?_, fun j => ?_, fun q hq z => ?_⟩, hm⟩
 ·rw [List.map_append, List.nodup_append]
  refine ⟨h4, by simp, fun x hx y hy e => ?_⟩
  simp only [List.map_cons, List.map_nil, List.mem_singleton] at hy
  obtain ⟨p, hp, e2⟩ := List.mem_map.1 hx
  exact hi p hp (by rw [e2, e, hy])
 ·by_cases e : j = i
  ·subst e
   rw [Maps.has_put_same h2.isMap hkl]
   simp
  ·rw [Maps.has_put_other (hL _ _ e), h6]
   have : (i == j) = false := by simpa using fun e1 => e e1.symm
   simp [this]
 ·rcases List.mem_append.1 hq with hq | hq
  ·rw [Maps.atKey_put_other (hL _ _ (hi q hq))]
   exact h7 q hq z
  ·simp at hq
   rw [hq]
   exact Maps.atKey_put_same h2.isMap hkl _ _
omit [DecidableEq κ] in
theorem nodup_mid {a b : List (κ × β)} {p : κ × β} (h : ((a ++ p :: b).map (·.1)).Nodup) : ∀ q ∈ a ++ b, q.1 ≠ p.1 := by
 intro q hq e
 simp only [List.map_append, List.map_cons, List.nodup_append, List.nodup_cons, List.mem_append, List.mem_cons] at h hq
 obtain ⟨-, ⟨h8, -⟩, h9⟩ := h
 rcases hq with hq | hq
 ·exact h9 q.1 (List.mem_map_of_mem hq) p.1 (by simp) e
 ·exact h8 (e ▸ List.mem_map_of_mem hq)
/-- 'm[i] = b': a key that is there -/
theorem GMap.set (hL : ∀ i j, i ≠ j → L i ≠ L j) {a c : List (κ × β)} {i : κ} {b0 : β} (h : GMap P kt R L E w m (a ++ (i, b0) :: c)) (K : Maps.Keyed P kt) (ht : P.underlying t = some (.map kt et)) {kv : Value} (hkey : keyOf P kt kv = some (L i)) (hkl : WideAt.IsKeyLit (L i)) (hn : (a ++ (i, b0) :: c).length < maxLen) {b : β} {V : Value} {ps : List MemPlace} (hV : R V = some (E b, ps)) :
  ∃ w', (Instr.mapUpdate t (.map (some m)) kv V).run P w = .ok () w' ∧ GMap P kt R L E w' m (a ++ (i, b) :: c) ∧ w.mapTurned w' m := by
 obtain ⟨D, h1, h2, h3, h4, h6, h7⟩ := h
 obtain ⟨w', hrun, ho, hm⟩ := h1.store K ht hn hkey hV
 have hh : Maps.has D (L i) = true := by rw [h6, List.any_eq_true];exact ⟨(i, b0), by simp, by simp⟩
 have hs2 : Maps.size (D.put (L i) (E b)) = (a ++ (i, b) :: c).length := by rw [Maps.size_put h2, hh, h3];simp
 have hnd := nodup_mid h4
 refine ⟨w', hrun, ⟨_, by rw [← hs2];exact World.ownsMap.tight ho, h2.put hkl _, hs2, by simpa using h4, fun j => ?_, fun q hq z => ?_⟩, hm⟩
 ·by_cases e : j = i
  ·subst e
   rw [Maps.has_put_same h2.isMap hkl]
   simp
  ·rw [Maps.has_put_other (hL _ _ e), h6]
   simp
 ·rcases List.mem_append.1 hq with hq | hq
  ·rw [Maps.atKey_put_other (hL _ _ (hnd q (List.mem_append.2 (.inl hq))))]
   exact h7 q (List.mem_append.2 (.inl hq)) z
  ·rcases List.mem_cons.1 hq with rfl | hq
   ·exact Maps.atKey_put_same h2.isMap hkl _ _
   ·rw [Maps.atKey_put_other (hL _ _ (hnd q (List.mem_append.2 (.inr hq))))]
    exact h7 q (List.mem_append.2 (.inr (.tail _ hq))) z
/-- 'delete(m, i)': a key that is there -/
theorem GMap.drop (hL : ∀ i j, i ≠ j → L i ≠ L j) {a c : List (κ × β)} {i : κ} {b0 : β} (h : GMap P kt R L E w m (a ++ (i, b0) :: c)) (K : Maps.Keyed P kt) (ht : P.underlying t = some (.map kt et)) {kv : Value} (hkey : keyOf P kt kv = some (L i)) (ty : TypeId) :
  ∃ w', (Builtin.delete_ #[t, kt] ty #[.map (some m), kv]).run P w = .ok (.tuple #[]) w' ∧ GMap P kt R L E w' m (a ++ c) ∧ w.mapTurned w' m := by
 obtain ⟨D, h1, h2, h3, h4, h6, h7⟩ := h
 obtain ⟨w', hrun, ho, hm⟩ := h1.drop K ht hkey ty
 have hh : Maps.has D (L i) = true := by rw [h6, List.any_eq_true];exact ⟨(i, b0), by simp, by simp⟩
 have hsz := Maps.size_del (k := L i) h2
 rw [hh] at hsz
 have hs2 : Maps.size (D.del (L i)) = (a ++ c).length := by simp at h3 hsz ⊢;omega
 have hnd := nodup_mid h4
 refine ⟨w', hrun, ⟨_, by rw [← hs2];exact World.ownsMap.tight ho, h2.del _, hs2, ?_, fun j => ?_, fun q hq z => ?_⟩, hm⟩
 ·simp only [List.map_append, List.map_cons, List.nodup_append, List.nodup_cons, List.mem_cons] at h4 ⊢
  exact ⟨h4.1, h4.2.1.2, fun x hx y hy => h4.2.2 x hx y (.inr hy)⟩
 ·by_cases e : j = i
  ·subst e
   rw [Maps.has_del_same]
   exact (List.any_eq_false.2 fun q hq => by simpa using hnd q hq).symm
  ·rw [Maps.has_del_other (hL _ _ e), h6]
   have : (i == j) = false := by simpa using fun e1 => e e1.symm
   simp [this]
 ·rw [Maps.atKey_del_other (hL _ _ (hnd q hq))]
  rcases List.mem_append.1 hq with hq | hq
  ·exact h7 q (List.mem_append.2 (.inl hq)) z
  ·exact h7 q (List.mem_append.2 (.inr (.tail _ hq))) z
/-- .. a key that isn't there -/
theorem GMap.dropNone (hL : ∀ i j, i ≠ j → L i ≠ L j) {i : κ} (h : GMap P kt R L E w m l) (hi : ∀ p ∈ l, p.1 ≠ i) (K : Maps.Keyed P kt) (ht : P.underlying t = some (.map kt et)) {kv : Value} (hkey : keyOf P kt kv = some (L i)) (ty : TypeId) :
  ∃ w', (Builtin.delete_ #[t, kt] ty #[.map (some m), kv]).run P w = .ok (.tuple #[]) w' ∧ GMap P kt R L E w' m l ∧ w.mapTurned w' m := by
 obtain ⟨D, h1, h2, h3, h4, h6, h7⟩ := h
 obtain ⟨w', hrun, ho, hm⟩ := h1.drop K ht hkey ty
 have hh : Maps.has D (L i) = false := by rw [h6, List.any_eq_false];intro p hp;simpa using hi p hp
 have hsz := Maps.size_del (k := L i) h2
 rw [hh] at hsz
 have hs2 : Maps.size (D.del (L i)) = l.length := by simp at h3 hsz ⊢;omega
 refine ⟨w', hrun, ⟨_, by rw [← hs2];exact World.ownsMap.tight ho, h2.del _, hs2, h4, fun j => ?_, fun q hq z => ?_⟩, hm⟩
 ·by_cases e : j = i
  ·subst e
   rw [Maps.has_del_same]
   exact (List.any_eq_false.2 fun q hq => by simpa using hi q hq).symm
  ·rw [Maps.has_del_other (hL _ _ e), h6]
 ·rw [Maps.atKey_del_other (hL _ _ (hi q hq))]
  exact h7 q hq z
theorem GMap.len (h : GMap P kt R L E w m l) (ht : P.underlying t = some (.map kt et)) (ty : TypeId) : (Builtin.len_ #[t] ty #[.map (some m)]).run P w = .ok (.int .i64 (l.length : Nat)) w := by
 obtain ⟨D, h1, h2, h3, _⟩ := h
 rw [← h3]
 exact h1.len ht ty
end
abbrev Li : Int → Lit := Lit.int .i64
theorem Li_ne : ∀ i j : Int, i ≠ j → Li i ≠ Li j := fun _ _ h e => h (by cases e;rfl)
theorem Li_key (i : Int) : WideAt.IsKeyLit (Li i) := by trivial
abbrev Ls : Bytes → Lit := Lit.string
theorem Ls_ne : ∀ i j : Bytes, i ≠ j → Ls i ≠ Ls j := fun _ _ h e => h (by cases e;rfl)
theorem Ls_key (i : Bytes) : WideAt.IsKeyLit (Ls i) := by trivial
/-- How a number reads. -/
def Ri : Value → Option (DataW Unit × List MemPlace)
 | .int .i64 x => some (.lit (.int .i64 x), [])
 | _ => none
theorem Ri_inv {v : Value} {x : Int} {ps : List MemPlace} (h : Ri v = some (.lit (.int .i64 x), ps)) : v = .int .i64 x := by
 unfold Ri at h
 split at h
 ·simp only [Option.some.injEq, Prod.mk.injEq, DataW.lit.injEq, Lit.int.injEq, true_and] at h
  rw [h.1]
 ·cases h
abbrev Ei : Int → DataW Unit := fun x => .lit (.int .i64 x)
abbrev En' : Nat → DataW Unit := fun x => .lit (.int .i64 (x : Int))
theorem wf_small {i : Int} (h0 : -9223372036854775808 ≤ i) (h1 : i < 9223372036854775808) : (Lit.int .i64 i).wf = true := by
 simp [Lit.wf, IntKind.min, IntKind.max, IntKind.bits, IntKind.signed]
 omega
end Go.Dr
namespace Go.Proofs.YtkeeofhjdffhbaaGreatDoor
open Go Go.RowKit Go.Dr
/-- a live stream -/
structure Sp where
 came : Int := 0
 said : Int := 0
 told : Bool := false
 headed : Bool := false
 pend : Bytes := []
 ends : Bool := false
 st : Int
 deriving DecidableEq
def Sp.cells (s : Sp) (pv : Value) : Array Value := #[.int .i64 s.came, .int .i64 s.said, .bool s.told, .bool s.headed, pv, .bool s.ends, .int .i64 s.st]
/-- a connection -/
structure Cq where
 str : Int
 win : Int
 tab : Int
 lst : Int
 frames : Int := 16384
 live : List (Int × Sp) := []
 closed : List Int := []
 how : List (Int × Int) := []
 last : Int := 0
 fo : Int := 0
 endOf : Bool := false
 greeted : Bool := false
 drained : Bool := false
 floor : Int := 0
 over : Bool := false
 bytes : Bytes := []
 news : List Value := []
 pre : Nat := 0
 all : Int := 65535
 first : Int := 65535
 off : List (Int × Int) := []
 tm : Int := 4096
 brk : Bool := false
 told : Int := 4096
 least : Int := 4096
/-- the names of a connection's blocks -/
structure Nm where
 B : Nat
 c : Nat
 fb : Nat
 d : Nat
 t1 : Nat
 e : Nat
 t2 : Nat
 bk : Nat
 lm : Nat
 hm : Nat
 om : Nat
 b1 : Nat
 n1 : Nat
 b2 : Nat
 n2 : Nat
/-- the rows of a connection, the blocks of its streams, the rows of what waits in them -/
structure Mm where
 bv : Value := .slice none 0 0
 nv : Value := .slice none 0 0
 cv : Value := .slice none 0 0
 sb : Int → Nat
 sv : Int → Value
def ccells (n : Nm) (m : Mm) (q : Cq) : Array Value := #[.int .i64 q.str, .int .i64 q.win, .int .i64 q.tab, .int .i64 q.lst, Ptr n.fb, Ptr n.d, Ptr n.e, Ptr n.bk, .int .i64 q.frames, .map (some n.lm), m.cv, .map (some n.hm), .int .i64 q.last, .slice none 0 0, .int .i64 q.fo, .bool q.endOf, .bool q.greeted, .bool q.drained, .int .i64 q.floor, .bool q.over, m.bv, m.nv]
/-- all blocks of a connection -/
def Foot (n : Nm) (m : Mm) (q : Cq) (g : Nat) : Prop :=
 (g = n.c ∨ g = n.fb ∨ g = n.d ∨ g = n.t1 ∨ g = n.e ∨ g = n.t2 ∨ g = n.bk ∨ g = n.lm ∨ g = n.hm ∨ g = n.om) ∨ (g = n.b1 ∨ g = n.n1 ∨ g = n.b2 ∨ g = n.n2) ∨ (some g = m.bv.ownBlock ∨ some g = m.nv.ownBlock ∨ some g = m.cv.ownBlock) ∨ ∃ p ∈ q.live, g = m.sb p.1 ∨ some g = (m.sv p.1).ownBlock
/-- what kind a block is of: 0: a map;k + 1: cells of type k -/
def kd (w : World) (g : Nat) : Nat := match w.heap[g]? with
 | some (.cells _ t _) => t + 1
 | some (.map _ _) => 0
 | _ => 1000000
theorem kd_blk {w : World} {g : Nat} {t : TypeId} {xs : Array Value} (h : Blk w g t xs) : kd w g = t + 1 := by
 have h' : w.heap[g]? = some (.cells xs t (0, 0)) := h
 simp only [kd, h']
theorem kd_map {w : World} {g n : Nat} {es : Array MapEntry} (h : w.heap[g]? = some (.map es n)) : kd w g = 0 := by simp only [kd, h]
theorem own_kin {w : World} {base : Nat} {e : TypeId} {size : Nat} {v : Value} {n : Nat} {xs : List Value} {g : Nat} (h : w.ownsRow base e size v n xs) (hv : v.ownBlock = some g) : ∃ cur, w.heap[g]? = some (.cells cur e (0, 0)) := by
 rcases h.2 with ⟨rfl, _⟩ | ⟨g', cap, cur, rfl, _, hg, _⟩
 ·cases hv
 ·cases hv
  exact ⟨cur, hg⟩
theorem kd_own {w : World} {base : Nat} {e : TypeId} {size : Nat} {v : Value} {n : Nat} {xs : List Value} (h : w.ownsRow base e size v n xs) {g : Nat} (hg : some g = v.ownBlock) : kd w g = e + 1 := by
 obtain ⟨cur, hc⟩ := own_kin h hg.symm
 simp only [kd, hc]
theorem own_lt {w : World} {base : Nat} {e : TypeId} {size : Nat} {v : Value} {n : Nat} {xs : List Value} (h : w.ownsRow base e size v n xs) {g : Nat} (hg : some g = v.ownBlock) : base ≤ g ∧ g < w.heap.size := h.lt g hg.symm
theorem own_same {w w' : World} {base : Nat} {e : TypeId} {size : Nat} {v : Value} {n : Nat} {xs : List Value} (h : w.ownsRow base e size v n xs) (hb : ∀ g, some g = v.ownBlock → w'.heap[g]? = w.heap[g]?) : w'.ownsRow base e size v n xs := by
 refine ⟨h.1, ?_⟩
 rcases h.2 with hn | ⟨g, cap, cur, rfl, hbg, hgg, rest⟩
 ·exact .inl hn
 ·exact .inr ⟨g, cap, cur, rfl, hbg, (hb g rfl).trans hgg, rest⟩
abbrev LMp (w : World) (m : Nat) (l : List (Int × Nat)) : Prop := GMap Tryz.prog 3 Rp Li En' w m l
abbrev IMp (w : World) (m : Nat) (l : List (Int × Int)) : Prop := GMap Tryz.prog 3 Ri Li Ei w m l
structure Cx (w : World) (n : Nm) (m : Mm) (q : Cq) : Prop where
 blk : Blk w n.c 126 (ccells n m q)
 feed : Blk w n.fb 158 #[.int .i64 ((16384 : Nat) : Int), .int .i64 (q.pre : Int), .slice none 0 0, .bool false]
 dec : Blk w n.d 163 #[.int .i64 q.tab, .int .i64 q.lst, Ptr n.t1, .bool q.brk]
 t1 : Blk w n.t1 210 #[.int .i64 q.tm, .int .i64 0, .slice none 0 0, .int .i64 0, .map (some n.b1), .map (some n.n1)]
 b1 : w.heap[n.b1]? = some (.map #[] 0)
 n1 : w.heap[n.n1]? = some (.map #[] 0)
 enc : Blk w n.e 181 #[.int .i64 4096, .int .i64 q.told, .int .i64 q.least, Ptr n.t2]
 t2 : Blk w n.t2 210 #[.int .i64 4096, .int .i64 0, .slice none 0 0, .int .i64 0, .map (some n.b2), .map (some n.n2)]
 b2 : w.heap[n.b2]? = some (.map #[] 0)
 n2 : w.heap[n.n2]? = some (.map #[] 0)
 book : Blk w n.bk 183 #[.int .i64 q.all, .int .i64 q.first, .map (some n.om)]
 off : IMp w n.om q.off
 how : IMp w n.hm q.how
 live : LMp w n.lm (q.live.map fun p => (p.1, m.sb p.1))
 side : ∀ p ∈ q.live, Blk w (m.sb p.1) 140 (p.2.cells (m.sv p.1))
 pend : ∀ p ∈ q.live, w.ownsRow n.B 5 1 (m.sv p.1) p.2.pend.length (p.2.pend.map B8)
 bytes : w.ownsRow n.B 5 1 m.bv q.bytes.length (q.bytes.map B8)
 news : ∃ k, w.ownsRow n.B 84 10 m.nv k q.news
 closed : w.ownsRow n.B 3 1 m.cv q.closed.length (q.closed.map fun x => .int .i64 x)
 tt : n.t1 ≠ n.t2
 maps : n.lm ≠ n.hm ∧ n.lm ≠ n.om ∧ n.hm ≠ n.om ∧ (n.b1 ≠ n.lm ∧ n.b1 ≠ n.hm ∧ n.b1 ≠ n.om) ∧ (n.n1 ≠ n.lm ∧ n.n1 ≠ n.hm ∧ n.n1 ≠ n.om) ∧ (n.b2 ≠ n.lm ∧ n.b2 ≠ n.hm ∧ n.b2 ≠ n.om) ∧ (n.n2 ≠ n.lm ∧ n.n2 ≠ n.hm ∧ n.n2 ≠ n.om)
 bp : ∀ p ∈ q.live, ∀ g, some g = (m.sv p.1).ownBlock → some g ≠ m.bv.ownBlock
 ss : ∀ p ∈ q.live, ∀ p' ∈ q.live, p.1 ≠ p'.1 → m.sb p.1 ≠ m.sb p'.1 ∧ ∀ g, some g = (m.sv p.1).ownBlock → some g ≠ (m.sv p'.1).ownBlock
 lo : ∀ g, Foot n m q g → n.B ≤ g
variable {w w' : World} {n : Nm} {m : Mm} {q : Cq}
theorem Cx.foot_lt (h : Cx w n m q) {g : Nat} (hg : Foot n m q g) : g < w.heap.size := by
 rcases hg with hg | hg | hg | ⟨p, hp, hg⟩
 ·rcases hg with rfl | rfl | rfl | rfl | rfl | rfl | rfl | rfl | rfl | rfl
  ·exact h.blk.lt
  ·exact h.feed.lt
  ·exact h.dec.lt
  ·exact h.t1.lt
  ·exact h.enc.lt
  ·exact h.t2.lt
  ·exact h.book.lt
  ·exact h.live.lt
  ·exact h.how.lt
  ·exact h.off.lt
 ·rcases hg with rfl | rfl | rfl | rfl
  ·exact lt_of_block h.b1
  ·exact lt_of_block h.n1
  ·exact lt_of_block h.b2
  ·exact lt_of_block h.n2
 ·obtain ⟨k, hn⟩ := h.news
  rcases hg with hg | hg | hg
  ·exact (own_lt h.bytes hg).2
  ·exact (own_lt hn hg).2
  ·exact (own_lt h.closed hg).2
 ·rcases hg with rfl | hg
  ·exact (h.side p hp).lt
  ·exact (own_lt (h.pend p hp) hg).2
theorem Foot.c (n : Nm) (m : Mm) (q : Cq) : Foot n m q n.c := .inl (.inl rfl)
/-- a connection stays where its blocks do -/
theorem Cx.keep (h : Cx w n m q) (hk : ∀ g, Foot n m q g → w'.heap[g]? = w.heap[g]?) : Cx w' n m q where
 blk := h.blk.block (hk _ (.inl (by simp)))
 feed := h.feed.block (hk _ (.inl (by simp)))
 dec := h.dec.block (hk _ (.inl (by simp)))
 t1 := h.t1.block (hk _ (.inl (by simp)))
 b1 := (hk _ (.inr (.inl (by simp)))).trans h.b1
 n1 := (hk _ (.inr (.inl (by simp)))).trans h.n1
 enc := h.enc.block (hk _ (.inl (by simp)))
 t2 := h.t2.block (hk _ (.inl (by simp)))
 b2 := (hk _ (.inr (.inl (by simp)))).trans h.b2
 n2 := (hk _ (.inr (.inl (by simp)))).trans h.n2
 book := h.book.block (hk _ (.inl (by simp)))
 off := h.off.block (hk _ (.inl (by simp)))
 how := h.how.block (hk _ (.inl (by simp)))
 live := h.live.block (hk _ (.inl (by simp)))
 side := fun p hp => (h.side p hp).block (hk _ (.inr (.inr (.inr ⟨p, hp, .inl rfl⟩))))
 pend := fun p hp => own_same (h.pend p hp) fun g hg => hk _ (.inr (.inr (.inr ⟨p, hp, .inr hg⟩)))
 bytes := own_same h.bytes fun g hg => hk _ (.inr (.inr (.inl (.inl hg))))
 news := let ⟨k, hn⟩ := h.news;⟨k, own_same hn fun g hg => hk _ (.inr (.inr (.inl (.inr (.inl hg)))))⟩
 closed := own_same h.closed fun g hg => hk _ (.inr (.inr (.inl (.inr (.inr hg)))))
 tt := h.tt
 maps := h.maps
 bp := h.bp
 ss := h.ss
 lo := h.lo
theorem Cx.on (h : Cx w n m q) (hb : Below w.heap.size w w') : Cx w' n m q := h.keep fun g hg => hb.block g (h.foot_lt hg)
theorem Cx.drew (h : Cx w n m q) : Cx w.drew n m q := h.keep fun _ _ => rfl
/-- the kinds of a connection's blocks -/
theorem Cx.kinds (h : Cx w n m q) : kd w n.c = 126 + 1 ∧ kd w n.fb = 158 + 1 ∧ kd w n.d = 163 + 1 ∧ kd w n.t1 = 210 + 1 ∧ kd w n.e = 181 + 1 ∧ kd w n.t2 = 210 + 1 ∧ kd w n.bk = 183 + 1 ∧ kd w n.lm = 0 ∧ kd w n.hm = 0 ∧ kd w n.om = 0 ∧ kd w n.b1 = 0 ∧ kd w n.n1 = 0 ∧ kd w n.b2 = 0 ∧ kd w n.n2 = 0 ∧ (∀ g, some g = m.bv.ownBlock → kd w g = 5 + 1) ∧ (∀ g, some g = m.nv.ownBlock → kd w g = 84 + 1) ∧ (∀ g, some g = m.cv.ownBlock → kd w g = 3 + 1) ∧ (∀ p ∈ q.live, kd w (m.sb p.1) = 140 + 1 ∧ ∀ g, some g = (m.sv p.1).ownBlock → kd w g = 5 + 1) := by
 obtain ⟨k, hn⟩ := h.news
 obtain ⟨_, _, hl⟩ := h.live.obj
 obtain ⟨_, _, hh⟩ := h.how.obj
 obtain ⟨_, _, ho⟩ := h.off.obj
 exact ⟨kd_blk h.blk, kd_blk h.feed, kd_blk h.dec, kd_blk h.t1, kd_blk h.enc, kd_blk h.t2, kd_blk h.book, kd_map hl, kd_map hh, kd_map ho, kd_map h.b1, kd_map h.n1, kd_map h.b2, kd_map h.n2, fun g hg => kd_own h.bytes hg, fun g hg => kd_own hn hg, fun g hg => kd_own h.closed hg, fun p hp => ⟨kd_blk (h.side p hp), fun g hg => kd_own (h.pend p hp) hg⟩⟩
/-- a connection with all its blocks F -/
def Cw (w : World) (n : Nm) (q : Cq) (F : Nat → Prop) : Prop := ∃ m, Cx w n m q ∧ F = Foot n m q
theorem Cw.on {F : Nat → Prop} (h : Cw w n q F) (hb : Below w.heap.size w w') : Cw w' n q F := let ⟨m, h1, h2⟩ := h;⟨m, h1.on hb, h2⟩
theorem Cw.drew {F : Nat → Prop} (h : Cw w n q F) : Cw w.drew n q F := let ⟨m, h1, h2⟩ := h;⟨m, h1.drew, h2⟩
theorem Cw.lt {F : Nat → Prop} (h : Cw w n q F) {g : Nat} (hg : F g) : g < w.heap.size := by
 obtain ⟨m, h1, rfl⟩ := h
 exact h1.foot_lt hg
theorem Cw.lo {F : Nat → Prop} (h : Cw w n q F) {g : Nat} (hg : F g) : n.B ≤ g := by
 obtain ⟨m, h1, rfl⟩ := h
 exact h1.lo g hg
/-- what became of a connection -/
def Goes (w : World) (n : Nm) (F : Nat → Prop) (w' : World) (q' : Cq) : Prop := ∃ F', Cw w' n q' F' ∧ But F w w' ∧ ∀ g, F' g → F g ∨ w.heap.size ≤ g
theorem Goes.trans {a b c : World} {n : Nm} {F : Nat → Prop} {q q' : Cq} (h : Goes a n F b q) (k : ∀ F1, Cw b n q F1 → Goes b n F1 c q') : Goes a n F c q' := by
 obtain ⟨F1, h1, h2, h3⟩ := h
 obtain ⟨F2, k1, k2, k3⟩ := k F1 h1
 refine ⟨F2, k1, h2.trans2 k2 h3, fun g hg => ?_⟩
 rcases k3 g hg with hg | hg
 ·exact h3 g hg
 ·exact .inr (Nat.le_trans h2.size hg)
theorem Goes.refl {F : Nat → Prop} (h : Cw w n q F) : Goes w n F w q := ⟨F, h, But.refl _ _, fun _ hg => .inl hg⟩
theorem Goes.on {F : Nat → Prop} {w1 w2 : World} (h : Goes w n F w1 q) (hb : Below w1.heap.size w1 w2) : Goes w n F w2 q := by
 obtain ⟨F1, h1, h2, h3⟩ := h
 exact ⟨F1, h1.on hb, h2.trans (But.of_below hb), h3⟩
theorem Goes.first {F : Nat → Prop} {w1 w2 : World} (h : Cw w n q F) (hb : Below w.heap.size w w1) {q' : Cq} (hg : Goes w1 n F w2 q') : Goes w n F w2 q' := by
 obtain ⟨F1, h1, h2, h3⟩ := hg
 refine ⟨F1, h1, (But.of_below hb).trans h2, fun g hg => ?_⟩
 rcases h3 g hg with hg | hg
 ·exact .inl hg
 ·exact .inr (Nat.le_trans hb.size hg)
theorem Goes.below {F : Nat → Prop} (h0 : Cw w n q F) {q' : Cq} (h : Goes w n F w' q') (hB : n.B ≤ w.heap.size) : Below n.B w w' := by
 obtain ⟨F1, h1, h2, h3⟩ := h
 exact h2.below (fun k hk => h0.lo hk) hB
/-- .. its blocks named -/
structure GoesF (w : World) (n : Nm) (F : Nat → Prop) (w' : World) (q' : Cq) (F' : Nat → Prop) : Prop where
 h : Cw w' n q' F'
 b : But F w w'
 s : ∀ g, F' g → F g ∨ w.heap.size ≤ g
theorem GoesF.goes {F F' : Nat → Prop} (h : GoesF w n F w' q F') : Goes w n F w' q := ⟨F', h.h, h.b, h.s⟩
theorem GoesF.refl {F : Nat → Prop} (h : Cw w n q F) : GoesF w n F w q F := ⟨h, But.refl _ _, fun _ hg => .inl hg⟩
/-- one step more -/
theorem GoesF.step {F F1 : Nat → Prop} {w1 w2 : World} {q1 q2 : Cq} (h : GoesF w n F w1 q1 F1) (k : Goes w1 n F1 w2 q2) : ∃ F2, GoesF w n F w2 q2 F2 := by
 obtain ⟨F2, k1, k2, k3⟩ := k
 refine ⟨F2, k1, h.b.trans2 k2 h.s, fun g hg => ?_⟩
 rcases k3 g hg with hg | hg
 ·exact h.s g hg
 ·exact .inr (Nat.le_trans h.b.size hg)
theorem GoesF.on {F F1 : Nat → Prop} {w1 w2 : World} (h : GoesF w n F w1 q F1) (hb : Below w1.heap.size w1 w2) : GoesF w n F w2 q F1 := ⟨h.h.on hb, h.b.trans (But.of_below hb), h.s⟩
theorem GoesF.comp {F F1 F2 : Nat → Prop} {w1 w2 : World} {q1 q2 : Cq} (h : GoesF w n F w1 q1 F1) (k : GoesF w1 n F1 w2 q2 F2) : GoesF w n F w2 q2 F2 := ⟨k.h, h.b.trans2 k.b h.s, fun g hg => by
 rcases k.s g hg with hg | hg
 ·exact h.s g hg
 ·exact .inr (Nat.le_trans h.b.size hg)⟩
end Go.Proofs.YtkeeofhjdffhbaaGreatDoor
