/- Parts of the proof of DealLacks_holds: the texts Shq0 Shf1 Shp Shq1. -/
import Derived.LaidEqlPtr
import Derived.Deep.RegionHeld3
import Derived.Deep.DeepCutAuto
import Derived.Deep.RegionWith
import Derived.Test.YtahapblgmehngaaGreatDoorProg
import Derived.Test.YtahapblgmehngaaGreatDoorC22
import Derived.Test.YtahapblgmehngaaGreatDoorC2
import Derived.Test.YtahapblgmehngaaGreatDoorC23
set_option linter.unusedSimpArgs false
set_option linter.unusedVariables false
set_option linter.unnecessarySimpa false
namespace Go.Dr
open Go Go.RowKit
theorem run_neq_same {P : Program} (w : World) {tp te : TypeId} {j : TypeInfo} (a : Addr) (hp : P.underlying tp = some (.pointer te)) (hte : P.info? te = some j) :
    (binOp .neq tp (.pointer (some a)) (.pointer (some a))).run P w = .ok (.bool false) w := by
  have h : ∀ d : Nat, (Op.equalIn (d + 1) tp (.pointer (some a)) (.pointer (some a))).run P w = .ok true w := fun d => by
    simp [Op.equalIn, run_underlying hp, sizeOf, typeInfo, hte, run_sameAddr_same]
  simp only [binOp]
  simp [Op.equal, Op.maxDepth, h 9999]
theorem run_neq_other {P : Program} (w : World) {tp te : TypeId} {j : TypeInfo} {a b : Addr} {ca cb : Array Value} {ta tb : TypeId} (hp : P.underlying tp = some (.pointer te)) (hte : P.info? te = some j) (hsz : j.size ≠ 0)
    (hne : a ≠ b) (ha : w.heap[a.block]? = some (.cells ca ta (0, 0))) (hb : w.heap[b.block]? = some (.cells cb tb (0, 0))) :
    (binOp .neq tp (.pointer (some a)) (.pointer (some b))).run P w = .ok (.bool true) w := by
  have h : ∀ d : Nat, (Op.equalIn (d + 1) tp (.pointer (some a)) (.pointer (some b))).run P w = .ok false w := fun d => by
    simp [Op.equalIn, run_underlying hp, sizeOf, typeInfo, hte, hsz, run_sameAddr_other w hne ha hb]
  simp only [binOp]
  simp [Op.equal, Op.maxDepth, h 9999]
end Go.Dr
namespace Go.Proofs.YtahapblgmehngaaGreatDoor
open Go.RowKit Go.Dr
theorem linkSize : (Tryz.prog.info? 97).map (·.size) = some 11 := by kernel_rfl
theorem neq_link {W : World} {x a : Nat} {cx ca : Array Value} (hx : Blk W x 97 cx) (ha : Blk W a 97 ca) (c : Bool) (hc : c = !decide (x = a)) : (binOp .neq 95 (Ptr x) (Ptr a)).run Tryz.prog W = .ok (.bool c) W := by
  obtain ⟨j, hj, hjs⟩ := Option.map_eq_some_iff.1 linkSize
  subst hc
  by_cases h : x = a
  · subst h
    rw [decide_eq_true rfl]
    exact run_neq_same (P := Tryz.prog) W (⟨x, 0, none⟩ : Addr) Tryz.underlying95 hj
  · rw [decide_eq_false h]
    exact run_neq_other (P := Tryz.prog) W (a := ⟨x, 0, none⟩) (b := ⟨a, 0, none⟩) Tryz.underlying95 hj (by rw [hjs]; decide) (by intro e; cases e; exact h rfl) hx ha
end Go.Proofs.YtahapblgmehngaaGreatDoor

namespace Go.Proofs.YtahapblgmehngaaGreatDoor
open Go.RowKit Go.Dr

set_option maxRecDepth 100000 in
set_option maxHeartbeats 2000000 in
theorem out_any (L p q : Nat) (u v : Value) (w : World) (h9 : w.cell? ⟨L, 9, none⟩ = some (Ptr p)) (h10 : w.cell? ⟨L, 10, none⟩ = some (Ptr q)) (hp : p ≠ L) (hq : q ≠ L)
    (k10 : w.cell? ⟨p, 10, none⟩ = some u) (f10 : w.frozen? ⟨p, 10, none⟩ = false) (k9 : w.cell? ⟨q, 9, none⟩ = some v) (f9 : w.frozen? ⟨q, 9, none⟩ = false) :
    Calls Tryz.prog 64 #[Ptr L] w fun e w' => e = .returned (.tuple #[]) ∧ w' = ((w.setCell ⟨p, 10, none⟩ (Ptr q)).setCell ⟨q, 9, none⟩ (Ptr p)).drew := by
  have hp' : ¬ p = L := hp
  have hq' : ¬ q = L := hq
  have hp2 : ¬ L = p := fun e => hp e.symm
  have hq2 : ¬ L = q := fun e => hq e.symm
  have s9 : (w.setCell ⟨p, 10, none⟩ (Ptr q)).cell? ⟨q, 9, none⟩ = some v := by
    rw [World.cell?_setCell_other _ _ _ _ (by intro e; cases e)]; exact k9
  go_enter Tryz.func64, Tryz.ntmps64
  go_wp2_with fail
  go_region_held3 (fun w' => w'.cell? ⟨L, 9, none⟩ = some (Ptr p) ∧ w'.cell? ⟨L, 10, none⟩ = some (Ptr q))
    (first | go_keep)
    (fail)
  all_goals
    go_wp2
    go_end0
    exact ⟨rfl, rfl⟩

/-- A link is laid at the end of the ring. -/
theorem used_any (s L R a : Nat) (u v x y : Value) (w : World) (c3 : w.cell? ⟨s, 3, none⟩ = some (Ptr R)) (r9 : w.cell? ⟨R, 9, none⟩ = some (Ptr a)) (fr9 : w.frozen? ⟨R, 9, none⟩ = false)
    (l9 : w.cell? ⟨L, 9, none⟩ = some u) (fl9 : w.frozen? ⟨L, 9, none⟩ = false) (l10 : w.cell? ⟨L, 10, none⟩ = some v) (fl10 : w.frozen? ⟨L, 10, none⟩ = false) (a10 : w.cell? ⟨a, 10, none⟩ = some x) (fa10 : w.frozen? ⟨a, 10, none⟩ = false)
    (hs : s ≠ L) (hR : R ≠ L) (ha : a ≠ L) (hsa : s ≠ a) (hsR : s ≠ R) :
    Calls Tryz.prog 65 #[Ptr s, Ptr L] w fun e w' => e = .returned (.tuple #[]) ∧ w' = ((((w.setCell ⟨L, 9, none⟩ (Ptr a)).setCell ⟨L, 10, none⟩ (Ptr R)).setCell ⟨a, 10, none⟩ (Ptr L)).setCell ⟨R, 9, none⟩ (Ptr L)).drew := by
  have n1 : ¬ s = L := hs
  have n2 : ¬ R = L := hR
  have n3 : ¬ a = L := ha
  have n4 : ¬ L = s := fun e => hs e.symm
  have n5 : ¬ L = R := fun e => hR e.symm
  have n6 : ¬ L = a := fun e => ha e.symm
  have b10 : (w.setCell ⟨L, 9, none⟩ (Ptr a)).cell? ⟨L, 10, none⟩ = some v := by rw [World.cell?_setCell_other _ _ _ _ (by intro e; cases e)]; exact l10
  obtain ⟨w2, ew⟩ : ∃ w2 : World, w2 = ((w.setCell ⟨L, 9, none⟩ (Ptr a)).setCell ⟨L, 10, none⟩ (Ptr R)).drew := ⟨_, rfl⟩
  have far : ∀ (b o : Nat) (z : Value), b ≠ L → w.cell? ⟨b, o, none⟩ = some z → w2.cell? ⟨b, o, none⟩ = some z := fun b o z hb h => by
    rw [ew]
    show (((w.setCell ⟨L, 9, none⟩ (Ptr a)).setCell ⟨L, 10, none⟩ (Ptr R))).cell? ⟨b, o, none⟩ = some z
    rw [World.cell?_setCell_other _ _ _ _ (by intro e; cases e; exact hb rfl), World.cell?_setCell_other _ _ _ _ (by intro e; cases e; exact hb rfl)]
    exact h
  have d3 := far s 3 _ hs c3
  have d9 := far R 9 _ hR r9
  have d10 := far a 10 _ ha a10
  have g10 : w2.frozen? ⟨a, 10, none⟩ = false := by rw [ew]; simpa using fa10
  have g9 : (w2.setCell ⟨a, 10, none⟩ (Ptr L)).frozen? ⟨R, 9, none⟩ = false := by rw [ew]; simpa using fr9
  have e3 : (w2.setCell ⟨a, 10, none⟩ (Ptr L)).cell? ⟨s, 3, none⟩ = some (Ptr R) := by rw [World.cell?_setCell_other _ _ _ _ (by intro e; cases e)]; exact d3
  have e9 : (w2.setCell ⟨a, 10, none⟩ (Ptr L)).cell? ⟨R, 9, none⟩ = some (Ptr a) := by rw [World.cell?_setCell_other _ _ _ _ (by intro e; cases e)]; exact d9
  have HW := Lib.hid ew
  go_enter Tryz.func65, Tryz.ntmps65
  go_wp2_with fail
  go_region_held3 (fun w' => w'.cell? ⟨s, 3, none⟩ = some (Ptr R) ∧ w'.cell? ⟨R, 9, none⟩ = some (Ptr a))
    (first | go_keep)
    (fail)
  all_goals
    rw [← HW.out]
    go_wp2
    go_end0
    exact ⟨rfl, rfl⟩
end Go.Proofs.YtahapblgmehngaaGreatDoor

namespace Go.Dr
open Go.RowKit

/-- An entry that lies on a shelf, and its number. -/
structure It where
  id : Int
  key : Bytes
  lp : List F
  st : Int
  lf : List F
  body : Bytes
  asked : Int
  came : Int
def It.cost (x : It) : Nat := 64 + x.key.length + x.body.length + fsum x.lf + fsum x.lp
def It.of (id : Int) (q : En) (lp lf : List F) : It := ⟨id, q.key, lp, q.st, lf, q.body, q.asked, q.came⟩
/-- A link: its block, the cells of its two lists, what it holds. -/
structure Nd where
  b : Nat
  vp : Value
  vf : Value
  x : It
def Nd.k (n : Nd) : K := ⟨n.x.id, n.x.cost, n.x.key, n.vp, n.x.st, n.vf, n.x.body, n.x.asked, n.x.came⟩
def Nd.n (n : Nd) : N := (n.b, n.k)
def Nd.en (n : Nd) : En := ⟨n.x.key, n.vp, n.x.st, n.vf, n.x.body, n.x.asked, n.x.came⟩
def costs (l : List It) : Nat := (l.map It.cost).sum
theorem costs_append (a b : List It) : costs (a ++ b) = costs a + costs b := by simp [costs]
theorem costs_cons (x : It) (l : List It) : costs (x :: l) = x.cost + costs l := by simp [costs]
@[simp] theorem costs_nil : costs [] = 0 := rfl
theorem nd_blocks (l : List Nd) : (l.map Nd.n).map (·.1) = l.map Nd.b := by simp [Nd.n]
/-- The seven cells of an entry are written. -/
abbrev put7 (w : World) (g : Nat) (b0 b1 b2 b3 b4 b5 b6 : Value) : World := (((((((w.setCell ⟨g, 0, none⟩ b0).setCell ⟨g, 1, none⟩ b1).setCell ⟨g, 2, none⟩ b2).setCell ⟨g, 3, none⟩ b3).setCell ⟨g, 4, none⟩ b4).setCell ⟨g, 5, none⟩ b5).setCell ⟨g, 6, none⟩ b6)
theorem Blk.put7 {w : World} {g : Nat} {t : TypeId} {z0 z1 z2 z3 z4 z5 z6 : Value} (h : Blk w g t #[z0, z1, z2, z3, z4, z5, z6]) (b0 b1 b2 b3 b4 b5 b6 : Value) : Blk (put7 w g b0 b1 b2 b3 b4 b5 b6) g t #[b0, b1, b2, b3, b4, b5, b6] := by
  have := ((((((h.set 0 b0).set 1 b1).set 2 b2).set 3 b3).set 4 b4).set 5 b5).set 6 b6
  simpa using this
theorem heap_put7 (w : World) (g : Nat) (b0 b1 b2 b3 b4 b5 b6 : Value) (k : Nat) (hk : k ≠ g) : (put7 w g b0 b1 b2 b3 b4 b5 b6).heap[k]? = w.heap[k]? := by
  unfold put7
  rw [Below.heap_setCell _ _ _ k hk, Below.heap_setCell _ _ _ k hk, Below.heap_setCell _ _ _ k hk, Below.heap_setCell _ _ _ k hk, Below.heap_setCell _ _ _ k hk, Below.heap_setCell _ _ _ k hk, Below.heap_setCell _ _ _ k hk]
theorem put7_below {B : Nat} {a w : World} (h : Below B a w) {g : Nat} (hg : B ≤ g) (b0 b1 b2 b3 b4 b5 b6 : Value) : Below B a (put7 w g b0 b1 b2 b3 b4 b5 b6) :=
  ((((((h.setCell (p := ⟨g, 0, none⟩) hg b0).setCell (p := ⟨g, 1, none⟩) hg b1).setCell (p := ⟨g, 2, none⟩) hg b2).setCell (p := ⟨g, 3, none⟩) hg b3).setCell (p := ⟨g, 4, none⟩) hg b4).setCell (p := ⟨g, 5, none⟩) hg b5).setCell (p := ⟨g, 6, none⟩) hg b6
end Go.Dr
namespace Go.Proofs.YtahapblgmehngaaGreatDoor
open Go.RowKit Go.Dr

def Rows (rb : Nat) (w : World) (n : Nd) : Prop := w.ownsRow rb 89 3 n.vp n.x.lp.length (fcells n.x.lp) ∧ w.ownsRow rb 60 3 n.vf n.x.lf.length (fcells n.x.lf)
/-- The blocks of a shelf. -/
def Foot (s R m : Nat) (l : List Nd) (k : Nat) : Prop := k = s ∨ k = m ∨ k = R ∨ k ∈ l.map Nd.b

/-- A shelf: its block s, its root R, its map m, its room, the last number, its links. The blocks are fb or above, the links' lists rb or above. -/
structure Sh (fb rb : Nat) (w : World) (s R m : Nat) (most last : Int) (l : List Nd) : Prop where
  blk : Blk w s 100 #[.int .i64 most, .int .i64 (costs (l.map Nd.x) : Nat), .int .i64 last, Ptr R, .map (some m)]
  ring : Ring w 97 R (l.map Nd.n)
  map : PMap Tryz.prog 3 w m (l.map fun n => (n.x.id, n.b))
  rows : ∀ n ∈ l, Rows rb w n
  base : ∀ k, Foot s R m l k → fb ≤ k
  room : (costs (l.map Nd.x) : Int) ≤ most
  most1 : most ≤ 1048576

theorem Rows.block {rb : Nat} {w w' : World} {n : Nd} (h : Rows rb w n) (hb : ∀ g cur, (w.heap[g]? = some (.cells cur 89 (0, 0)) ∨ w.heap[g]? = some (.cells cur 60 (0, 0))) → rb ≤ g → w'.heap[g]? = w.heap[g]?) : Rows rb w' n :=
  ⟨own_block h.1 fun g cur hg hr => hb g cur (.inl hg) hr, own_block h.2 fun g cur hg hr => hb g cur (.inr hg) hr⟩
theorem Rows.below {rb : Nat} {w w' : World} {n : Nd} (h : Rows rb w n) (hb : Below w.heap.size w w') : Rows rb w' n := ⟨own_below h.1 hb, own_below h.2 hb⟩

section
variable {fb rb : Nat} {w w' : World} {s R m : Nat} {most last : Int} {l : List Nd}
theorem Sh.ndlt (h : Sh fb rb w s R m most last l) {n : Nd} (hn : n ∈ l) : n.b < w.heap.size := h.ring.lt (b := n.b) (by rw [nd_blocks]; simp; exact .inr ⟨n, hn, rfl⟩)
theorem Sh.rlt (h : Sh fb rb w s R m most last l) : R < w.heap.size := h.ring.lt (b := R) (by simp)
theorem Sh.foot_lt (h : Sh fb rb w s R m most last l) {k : Nat} (hk : Foot s R m l k) : k < w.heap.size := by
  rcases hk with rfl | rfl | rfl | hk
  · exact h.blk.lt
  · exact h.map.lt
  · exact h.rlt
  · obtain ⟨n, hn, rfl⟩ := List.mem_map.1 hk
    exact h.ndlt hn
theorem Sh.at {a b : List Nd} {n : Nd} (h : Sh fb rb w s R m most last (a ++ n :: b)) : Blk w n.b 97 (n.k.cells (lastOr (a.map Nd.n) R) (headOr (b.map Nd.n) R)) := by
  have := h.ring
  rw [List.map_append, List.map_cons] at this
  exact this.at
theorem Sh.nd (h : Sh fb rb w s R m most last l) {n : Nd} (hn : n ∈ l) : ∃ p q, Blk w n.b 97 (n.k.cells p q) := by
  obtain ⟨a, b, rfl⟩ := List.append_of_mem hn
  exact ⟨_, _, h.at⟩
/-- A block of another kind than the shelf's is none of its. -/
theorem Sh.off (h : Sh fb rb w s R m most last l) {g : Nat} {t : TypeId} {xs : Array Value} (hg : w.heap[g]? = some (.cells xs t (0, 0))) (h1 : t ≠ 100) (h2 : t ≠ 97) : ¬ Foot s R m l g := by
  rintro (rfl | rfl | rfl | hk)
  · have := h.blk
    unfold Blk at this
    rw [hg] at this
    simp only [Option.some.injEq, Obj.cells.injEq] at this
    exact h1 this.2.1
  · obtain ⟨es, clock, e⟩ := h.map.obj
    rw [hg] at e
    simp at e
  · have := h.ring.root
    unfold Blk at this
    rw [hg] at this
    simp only [Option.some.injEq, Obj.cells.injEq] at this
    exact h2 this.2.1
  · obtain ⟨n, hn, rfl⟩ := List.mem_map.1 hk
    obtain ⟨p, q, this⟩ := h.nd hn
    unfold Blk at this
    rw [hg] at this
    simp only [Option.some.injEq, Obj.cells.injEq] at this
    exact h2 this.2.1
theorem Sh.keep (h : Sh fb rb w s R m most last l) (hk : ∀ k, Foot s R m l k → w'.heap[k]? = w.heap[k]?) (hr : ∀ n ∈ l, Rows rb w' n) : Sh fb rb w' s R m most last l where
  blk := h.blk.block (hk s (.inl rfl))
  ring := h.ring.block fun b hb => hk b (by
    rw [nd_blocks, List.mem_cons] at hb
    rcases hb with rfl | hb
    · exact .inr (.inr (.inl rfl))
    · exact .inr (.inr (.inr hb)))
  map := h.map.block (hk m (.inr (.inl rfl)))
  rows := hr
  base := h.base
  room := h.room
  most1 := h.most1
theorem Sh.below (h : Sh fb rb w s R m most last l) (hb : Below w.heap.size w w') : Sh fb rb w' s R m most last l := h.keep (fun k hk => hb.block k (h.foot_lt hk)) fun n hn => (h.rows n hn).below hb
theorem Sh.drew (h : Sh fb rb w s R m most last l) : Sh fb rb w.drew s R m most last l := ⟨h.blk, h.ring.block fun _ _ => rfl, h.map.block rfl, h.rows, h.base, h.room, h.most1⟩
theorem Sh.ne_s (h : Sh fb rb w s R m most last l) : s ≠ R ∧ s ≠ m ∧ m ≠ R ∧ (∀ n ∈ l, n.b ≠ s ∧ n.b ≠ m ∧ n.b ≠ R) := by
  have h1 := h.blk
  obtain ⟨es, clock, h2⟩ := h.map.obj
  have h3 := h.ring.root
  unfold Blk at h1 h3
  refine ⟨?_, ?_, ?_, fun n hn => ⟨?_, ?_, ?_⟩⟩
  · rintro rfl; rw [h3] at h1; simp only [Option.some.injEq, Obj.cells.injEq] at h1; exact absurd h1.2.1 (by decide)
  · rintro rfl; rw [h2] at h1; simp at h1
  · rintro rfl; rw [h3] at h2; simp at h2
  · rintro rfl
    obtain ⟨p, q, this⟩ := h.nd hn
    unfold Blk at this
    rw [h1] at this; simp only [Option.some.injEq, Obj.cells.injEq] at this; exact absurd this.2.1 (by decide)
  · rintro rfl
    obtain ⟨p, q, this⟩ := h.nd hn
    unfold Blk at this
    rw [h2] at this; simp at this
  · intro e
    have := h.ring.nodup
    rw [nd_blocks, List.nodup_cons] at this
    exact this.1 (e ▸ List.mem_map_of_mem hn)
theorem Sh.cost_le (h : Sh fb rb w s R m most last l) {n : Nd} (hn : n ∈ l) : n.x.cost ≤ 1048576 := by
  have h1 := h.room
  have h2 := h.most1
  obtain ⟨a, b, rfl⟩ := List.append_of_mem hn
  rw [List.map_append, List.map_cons, costs_append, costs_cons] at h1
  omega
theorem Sh.ids (h : Sh fb rb w s R m most last l) : (l.map fun n => n.x.id).Nodup := by
  obtain ⟨D, _, _, _, h4, _⟩ := h.map
  simpa [List.map_map, Function.comp_def] using h4
end
end Go.Proofs.YtahapblgmehngaaGreatDoor

namespace Go.Proofs.YtahapblgmehngaaGreatDoor
open Go.RowKit Go.Dr

theorem last_of (a : List Nd) (R : Nat) : lastOr (a.map Nd.n) R = R ∨ ∃ n ∈ a, n.b = lastOr (a.map Nd.n) R := by
  rcases lastOr_mem (a.map Nd.n) R with e | e
  · exact .inl e
  · rw [nd_blocks] at e
    obtain ⟨n, hn, e⟩ := List.mem_map.1 e
    exact .inr ⟨n, hn, e⟩
theorem head_of (a : List Nd) (R : Nat) : headOr (a.map Nd.n) R = R ∨ ∃ n ∈ a, n.b = headOr (a.map Nd.n) R := by
  rcases headOr_mem (a.map Nd.n) R with e | e
  · exact .inl e
  · rw [nd_blocks] at e
    obtain ⟨n, hn, e⟩ := List.mem_map.1 e
    exact .inr ⟨n, hn, e⟩
/-- The cell of a link that is in the ring, or of the root. -/
theorem ring_cell {fb rb : Nat} {w : World} {s R m : Nat} {most last : Int} {l : List Nd} (h : Sh fb rb w s R m most last l) {b : Nat} (hb : b = R ∨ ∃ n ∈ l, n.b = b) : ∃ k p q, Blk w b 97 (K.cells k p q) := by
  rcases hb with rfl | ⟨n, hn, rfl⟩
  · exact ⟨_, _, _, h.ring.root⟩
  · obtain ⟨p, q, e⟩ := h.nd hn
    exact ⟨_, p, q, e⟩

set_option maxRecDepth 100000 in
set_option maxHeartbeats 4000000 in
theorem drop_any (fb rb s R m : Nat) (most last : Int) (a b : List Nd) (n : Nd) (w : World) (h : Sh fb rb w s R m most last (a ++ n :: b)) :
    Calls Tryz.prog 99 #[Ptr s, Ptr n.b] w fun e w' => e = .returned (.tuple #[]) ∧ Sh fb rb w' s R m most last (a ++ b) ∧ But (Foot s R m (a ++ n :: b)) w w' := by
  have hne := h.ne_s
  have hat := h.at
  obtain ⟨p, ep⟩ : ∃ p, p = lastOr (a.map Nd.n) R := ⟨_, rfl⟩
  obtain ⟨q, eq⟩ : ∃ q, q = headOr (b.map Nd.n) R := ⟨_, rfl⟩
  have hpm : p = R ∨ ∃ n' ∈ a ++ n :: b, n'.b = p := by
    rcases last_of a R with e | ⟨n', hn, e⟩
    · exact .inl (ep.trans e)
    · exact .inr ⟨n', by simp [hn], e.trans ep.symm⟩
  have hqm : q = R ∨ ∃ n' ∈ a ++ n :: b, n'.b = q := by
    rcases head_of b R with e | ⟨n', hn, e⟩
    · exact .inl (eq.trans e)
    · exact .inr ⟨n', by simp [hn], e.trans eq.symm⟩
  have hnd := h.ring.nodup
  rw [nd_blocks, List.map_append, List.map_cons] at hnd
  have hp1 : p ≠ n.b := by
    rcases last_of a R with e | ⟨n', hn, e⟩
    · intro e1; rw [← e1, ep, e] at hnd; simp at hnd
    · intro e1
      simp only [List.nodup_cons, List.nodup_append] at hnd
      exact hnd.2.2.2 n'.b (List.mem_map_of_mem hn) n.b (by simp) (e.trans (ep.symm.trans e1))
  have hq1 : q ≠ n.b := by
    rcases head_of b R with e | ⟨n', hn, e⟩
    · intro e1; rw [← e1, eq, e] at hnd; simp at hnd
    · intro e1
      simp only [List.nodup_cons, List.nodup_append] at hnd
      exact hnd.2.2.1.1 ((e.trans (eq.symm.trans e1)) ▸ List.mem_map_of_mem hn)
  obtain ⟨kp, p1, p2, hpb⟩ := ring_cell h hpm
  obtain ⟨kq, q1, q2, hqb⟩ := ring_cell h hqm
  have hout := h.ring
  rw [List.map_append, List.map_cons] at hout
  have hout := hout.out
  rw [← ep, ← eq] at hat
  rw [← ep, ← eq, ← List.map_append] at hout
  have hsp : s ≠ p := by
    rcases hpm with e | ⟨n', hn, e⟩
    · rw [e]; exact hne.1
    · rw [← e]; exact fun e => (hne.2.2.2 n' hn).1 e.symm
  have hsq : s ≠ q := by
    rcases hqm with e | ⟨n', hn, e⟩
    · rw [e]; exact hne.1
    · rw [← e]; exact fun e => (hne.2.2.2 n' hn).1 e.symm
  have hmp : m ≠ p := by
    rcases hpm with e | ⟨n', hn, e⟩
    · rw [e]; exact hne.2.2.1
    · rw [← e]; exact fun e => (hne.2.2.2 n' hn).2.1 e.symm
  have hmq : m ≠ q := by
    rcases hqm with e | ⟨n', hn, e⟩
    · rw [e]; exact hne.2.2.1
    · rw [← e]; exact fun e => (hne.2.2.2 n' hn).2.1 e.symm
  have hfp : Foot s R m (a ++ n :: b) p := by
    rcases hpm with e | ⟨n', hn, e⟩
    · exact .inr (.inr (.inl e))
    · exact .inr (.inr (.inr (e ▸ List.mem_map_of_mem hn)))
  have hfq : Foot s R m (a ++ n :: b) q := by
    rcases hqm with e | ⟨n', hn, e⟩
    · exact .inr (.inr (.inl e))
    · exact .inr (.inr (.inr (e ▸ List.mem_map_of_mem hn)))
  have hC := out_any n.b p q (Ptr p2) (Ptr q1) w (hat.cell 9) (hat.cell 10) hp1 hq1 (hpb.cell 10) (hpb.free 10) (hqb.cell 9) (hqb.free 9)
  obtain ⟨w1, ew⟩ : ∃ w1 : World, w1 = ((w.setCell ⟨p, 10, none⟩ (Ptr q)).setCell ⟨q, 9, none⟩ (Ptr p)).drew := ⟨_, rfl⟩
  rw [← ew] at hC
  have hr1 : Ring w1 97 R ((a ++ b).map Nd.n) := by rw [ew]; exact hout.block fun _ _ => rfl
  have hs1 : Blk w1 s 100 #[.int .i64 most, .int .i64 (costs ((a ++ n :: b).map Nd.x) : Nat), .int .i64 last, Ptr R, .map (some m)] := by rw [ew]; exact ((h.blk.other (p := ⟨p, 10, none⟩) hsp _).other (p := ⟨q, 9, none⟩) hsq _).drew
  have hn1 : Blk w1 n.b 97 (n.k.cells p q) := by rw [ew]; exact ((hat.other (p := ⟨p, 10, none⟩) (fun e => hp1 e.symm) _).other (p := ⟨q, 9, none⟩) (fun e => hq1 e.symm) _).drew
  have hm1 : PMap Tryz.prog 3 w1 m ((a ++ n :: b).map fun n => (n.x.id, n.b)) := by
    rw [ew]
    refine h.map.block ?_
    exact (Below.heap_setCell _ ⟨q, 9, none⟩ _ m hmq).trans (Below.heap_setCell _ ⟨p, 10, none⟩ _ m hmp)
  have hb1 : But (Foot s R m (a ++ n :: b)) w w1 := by rw [ew]; exact (((But.refl _ w).setCell (p := ⟨p, 10, none⟩) (.inl hfp) _).setCell (p := ⟨q, 9, none⟩) (.inl hfq) _).drew
  have hc1 : costs ((a ++ n :: b).map Nd.x) = costs ((a ++ b).map Nd.x) + n.x.cost := by simp only [List.map_append, List.map_cons, costs_append, costs_cons]; omega
  have hrm := h.room
  have hmm := h.most1
  obtain ⟨c1, ec1⟩ : ∃ c1, c1 = costs ((a ++ n :: b).map Nd.x) := ⟨_, rfl⟩
  obtain ⟨c0, ec0⟩ : ∃ c0, c0 = costs ((a ++ b).map Nd.x) := ⟨_, rfl⟩
  obtain ⟨cn, ecn⟩ : ∃ cn, cn = n.x.cost := ⟨_, rfl⟩
  rw [← ec1] at hs1 hc1 hrm
  rw [← ec0, ← ecn] at hc1
  have v1 : w1.cell? ⟨s, 1, none⟩ = some (.int .i64 (c1 : Nat)) := hs1.cell 1
  have v2 : w1.cell? ⟨n.b, 1, none⟩ = some (.int .i64 (cn : Nat)) := by rw [ecn]; exact hn1.cell 1
  clear ecn
  have f1 := hs1.free 1
  obtain ⟨w2, ew2⟩ : ∃ w2 : World, w2 = (w1.setCell ⟨s, 1, none⟩ (.int .i64 (c0 : Nat))).drew := ⟨_, rfl⟩
  have hs2 : Blk w2 s 100 #[.int .i64 most, .int .i64 (c0 : Nat), .int .i64 last, Ptr R, .map (some m)] := by
    rw [ew2]
    have := (hs1.set 1 (.int .i64 (c0 : Nat))).drew
    simpa using this
  have hn2 : Blk w2 n.b 97 (n.k.cells p q) := by rw [ew2]; exact (hn1.other (p := ⟨s, 1, none⟩) (hne.2.2.2 n (by simp)).1 _).drew
  have hr2 : Ring w2 97 R ((a ++ b).map Nd.n) := by
    rw [ew2]
    refine hr1.block fun k hk => Below.heap_setCell w1 ⟨s, 1, none⟩ _ k ?_
    rw [nd_blocks, List.mem_cons] at hk
    rcases hk with e | hk
    · rw [e]; exact fun e => hne.1 e.symm
    · obtain ⟨n', hn', e⟩ := List.mem_map.1 hk
      rw [← e]
      exact (hne.2.2.2 n' (mem_more hn')).1
  have hm2 : PMap Tryz.prog 3 w2 m ((a ++ n :: b).map fun n => (n.x.id, n.b)) := by rw [ew2]; exact hm1.block (Below.heap_setCell w1 ⟨s, 1, none⟩ _ m fun e => hne.2.1 e.symm)
  have hb2 : But (Foot s R m (a ++ n :: b)) w w2 := by rw [ew2]; exact (hb1.setCell (p := ⟨s, 1, none⟩) (.inl (.inl rfl)) _).drew
  rw [List.map_append, List.map_cons] at hm2
  obtain ⟨w3, hrun, hm3, ht3⟩ := (show PMap Tryz.prog 3 w2.drew m _ from hm2.block rfl).drop Tryz.underlying3 Tryz.underlying98 0
  simp only at hrun
  have hb3 : But (Foot s R m (a ++ n :: b)) w w3 := hb2.drew.trans (But.grown ht3.grown (.inr (.inl rfl)))
  have g2 : ∀ k, k ≠ m → k < w2.heap.size → w3.heap[k]? = w2.heap[k]? := fun k hk hl => ht3.grown.block k hl (by simpa using hk)
  have hfin : Sh fb rb w3 s R m most last (a ++ b) := by
    refine ⟨?_, ?_, ?_, ?_, ?_, ?_, hmm⟩
    · rw [← ec0]; exact hs2.block (g2 s hne.2.1 hs2.lt)
    · refine hr2.block fun k hk => g2 k ?_ (hr2.lt hk)
      rw [nd_blocks, List.mem_cons] at hk
      rcases hk with e | hk
      · rw [e]; exact fun e => hne.2.2.1 e.symm
      · obtain ⟨n', hn', e⟩ := List.mem_map.1 hk
        rw [← e]
        exact (hne.2.2.2 n' (mem_more hn')).2.1
    · rw [List.map_append]; exact hm3
    · exact fun n' hn' => (h.rows n' (mem_more hn')).block fun g cur hg _ => hb3.block g (by rcases hg with hg | hg <;> exact (Array.getElem?_eq_some_iff.1 hg).1) (by
        rcases hg with hg | hg
        · exact h.off hg (by decide) (by decide)
        · exact h.off hg (by decide) (by decide))
    · exact fun k hk => h.base k (by
        rcases hk with e | e | e | hk
        · exact .inl e
        · exact .inr (.inl e)
        · exact .inr (.inr (.inl e))
        · refine .inr (.inr (.inr ?_))
          rw [List.map_append] at hk ⊢
          exact mem_more hk)
    · rw [← ec0]; omega
  have x4 : w2.cell? ⟨s, 4, none⟩ = some (.map (some m)) := hs2.cell 4
  have x0 : w2.cell? ⟨n.b, 0, none⟩ = some (.int .i64 n.x.id) := hn2.cell 0
  have hsub : (c1 : Int) - (cn : Int) = (c0 : Int) := by omega
  have hwr : IntKind.i64.wrap ((c1 : Int) - (cn : Int)) = (c0 : Int) := by rw [hsub, IntKind.wrap_i64]; omega
  clear hsub
  have HE := Lib.hid ew2
  clear ew2 ew hout hpb hqb hat hpm hqm hnd hr1 hm1 hb1 hs1 hn1 ec1 ec0 hfp hfq hb2 hm2 hr2 hs2 hn2 ht3 g2 hp1 hq1 hm3 hne hc1 hrm h ep eq hsp hsq hmp hmq
  go_enter Tryz.func99, Tryz.ntmps99
  go_wp2_with fail
  refine hC.mono ?_
  rintro e w' ⟨rfl, rfl⟩
  go_wp2_with fail
  go_region_with (fail)
  all_goals
    rw [← HE.out]
    go_wp2_with fail
    go_region_with (fail)
    all_goals
      go_wp2
      go_end0
      exact ⟨rfl, hfin, hb3⟩
end Go.Proofs.YtahapblgmehngaaGreatDoor

