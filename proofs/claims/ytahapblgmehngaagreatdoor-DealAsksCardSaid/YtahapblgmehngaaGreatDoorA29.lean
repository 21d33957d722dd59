/- Parts of the proof of DealAsks_holds: the texts Shq0 Shf1 Shp. -/
import Derived.LaidEqlPtr
import Derived.Deep.RegionHeld3
import Derived.Test.YtahapblgmehngaaGreatDoorProg
import Derived.Test.YtahapblgmehngaaGreatDoorA26
import Derived.Test.YtahapblgmehngaaGreatDoorA2
import Derived.Test.YtahapblgmehngaaGreatDoorA27
set_option linter.unusedSimpArgs false
set_option linter.unusedVariables false
set_option linter.unnecessarySimpa false
namespace Go.Dr
open Go Go.RowKit
theorem run_neq_same {P : Program} (w : World) {tp te : TypeId} {j : TypeInfo} (a : Addr) (hp : P.underlying tp = some (.pointer te)) (hte : P.info? te = some j) :
    (binOp .neq tp (.pointer (some a)) (.pointer (some a))).run P w = .ok (.bool false) w := by
  have h : ∀ d : Nat, (Op.equalIn (d + 1) tp (.pointer (some a)) (.pointer (some a))).run P w = .ok true w := fun d => by
    simp [Op.equalIn, run_underlying hp, sizeOf, typeInfo, hte, run_sameAddr_same]
  simp only [binOp]
  simp [Op.equal, Op.maxDepth, h 9999]
theorem run_neq_other {P : Program} (w : World) {tp te : TypeId} {j : TypeInfo} {a b : Addr} {ca cb : Array Value} {ta tb : TypeId} (hp : P.underlying tp = some (.pointer te)) (hte : P.info? te = some j) (hsz : j.size ≠ 0)
    (hne : a ≠ b) (ha : w.heap[a.block]? = some (.cells ca ta (0, 0))) (hb : w.heap[b.block]? = some (.cells cb tb (0, 0))) :
    (binOp .neq tp (.pointer (some a)) (.pointer (some b))).run P w = .ok (.bool true) w := by
  have h : ∀ d : Nat, (Op.equalIn (d + 1) tp (.pointer (some a)) (.pointer (some b))).run P w = .ok false w := fun d => by
    simp [Op.equalIn, run_underlying hp, sizeOf, typeInfo, hte, hsz, run_sameAddr_other w hne ha hb]
  simp only [binOp]
  simp [Op.equal, Op.maxDepth, h 9999]
end Go.Dr
namespace Go.Proofs.YtahapblgmehngaaGreatDoor
open Go.RowKit Go.Dr
theorem linkSize : (Tryz.prog.info? 97).map (·.size) = some 11 := by kernel_rfl
theorem neq_link {W : World} {x a : Nat} {cx ca : Array Value} (hx : Blk W x 97 cx) (ha : Blk W a 97 ca) (c : Bool) (hc : c = !decide (x = a)) : (binOp .neq 95 (Ptr x) (Ptr a)).run Tryz.prog W = .ok (.bool c) W := by
  obtain ⟨j, hj, hjs⟩ := Option.map_eq_some_iff.1 linkSize
  subst hc
  by_cases h : x = a
  · subst h
    rw [decide_eq_true rfl]
    exact run_neq_same (P := Tryz.prog) W (⟨x, 0, none⟩ : Addr) Tryz.underlying95 hj
  · rw [decide_eq_false h]
    exact run_neq_other (P := Tryz.prog) W (a := ⟨x, 0, none⟩) (b := ⟨a, 0, none⟩) Tryz.underlying95 hj (by rw [hjs]; decide) (by intro e; cases e; exact h rfl) hx ha
end Go.Proofs.YtahapblgmehngaaGreatDoor

namespace Go.Proofs.YtahapblgmehngaaGreatDoor
open Go.RowKit Go.Dr

set_option maxRecDepth 100000 in
set_option maxHeartbeats 2000000 in
theorem out_any (L p q : Nat) (u v : Value) (w : World) (h9 : w.cell? ⟨L, 9, none⟩ = some (Ptr p)) (h10 : w.cell? ⟨L, 10, none⟩ = some (Ptr q)) (hp : p ≠ L) (hq : q ≠ L)
    (k10 : w.cell? ⟨p, 10, none⟩ = some u) (f10 : w.frozen? ⟨p, 10, none⟩ = false) (k9 : w.cell? ⟨q, 9, none⟩ = some v) (f9 : w.frozen? ⟨q, 9, none⟩ = false) :
    Calls Tryz.prog 64 #[Ptr L] w fun e w' => e = .returned (.tuple #[]) ∧ w' = ((w.setCell ⟨p, 10, none⟩ (Ptr q)).setCell ⟨q, 9, none⟩ (Ptr p)).drew := by
  have hp' : ¬ p = L := hp
  have hq' : ¬ q = L := hq
  have hp2 : ¬ L = p := fun e => hp e.symm
  have hq2 : ¬ L = q := fun e => hq e.symm
  have s9 : (w.setCell ⟨p, 10, none⟩ (Ptr q)).cell? ⟨q, 9, none⟩ = some v := by
    rw [World.cell?_setCell_other _ _ _ _ (by intro e; cases e)]; exact k9
  go_enter Tryz.func64, Tryz.ntmps64
  go_wp2_with fail
  go_region_held3 (fun w' => w'.cell? ⟨L, 9, none⟩ = some (Ptr p) ∧ w'.cell? ⟨L, 10, none⟩ = some (Ptr q))
    (first | go_keep)
    (fail)
  all_goals
    go_wp2
    go_end0
    exact ⟨rfl, rfl⟩

/-- A link is laid at the end of the ring. -/
theorem used_any (s L R a : Nat) (u v x y : Value) (w : World) (c3 : w.cell? ⟨s, 3, none⟩ = some (Ptr R)) (r9 : w.cell? ⟨R, 9, none⟩ = some (Ptr a)) (fr9 : w.frozen? ⟨R, 9, none⟩ = false)
    (l9 : w.cell? ⟨L, 9, none⟩ = some u) (fl9 : w.frozen? ⟨L, 9, none⟩ = false) (l10 : w.cell? ⟨L, 10, none⟩ = some v) (fl10 : w.frozen? ⟨L, 10, none⟩ = false) (a10 : w.cell? ⟨a, 10, none⟩ = some x) (fa10 : w.frozen? ⟨a, 10, none⟩ = false)
    (hs : s ≠ L) (hR : R ≠ L) (ha : a ≠ L) (hsa : s ≠ a) (hsR : s ≠ R) :
    Calls Tryz.prog 65 #[Ptr s, Ptr L] w fun e w' => e = .returned (.tuple #[]) ∧ w' = ((((w.setCell ⟨L, 9, none⟩ (Ptr a)).setCell ⟨L, 10, none⟩ (Ptr R)).setCell ⟨a, 10, none⟩ (Ptr L)).setCell ⟨R, 9, none⟩ (Ptr L)).drew := by
  have n1 : ¬ s = L := hs
  have n2 : ¬ R = L := hR
  have n3 : ¬ a = L := ha
  have n4 : ¬ L = s := fun e => hs e.symm
  have n5 : ¬ L = R := fun e => hR e.symm
  have n6 : ¬ L = a := fun e => ha e.symm
  have b10 : (w.setCell ⟨L, 9, none⟩ (Ptr a)).cell? ⟨L, 10, none⟩ = some v := by rw [World.cell?_setCell_other _ _ _ _ (by intro e; cases e)]; exact l10
  obtain ⟨w2, ew⟩ : ∃ w2 : World, w2 = ((w.setCell ⟨L, 9, none⟩ (Ptr a)).setCell ⟨L, 10, none⟩ (Ptr R)).drew := ⟨_, rfl⟩
  have far : ∀ (b o : Nat) (z : Value), b ≠ L → w.cell? ⟨b, o, none⟩ = some z → w2.cell? ⟨b, o, none⟩ = some z := fun b o z hb h => by
    rw [ew]
    show (((w.setCell ⟨L, 9, none⟩ (Ptr a)).setCell ⟨L, 10, none⟩ (Ptr R))).cell? ⟨b, o, none⟩ = some z
    rw [World.cell?_setCell_other _ _ _ _ (by intro e; cases e; exact hb rfl), World.cell?_setCell_other _ _ _ _ (by intro e; cases e; exact hb rfl)]
    exact h
  have d3 := far s 3 _ hs c3
  have d9 := far R 9 _ hR r9
  have d10 := far a 10 _ ha a10
  have g10 : w2.frozen? ⟨a, 10, none⟩ = false := by rw [ew]; simpa using fa10
  have g9 : (w2.setCell ⟨a, 10, none⟩ (Ptr L)).frozen? ⟨R, 9, none⟩ = false := by rw [ew]; simpa using fr9
  have e3 : (w2.setCell ⟨a, 10, none⟩ (Ptr L)).cell? ⟨s, 3, none⟩ = some (Ptr R) := by rw [World.cell?_setCell_other _ _ _ _ (by intro e; cases e)]; exact d3
  have e9 : (w2.setCell ⟨a, 10, none⟩ (Ptr L)).cell? ⟨R, 9, none⟩ = some (Ptr a) := by rw [World.cell?_setCell_other _ _ _ _ (by intro e; cases e)]; exact d9
  have HW := Lib.hid ew
  go_enter Tryz.func65, Tryz.ntmps65
  go_wp2_with fail
  go_region_held3 (fun w' => w'.cell? ⟨s, 3, none⟩ = some (Ptr R) ∧ w'.cell? ⟨R, 9, none⟩ = some (Ptr a))
    (first | go_keep)
    (fail)
  all_goals
    rw [← HW.out]
    go_wp2
    go_end0
    exact ⟨rfl, rfl⟩
end Go.Proofs.YtahapblgmehngaaGreatDoor

namespace Go.Dr
open Go.RowKit

/-- An entry that lies on a shelf, and its number. -/
structure It where
  id : Int
  key : Bytes
  lp : List F
  st : Int
  lf : List F
  body : Bytes
  asked : Int
  came : Int
def It.cost (x : It) : Nat := 64 + x.key.length + x.body.length + fsum x.lf + fsum x.lp
def It.of (id : Int) (q : En) (lp lf : List F) : It := ⟨id, q.key, lp, q.st, lf, q.body, q.asked, q.came⟩
/-- A link: its block, the cells of its two lists, what it holds. -/
structure Nd where
  b : Nat
  vp : Value
  vf : Value
  x : It
def Nd.k (n : Nd) : K := ⟨n.x.id, n.x.cost, n.x.key, n.vp, n.x.st, n.vf, n.x.body, n.x.asked, n.x.came⟩
def Nd.n (n : Nd) : N := (n.b, n.k)
def Nd.en (n : Nd) : En := ⟨n.x.key, n.vp, n.x.st, n.vf, n.x.body, n.x.asked, n.x.came⟩
def costs (l : List It) : Nat := (l.map It.cost).sum
theorem costs_append (a b : List It) : costs (a ++ b) = costs a + costs b := by simp [costs]
theorem costs_cons (x : It) (l : List It) : costs (x :: l) = x.cost + costs l := by simp [costs]
@[simp] theorem costs_nil : costs [] = 0 := rfl
theorem nd_blocks (l : List Nd) : (l.map Nd.n).map (·.1) = l.map Nd.b := by simp [Nd.n]
/-- The seven cells of an entry are written. -/
abbrev put7 (w : World) (g : Nat) (b0 b1 b2 b3 b4 b5 b6 : Value) : World := (((((((w.setCell ⟨g, 0, none⟩ b0).setCell ⟨g, 1, none⟩ b1).setCell ⟨g, 2, none⟩ b2).setCell ⟨g, 3, none⟩ b3).setCell ⟨g, 4, none⟩ b4).setCell ⟨g, 5, none⟩ b5).setCell ⟨g, 6, none⟩ b6)
theorem Blk.put7 {w : World} {g : Nat} {t : TypeId} {z0 z1 z2 z3 z4 z5 z6 : Value} (h : Blk w g t #[z0, z1, z2, z3, z4, z5, z6]) (b0 b1 b2 b3 b4 b5 b6 : Value) : Blk (put7 w g b0 b1 b2 b3 b4 b5 b6) g t #[b0, b1, b2, b3, b4, b5, b6] := by
  have := ((((((h.set 0 b0).set 1 b1).set 2 b2).set 3 b3).set 4 b4).set 5 b5).set 6 b6
  simpa using this
theorem heap_put7 (w : World) (g : Nat) (b0 b1 b2 b3 b4 b5 b6 : Value) (k : Nat) (hk : k ≠ g) : (put7 w g b0 b1 b2 b3 b4 b5 b6).heap[k]? = w.heap[k]? := by
  unfold put7
  rw [Below.heap_setCell _ _ _ k hk, Below.heap_setCell _ _ _ k hk, Below.heap_setCell _ _ _ k hk, Below.heap_setCell _ _ _ k hk, Below.heap_setCell _ _ _ k hk, Below.heap_setCell _ _ _ k hk, Below.heap_setCell _ _ _ k hk]
theorem put7_below {B : Nat} {a w : World} (h : Below B a w) {g : Nat} (hg : B ≤ g) (b0 b1 b2 b3 b4 b5 b6 : Value) : Below B a (put7 w g b0 b1 b2 b3 b4 b5 b6) :=
  ((((((h.setCell (p := ⟨g, 0, none⟩) hg b0).setCell (p := ⟨g, 1, none⟩) hg b1).setCell (p := ⟨g, 2, none⟩) hg b2).setCell (p := ⟨g, 3, none⟩) hg b3).setCell (p := ⟨g, 4, none⟩) hg b4).setCell (p := ⟨g, 5, none⟩) hg b5).setCell (p := ⟨g, 6, none⟩) hg b6
end Go.Dr
namespace Go.Proofs.YtahapblgmehngaaGreatDoor
open Go.RowKit Go.Dr

def Rows (rb : Nat) (w : World) (n : Nd) : Prop := w.ownsRow rb 89 3 n.vp n.x.lp.length (fcells n.x.lp) ∧ w.ownsRow rb 60 3 n.vf n.x.lf.length (fcells n.x.lf)
/-- The blocks of a shelf. -/
def Foot (s R m : Nat) (l : List Nd) (k : Nat) : Prop := k = s ∨ k = m ∨ k = R ∨ k ∈ l.map Nd.b

/-- A shelf: its block s, its root R, its map m, its room, the last number, its links. The blocks are fb or above, the links' lists rb or above. -/
structure Sh (fb rb : Nat) (w : World) (s R m : Nat) (most last : Int) (l : List Nd) : Prop where
  blk : Blk w s 100 #[.int .i64 most, .int .i64 (costs (l.map Nd.x) : Nat), .int .i64 last, Ptr R, .map (some m)]
  ring : Ring w 97 R (l.map Nd.n)
  map : PMap Tryz.prog 3 w m (l.map fun n => (n.x.id, n.b))
  rows : ∀ n ∈ l, Rows rb w n
  base : ∀ k, Foot s R m l k → fb ≤ k
  room : (costs (l.map Nd.x) : Int) ≤ most
  most1 : most ≤ 1048576

theorem Rows.block {rb : Nat} {w w' : World} {n : Nd} (h : Rows rb w n) (hb : ∀ g cur, (w.heap[g]? = some (.cells cur 89 (0, 0)) ∨ w.heap[g]? = some (.cells cur 60 (0, 0))) → rb ≤ g → w'.heap[g]? = w.heap[g]?) : Rows rb w' n :=
  ⟨own_block h.1 fun g cur hg hr => hb g cur (.inl hg) hr, own_block h.2 fun g cur hg hr => hb g cur (.inr hg) hr⟩
theorem Rows.below {rb : Nat} {w w' : World} {n : Nd} (h : Rows rb w n) (hb : Below w.heap.size w w') : Rows rb w' n := ⟨own_below h.1 hb, own_below h.2 hb⟩

section
variable {fb rb : Nat} {w w' : World} {s R m : Nat} {most last : Int} {l : List Nd}
theorem Sh.ndlt (h : Sh fb rb w s R m most last l) {n : Nd} (hn : n ∈ l) : n.b < w.heap.size := h.ring.lt (b := n.b) (by rw [nd_blocks]; simp; exact .inr ⟨n, hn, rfl⟩)
theorem Sh.rlt (h : Sh fb rb w s R m most last l) : R < w.heap.size := h.ring.lt (b := R) (by simp)
theorem Sh.foot_lt (h : Sh fb rb w s R m most last l) {k : Nat} (hk : Foot s R m l k) : k < w.heap.size := by
  rcases hk with rfl | rfl | rfl | hk
  · exact h.blk.lt
  · exact h.map.lt
  · exact h.rlt
  · obtain ⟨n, hn, rfl⟩ := List.mem_map.1 hk
    exact h.ndlt hn
theorem Sh.at {a b : List Nd} {n : Nd} (h : Sh fb rb w s R m most last (a ++ n :: b)) : Blk w n.b 97 (n.k.cells (lastOr (a.map Nd.n) R) (headOr (b.map Nd.n) R)) := by
  have := h.ring
  rw [List.map_append, List.map_cons] at this
  exact this.at
theorem Sh.nd (h : Sh fb rb w s R m most last l) {n : Nd} (hn : n ∈ l) : ∃ p q, Blk w n.b 97 (n.k.cells p q) := by
  obtain ⟨a, b, rfl⟩ := List.append_of_mem hn
  exact ⟨_, _, h.at⟩
/-- A block of another kind than the shelf's is none of its. -/
theorem Sh.off (h : Sh fb rb w s R m most last l) {g : Nat} {t : TypeId} {xs : Array Value} (hg : w.heap[g]? = some (.cells xs t (0, 0))) (h1 : t ≠ 100) (h2 : t ≠ 97) : ¬ Foot s R m l g := by
  rintro (rfl | rfl | rfl | hk)
  · have := h.blk
    unfold Blk at this
    rw [hg] at this
    simp only [Option.some.injEq, Obj.cells.injEq] at this
    exact h1 this.2.1
  · obtain ⟨es, clock, e⟩ := h.map.obj
    rw [hg] at e
    simp at e
  · have := h.ring.root
    unfold Blk at this
    rw [hg] at this
    simp only [Option.some.injEq, Obj.cells.injEq] at this
    exact h2 this.2.1
  · obtain ⟨n, hn, rfl⟩ := List.mem_map.1 hk
    obtain ⟨p, q, this⟩ := h.nd hn
    unfold Blk at this
    rw [hg] at this
    simp only [Option.some.injEq, Obj.cells.injEq] at this
    exact h2 this.2.1
theorem Sh.keep (h : Sh fb rb w s R m most last l) (hk : ∀ k, Foot s R m l k → w'.heap[k]? = w.heap[k]?) (hr : ∀ n ∈ l, Rows rb w' n) : Sh fb rb w' s R m most last l where
  blk := h.blk.block (hk s (.inl rfl))
  ring := h.ring.block fun b hb => hk b (by
    rw [nd_blocks, List.mem_cons] at hb
    rcases hb with rfl | hb
    · exact .inr (.inr (.inl rfl))
    · exact .inr (.inr (.inr hb)))
  map := h.map.block (hk m (.inr (.inl rfl)))
  rows := hr
  base := h.base
  room := h.room
  most1 := h.most1
theorem Sh.below (h : Sh fb rb w s R m most last l) (hb : Below w.heap.size w w') : Sh fb rb w' s R m most last l := h.keep (fun k hk => hb.block k (h.foot_lt hk)) fun n hn => (h.rows n hn).below hb
theorem Sh.drew (h : Sh fb rb w s R m most last l) : Sh fb rb w.drew s R m most last l := ⟨h.blk, h.ring.block fun _ _ => rfl, h.map.block rfl, h.rows, h.base, h.room, h.most1⟩
theorem Sh.ne_s (h : Sh fb rb w s R m most last l) : s ≠ R ∧ s ≠ m ∧ m ≠ R ∧ (∀ n ∈ l, n.b ≠ s ∧ n.b ≠ m ∧ n.b ≠ R) := by
  have h1 := h.blk
  obtain ⟨es, clock, h2⟩ := h.map.obj
  have h3 := h.ring.root
  unfold Blk at h1 h3
  refine ⟨?_, ?_, ?_, fun n hn => ⟨?_, ?_, ?_⟩⟩
  · rintro rfl; rw [h3] at h1; simp only [Option.some.injEq, Obj.cells.injEq] at h1; exact absurd h1.2.1 (by decide)
  · rintro rfl; rw [h2] at h1; simp at h1
  · rintro rfl; rw [h3] at h2; simp at h2
  · rintro rfl
    obtain ⟨p, q, this⟩ := h.nd hn
    unfold Blk at this
    rw [h1] at this; simp only [Option.some.injEq, Obj.cells.injEq] at this; exact absurd this.2.1 (by decide)
  · rintro rfl
    obtain ⟨p, q, this⟩ := h.nd hn
    unfold Blk at this
    rw [h2] at this; simp at this
  · intro e
    have := h.ring.nodup
    rw [nd_blocks, List.nodup_cons] at this
    exact this.1 (e ▸ List.mem_map_of_mem hn)
theorem Sh.cost_le (h : Sh fb rb w s R m most last l) {n : Nd} (hn : n ∈ l) : n.x.cost ≤ 1048576 := by
  have h1 := h.room
  have h2 := h.most1
  obtain ⟨a, b, rfl⟩ := List.append_of_mem hn
  rw [List.map_append, List.map_cons, costs_append, costs_cons] at h1
  omega
theorem Sh.ids (h : Sh fb rb w s R m most last l) : (l.map fun n => n.x.id).Nodup := by
  obtain ⟨D, _, _, _, h4, _⟩ := h.map
  simpa [List.map_map, Function.comp_def] using h4
end
end Go.Proofs.YtahapblgmehngaaGreatDoor

